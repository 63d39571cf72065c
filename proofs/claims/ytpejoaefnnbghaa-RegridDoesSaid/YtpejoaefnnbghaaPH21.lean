/-
  Lemmas and walks of this claim (the texts Ma15 Mb15 Md15 Cb19 Mg15 of the work; what no proof here uses is left out). No claim of their own.
-/
import Derived.Test.YtpejoaefnnbghaaPH15
import Derived.Test.YtpejoaefnnbghaaPH19
import Derived.Test.YtpejoaefnnbghaaPH6
import Derived.Test.YtpejoaefnnbghaaPH17
import Derived.Lib.MinMax
set_option linter.all false
set_option linter.unusedSimpArgs false
set_option linter.unusedVariables false
namespace Go.Proofs.Ytpejoaefnnbghaa
open Go.RowKit
attribute [local irreducible] wpHeld wpTree wpList
attribute [local go_sem] Oper.semAt_some
set_option linter.unusedVariables false
def encP (w : Nat) (x : Nat × Int) : Array Value := #[.agg #[.int .i64 (xv w x), .int .i64 (yv w x)], .int .i64 x.2]
def PlR (b : Nat) (W H X Y S : Int) (A : Option Addr) (n c : Nat) (zs : List Int) (V : World) : Prop := Has V b #[.int .i64 W, .int .i64 H, .int .i64 X, .int .i64 Y, .int .i64 S, .slice A n c] 26 ∧ Rd V A n (ints .i64 zs)
set_option maxRecDepth 100000 in
theorem places15 {B : Nat} {w0 w : World} {F : World → Prop} {L : List Blk} (K : St B w0 L F w) (W H X Y S : Int) (A : Option Addr) (n c : Nat) :
    Calls Try.prog 56 #[.agg #[.int .i64 W, .int .i64 H, .int .i64 X, .int .i64 Y, .int .i64 S, .slice A n c]] w fun e w' => ∃ b, e = .returned (.func (.func 100) #[] #[.pointer (some ⟨b, 0, none⟩)]) ∧ St B w0 ((b, #[.int .i64 W, .int .i64 H, .int .i64 X, .int .i64 Y, .int .i64 S, .slice A n c], 26) :: L) F w' := by
  revert w
  intro ww K
  go_enter Try.func56, Try.ntmps56
  go_wp2_with (first|((first|((with_reducible refine at_box ?_);refine wm_box K rfl _ _ rfl rfl rfl ?_));(try clear K);(try clear ww);((fail_if_success (have _h := bb));intro bb ww K);(try simp [go_sem, Value.cells] at K)))
  go_ret
  exact ⟨bb, rfl, K⟩
set_option maxRecDepth 100000 in
set_option maxHeartbeats 2000000 in
theorem places_gives (b p : Nat) (H X Y S : Int) (A : Option Addr) (n c : Nat) (zs : List Int) (h1 : 1 ≤ p) (hp : p ≤ 64) (hl : zs.length = n) (hn : n ≤ 5000) :
    Gives 8 Try.prog 100 #[.pointer (some ⟨b, 0, none⟩)] (encP p) (pls zs) (PlR b p H X Y S A n c zs) := by
  intro lo J Jx V hJ hJx hJR hY h0
  have hv5 := (hJR 0 V h0).1.cell (i := 5) (v := .slice A n c) rfl
  refine callsIn_of_wp Try.func100 rfl trivial ?_
  simp only [Try.ntmps100, List.size_toArray, List.length_cons, List.length_nil, Nat.reduceAdd, Nat.reduceSub, Array.replicate_succ, Array.replicate_zero, List.push_toArray, List.append_toArray, List.nil_append, List.cons_append]
  gi_wp2
  
  gi_loopw [8] (fun i wr => ∃ k : Nat, k ≤ n ∧ i = .int .i64 k ∧ J (cnt zs k) wr) (fun i _ => n - (intOf i).toNat)
  case atStart => exact ⟨0, Nat.zero_le _, rfl, by rw [cnt_zero]; exact h0⟩
  case round =>
    obtain ⟨k, hk, rfl, hJk⟩ := hrel
    by_cases hlt : k < n
    · have ht : decide ((k : Int) < n) = true := decide_eq_true (by omega)
      obtain ⟨bA, off, rfl, hb, hc⟩ := (hJR _ wr hJk).2.get hlt
      have hv := hc k _ (ints_get .i64 zs k (by omega))
      have hst := cnt_step (A := zs) (i := k) (by omega)
      have hgt := fun h => pls_get (A := zs) (i := k) (by omega) h
      obtain ⟨z, hz⟩ : ∃ z, zs.getD k 0 = z := ⟨_, rfl⟩
      rw [hz] at hv hst hgt
      have hR := hJR (cnt zs k)
      have GW : ∀ V, J (cnt zs k) V → V.cell? ⟨b, 0, none⟩ = some (.int .i64 p) := fun V hV => (hR V hV).1.cell rfl
      have hdr := hJ _ _ _ hJk (Below.refl _ wr).drew
      have hyk := hY (cnt zs k) (k, z) wr.drew
      have e1 : (k : Int).tmod p = xv p (k, z) := by unfold xv; rw [Int.tmod_eq_emod_of_nonneg (by omega)]; exact (Int.natCast_emod k p).symm
      have e2 : IntKind.i64.wrap ((k : Int) / p) = yv p (k, z) := by
        unfold yv
        show _ = ((k / p : Nat) : Int)
        rw [← Int.natCast_ediv]
        have := Nat.div_le_self k p
        generalize k / p = q at *
        exact IntWalk.i64_in _ (by omega)
      have hp0 : ¬((p : Int) = 0) := by omega
      have hp1 : ¬(p = 0) := by omega
      gi_wp2
      by_cases h0 : 0 < z
      · have t0 : decide (0 < z) = true := decide_eq_true h0
        rw [if_pos h0] at hst
        refine wm_head_wide 14 (J (cnt zs k)) [(true, 0), (true, 1), (true, 2), (true, 3), (true, 4), (true, 5), (true, 6), (true, 7), (true, 8), (true, 9), (true, 10), (true, 11), (true, 12), (true, 13)] (by kernel_rfl) (by kernel_rfl) ?hS ?_; rotate_left; simp only [pick, List.getElem?_toArray, List.getElem?_cons_succ, List.getElem?_cons_zero]
        case hS => exact hdr
        repeat (first|((with_reducible refine ht_load ?_);refine hm_cell (v := .int .i64 p) rfl _ _ rfl rfl GW ?_ ?_;focus (with_reducible first|exact one3))|(refine held_take (fun K' hK' => ?_);go_simp;first|(apply Exists.intro;refine ⟨?_, hK' _ ?_⟩;(intro _ _;rfl);clear hK' K')))
        refine heldw_end ?_
        obtain ⟨fn, tmps, assign, body, hy, hRd⟩ := hyk (hgt h0) hdr
        dsimp only [encP] at hy
        gi_wp2
        refine hRd.mono ?_
        rintro e W3 (⟨rfl, hJ3⟩ | ⟨rfl, hJx3⟩)
        · gi_wp2
          refine nopo_out ?_
          gi_wp2
          go_roundw
          case rel => exact ⟨k + 1, by omega, by simp, by rw [hst]; exact hJ3⟩
          case measure => simp [intOf]; omega
        · gi_wp2
          refine nopo_out ?_
          gi_wp2
          refine bodyPost_ret (results_none rfl _ _ _) rfl ?_
          exact ⟨⟨_, rfl⟩, .inr hJx3⟩
      · have t0 : decide (0 < z) = false := decide_eq_false h0
        rw [if_neg h0] at hst
        refine wm_head_wide 14 (J (cnt zs k)) [(true, 0), (true, 1), (true, 2), (true, 3), (true, 4), (true, 5), (true, 6), (true, 7), (true, 8), (true, 9), (true, 10), (true, 11), (true, 12), (true, 13)] (by kernel_rfl) (by kernel_rfl) ?hS ?_; rotate_left; simp only [pick, List.getElem?_toArray, List.getElem?_cons_succ, List.getElem?_cons_zero]
        case hS => exact hdr
        repeat (first|(refine held_take (fun K' hK' => ?_); go_simp; first|(refine hK' _ ?_; clear hK' K')|(apply Exists.intro; refine ⟨?_, hK' _ ?_⟩; (intro _ _; rfl); clear hK' K')))
        refine heldw_end ?_
        gi_wp2
        refine ⟨fun _ _ => trivial, ?_⟩
        gi_wp2
        refine nopo_out ?_
        gi_wp2
        go_roundw
        case rel => exact ⟨k + 1, by omega, by simp, by rw [hst]; exact hdr⟩
        case measure => simp [intOf]; omega
    · obtain rfl : n = k := by omega
      gi_wp2
      go_end0
      exact ⟨⟨_, rfl⟩, .inl (by rw [← cnt_end, hl]; exact hJk)⟩
end Go.Proofs.Ytpejoaefnnbghaa
namespace Go.Proofs.Ytpejoaefnnbghaa
open Go.RowKit
attribute [local irreducible] wpHeld wpTree wpList
attribute [local go_sem] Oper.semAt_some
set_option linter.unusedVariables false
section
variable {p q a b k : Nat} {zs : List Int} {x : Nat × Int}
theorem Gr.pl_bd (G : Gr p q zs) (hx : (pls zs)[k]? = some x) : (0 ≤ x.2 ∧ x.2 ≤ 1073741824) ∧ (0 ≤ xv p x ∧ xv p x ≤ 63) ∧ (0 ≤ yv p x ∧ yv p x ≤ 63) := by
  have hm := (pls_mem (List.mem_of_getElem? hx)).1
  have := G.nums _ (getD_mem (num15_mem.1 hm).1)
  rw [← (num15_mem.1 hm).2] at this
  exact ⟨this, ⟨(G.x1 x).1, (G.x1 x).2.2⟩, (G.y1 hm).1, (G.y1 hm).2.2⟩
end
theorem wrapI {a b : Int} (h : a = b) (h0 : -9223372036854775808 ≤ b) (h1 : b ≤ 9223372036854775807) : wrap64 a = b ∧ IntKind.i64.wrap a = b := by
  subst h
  exact ⟨by unfold wrap64; omega, IntWalk.i64_in _ ⟨h0, by omega⟩⟩
end Go.Proofs.Ytpejoaefnnbghaa
namespace Go.Proofs.Ytpejoaefnnbghaa
open Go.RowKit
attribute [local irreducible] wpHeld wpTree wpList
set_option linter.unusedVariables false
def tt (i : Nat) : Bool := true
set_option maxRecDepth 100000 in
set_option maxHeartbeats 1000000 in
theorem Peak15 (W H X Y S : Int) (A : Option Addr) (n c : Nat) (zs : List Int) (w : World) (h : Rd w A n (ints .i64 zs)) (hn : n ≤ 5000) :
    Calls Try.prog 20 #[.agg #[.int .i64 W, .int .i64 H, .int .i64 X, .int .i64 Y, .int .i64 S, .slice A n c]] w fun e w' => e = .returned (.int .i64 (pk tt zs n)) ∧ Below w.heap.size w w' := by
  have K := St.start w
  have hl : zs.length = n := by rw [← h.1, ints_len]
  have HR := Lib.hid h
  have HL := Lib.hid hl
  clear h hl
  go_enter Try.func20, Try.ntmps20
  go_wp2_with (first|((with_reducible refine at_load ?_);first|(refine wm_own (cs := ?_) (t := ?_) (v := ?_) K rfl _ _ rfl rfl ?_ ?_ ?_ ?_;rotate_left 2;(repeat (exact At.hd));rotate_left;(exact rfl);(with_reducible first|exact one24)))|((first|((with_reducible refine at_box ?_);refine wm_box K rfl _ _ rfl rfl rfl ?_));(try clear K);(try clear ww);((fail_if_success (have _h := b1));intro b1 ww K);(try simp [go_sem, Value.cells] at K)))
  go_loopw [3, 4, 10] (fun s m i wr => ∃ (k : Nat), k ≤ n ∧ i = .int .i64 k ∧ s = .int .i64 (pk tt zs k) ∧ m = .int .i64 (most zs (pk tt zs k)) ∧ St w.heap.size w [(b1, #[.int .i64 W, .int .i64 H, .int .i64 X, .int .i64 Y, .int .i64 S, .slice A n c], 26)] Any wr) (fun _ _ i _ => n - (intOf i).toNat)
  case atStart => exact ⟨0, Nat.zero_le _, rfl, rfl, rfl, K⟩
  case round =>
    clear K
    obtain ⟨i, hi, rfl, rfl, rfl, K⟩ := hrel
    by_cases hlt : i < n
    · obtain ⟨b, off, rfl, hb, hc⟩ := HR.out.get hlt
      have hil : i < zs.length := by rw [HL.out]; exact hlt
      have hv := hc i _ (ints_get .i64 zs i hil)
      have ht : decide ((i : Int) < n) = true := decide_eq_true (by omega)
      have hy := fun h => pk_yes (ok := tt) (A := zs) (k := i) rfl h
      have hz := fun h => pk_no (ok := tt) (A := zs) (k := i) h
      obtain ⟨q, hq⟩ : ∃ q, pk tt zs i = q := ⟨_, rfl⟩
      obtain ⟨z, hzz⟩ : ∃ z, zs.getD i 0 = z := ⟨_, rfl⟩
      rw [hq] at hy hz ⊢
      rw [hzz] at hy hz hv
      obtain ⟨m, hm⟩ : ∃ m, most zs q = m := ⟨_, rfl⟩
      rw [hm] at hy hz ⊢
      by_cases hmz : m < z
      · have t1 : decide (m < z) = true := decide_eq_true hmz
        obtain ⟨y1, y2⟩ := hy hmz
        have HY := Lib.hid y1
        have HY2 := Lib.hid y2
        clear hc hil hy hz hq hzz hm y1 y2
        go_wp2_with (first|((with_reducible refine at_load ?_);first|(refine wm_cell (v := ?_) rfl _ _ rfl rfl ?_ ?_ ?_;rotate_left;(first|exact (K.below.cell (by assumption)).trans (by assumption));(with_reducible first|exact one2))))
        exact ⟨⟨i + 1, by omega, by go_num, by rw [HY.out], by rw [HY2.out], K⟩, by simp [intOf]; omega⟩
      · have t1 : decide (m < z) = false := decide_eq_false hmz
        have HY := Lib.hid (hz fun _ => hmz)
        have HY2 := Lib.hid hm
        clear hc hil hy hz hq hzz hm
        go_wp2_with (first|((with_reducible refine at_load ?_);first|(refine wm_cell (v := ?_) rfl _ _ rfl rfl ?_ ?_ ?_;rotate_left;(first|exact (K.below.cell (by assumption)).trans (by assumption));(with_reducible first|exact one2))))
        exact ⟨⟨i + 1, by omega, by go_num, by rw [HY.out], by rw [HY.out, HY2.out], K⟩, by simp [intOf]; omega⟩
    · obtain rfl : n = i := by omega
      have ht : decide ((n : Int) < n) = false := decide_eq_false (by omega)
      go_wp2_with (fail)
      go_ret
      exact ⟨rfl, K.below⟩
end Go.Proofs.Ytpejoaefnnbghaa
namespace Go.Proofs.Ytpejoaefnnbghaa
open Go.RowKit
attribute [local irreducible] wpHeld wpTree wpList
set_option linter.unusedVariables false
set_option linter.unusedSimpArgs false
def top19 (zs : List Int) : Nat := (pk tt zs zs.length).toNat
theorem top19_max (zs : List Int) : max (pk tt zs zs.length) 0 = (top19 zs : Int) := by
  unfold top19; omega
theorem top19_lt {zs : List Int} (h : 0 < zs.length) : top19 zs < zs.length := by
  have := pk_low (ok := tt) (A := zs) zs.length
  unfold top19; omega
def cx19 (p : Nat) (zs : List Int) : Int := ((top19 zs % p : Nat) : Int) - ((min p 16 / 2 : Nat) : Int)
def cy19 (p q : Nat) (zs : List Int) : Int := ((top19 zs / p : Nat) : Int) - ((min q 16 / 2 : Nat) : Int)
def stepV (k x y w h : Int) : Value := .agg #[.int .i64 k, .int .i64 x, .int .i64 y, .int .i64 w, .int .i64 h]
set_option maxRecDepth 100000 in
set_option maxHeartbeats 1000000 in
theorem around19 (a : Int) (b d : Nat) (r : Int) (w : World) (hd : b / 2 = d) (hb : b ≤ 100) (hr : a - d = r) (ha : -100000 ≤ a ∧ a ≤ 100000) :
    Calls Try.prog 81 #[.int .i64 a, .int .i64 b] w fun e w' => e = .returned (.int .i64 r) ∧ Below w.heap.size w w' := by
  have K := St.start w
  have d1 : (b : Int).tdiv 2 = d := by rw [Int.tdiv_eq_ediv_of_nonneg (by omega)]; omega
  have w1 := wrapI (a := (d : Int)) (b := d) rfl (by clear d1; omega) (by clear d1; omega)
  have w2 := wrapI hr (by clear d1 w1; omega) (by clear d1 w1; omega)
  obtain ⟨w1, v1⟩ := w1
  obtain ⟨w2, v2⟩ := w2
  clear hd hb hr ha
  go_enter Try.func81, Try.ntmps81
  go_wp2_with (fail)
  go_ret
  exact ⟨rfl, K.below⟩
set_option maxRecDepth 100000 in
set_option maxHeartbeats 1000000 in
theorem least19 (a : Nat) (w : World) :
    Calls Try.prog 82 #[.int .i64 a, .int .i64 16] w fun e w' => e = .returned (.int .i64 (min a 16 : Nat)) ∧ Below w.heap.size w w' := by
  have K := St.start w
  by_cases h : a < 16
  · have t1 : decide ((a : Int) < 16) = true := decide_eq_true (by omega)
    have t2 : decide (a < 16) = true := decide_eq_true h
    rw [show min a 16 = a by omega]
    clear h
    go_enter Try.func82, Try.ntmps82
    go_wp2_with (fail)
    go_ret
    exact ⟨rfl, K.below⟩
  · have t1 : decide ((a : Int) < 16) = false := decide_eq_false (by omega)
    have t2 : decide (a < 16) = false := decide_eq_false h
    rw [show min a 16 = 16 by omega]
    clear h
    go_enter Try.func82, Try.ntmps82
    go_wp2_with (fail)
    go_ret
    exact ⟨rfl, K.below⟩
set_option maxRecDepth 100000 in
set_option maxHeartbeats 2000000 in
theorem Centred19 (p q : Nat) (X Y S : Int) (A : Option Addr) (n c : Nat) (zs : List Int) (w : World) (h : Rd w A n (ints .i64 zs)) (hn0 : 0 < n) (hn : n ≤ 5000) (hp : 1 ≤ p) :
    Calls Try.prog 38 #[.agg #[.int .i64 p, .int .i64 q, .int .i64 X, .int .i64 Y, .int .i64 S, .slice A n c]] w fun e w' => e = .returned (stepV 3 (cx19 p zs) (cy19 p q zs) (min p 16 : Nat) (min q 16 : Nat)) ∧ Below w.heap.size w w' := by
  have PK := Lib.hid (fun w h => Peak15 p q X Y S A n c zs w h hn)
  unfold stepV
  have K := St.start w
  have hl : zs.length = n := by rw [← h.1, ints_len]
  have HR := Lib.hid h
  have hT := top19_lt (zs := zs) (by omega)
  have hm := top19_max zs
  have ec : cx19 p zs = ((top19 zs % p : Nat) : Int) - ((min p 16 / 2 : Nat) : Int) := rfl
  have ed : cy19 p q zs = ((top19 zs / p : Nat) : Int) - ((min q 16 / 2 : Nat) : Int) := rfl
  rw [hl] at hT hm
  generalize cx19 p zs = cx at *
  generalize cy19 p q zs = cy at *
  generalize top19 zs = T at *
  have hp0 : ¬((p : Int) = 0) := by omega
  have hp1 : ¬(p = 0) := by omega
  have mp : min (p : Int) 16 = ((min p 16 : Nat) : Int) := by omega
  have mq : min (q : Int) 16 = ((min q 16 : Nat) : Int) := by omega
  have bp : min p 16 ≤ 16 := by omega
  have bq : min q 16 ≤ 16 := by omega
  have L1 := Lib.hid (least19 p)
  have L2 := Lib.hid (least19 q)
  generalize min p 16 = pw at *
  generalize min q 16 = qw at *
  have hx := Nat.mod_le T p
  have hy := Nat.div_le_self T p
  have e1 : (T : Int).tmod p = ((T % p : Nat) : Int) := by rw [Int.tmod_eq_emod_of_nonneg (by omega)]; exact (Int.natCast_emod T p).symm
  have e2 : IntKind.i64.wrap ((T : Int) / p) = ((T / p : Nat) : Int) := by
    rw [← Int.natCast_ediv]
    generalize T / p = q at *
    exact IntWalk.i64_in _ (by omega)
  generalize T % p = tx at *
  generalize T / p = ty at *
  obtain ⟨dw, hdw⟩ : ∃ d, pw / 2 = d := ⟨_, rfl⟩
  obtain ⟨dh, hdh⟩ : ∃ d, qw / 2 = d := ⟨_, rfl⟩
  rw [hdw] at ec
  rw [hdh] at ed
  generalize pk tt zs n = P at *
  have A1 := Lib.hid (fun w => around19 tx pw dw cx w hdw (by omega) ec.symm (by omega))
  have A2 := Lib.hid (fun w => around19 ty qw dh cy w hdh (by omega) ed.symm (by omega))
  clear h hl hT ec ed hdw hdh hx hy bp bq hn hn0 hp L1 L2
  go_enter Try.func38, Try.ntmps38
  go_wp2_with (first|((with_reducible refine at_load ?_);first|(refine wm_load (cs := ?_) (t := ?_) (n := ?_) K rfl _ _ rfl rfl ?_ ?_ ?_ ?_;rotate_left 2;(repeat (first|exact At.hd|refine At.tl ?_));rotate_left;(with_reducible first|exact row26);(exact rfl)))|((first|((with_reducible refine at_box ?_);refine wm_box K rfl _ _ rfl rfl rfl ?_)|((with_reducible refine at_alloc ?_);refine wm_alloc (v := ?_) (cs := ?_) K rfl _ rfl ?_ ?_ ?_;rotate_left;(with_reducible first|exact zero56);rotate_left;exact rfl));(try clear K);(try clear ww);(first|((fail_if_success (have _h := b1));intro b1 ww K)|((fail_if_success (have _h := b2));intro b2 ww K));(try simp [go_sem, Value.cells] at K))|(go_at_call 20;(with_reducible refine (PK.out _ (HR.out.below K.below)).mono ?_);rintro e w2 ⟨rfl, k1⟩;replace K := K.step k1;clear k1;(try clear ww);revert w2;intro ww K))
  refine wm_held _ [(true, 0), (true, 1), (true, 2), (true, 3), (true, 4), (true, 5), (true, 6), (true, 7)] K sbr (by kernel_rfl) (by kernel_rfl) ?_; (try clear K); (try clear ww); intro ww K; (try simp [go_sem] at K); simp only [pick, List.getElem?_toArray, List.getElem?_cons_succ, List.getElem?_cons_zero]
  repeat (first|(((with_reducible refine ht_load ?_);first|(refine hm_own (cs := ?_) (t := ?_) (v := ?_) rfl _ _ rfl rfl ?_ ?_ ?_ ?_;rotate_left 2;(repeat (first|exact At.hd|refine At.tl ?_));rotate_left;(exact rfl);(with_reducible first|exact one3)));(try simp only [Act.put]);(try go_simp))|(refine held_take (fun K' hK' => ?_);go_simp;first|(apply Exists.intro;refine ⟨?_, hK' _ ?_⟩;(intro _ _;rfl);clear hK' K')))
  refine held_nil ?_
  go_wp2_with (fail)
  refine wm_held _ [(true, 0), (true, 1), (true, 2), (true, 3), (true, 4), (true, 6), (true, 7), (true, 8), (true, 9), (true, 10), (true, 12), (true, 13), (false, 5), (false, 11), (true, 14), (false, 15)] K sbc1 (by kernel_rfl) (by kernel_rfl) ?_; (try clear K); (try clear ww); intro ww K; (try simp [go_sem] at K); simp only [pick, List.getElem?_toArray, List.getElem?_cons_succ, List.getElem?_cons_zero]
  repeat (first|(((with_reducible refine ht_load ?_);first|(refine hm_own (cs := ?_) (t := ?_) (v := ?_) rfl _ _ rfl rfl ?_ ?_ ?_ ?_;rotate_left 2;(repeat (exact At.hd));rotate_left;(exact rfl);(with_reducible first|exact one3)));(try simp only [Act.put]);(try go_simp))|(refine held_take (fun K' hK' => ?_);go_simp;first|(apply Exists.intro;refine ⟨?_, hK' _ ?_⟩;(intro _ _;rfl);clear hK' K'))|((with_reducible refine ht_store ?_);first|(refine hm_store (L' := ?_) (cs := ?_) (t := ?_) (n := ?_) K rfl _ _ _ rfl rfl rfl rfl ?_ ?_ ?_ ?_ ?_ ?_;rotate_left 3;(repeat (exact Put.hd));rotate_left;(with_reducible first|exact row56);(exact rfl);(exact rfl);(simp [Ones, Value.oneCell']);(try clear K);(try clear ww);intro ww K;(try simp [go_sem] at K);refine ⟨(by apply via sbc1;first|exact K), ?_⟩))|(refine held_do (fun K' hK' => ?_);go_simp;go_at_call 81;(with_reducible refine (A1.out _).mono ?_);rintro e w2 ⟨rfl, k1⟩;replace K := K.step k1;clear k1;(try clear ww);revert w2;intro ww K;(try dsimp only);refine hK' _ _ (by apply via sbc1;first|exact K) ?_;clear hK' K')|(refine held_do (fun K' hK' => ?_);go_simp;go_at_call 81;(with_reducible refine (A2.out _).mono ?_);rintro e w2 ⟨rfl, k1⟩;replace K := K.step k1;clear k1;(try clear ww);revert w2;intro ww K;(try dsimp only);refine hK' _ _ (by apply via sbc1;first|exact K) ?_;clear hK' K'))
  refine held_nil ?_
  go_wp2_with (fail)
  refine bodyPost_ret (K.res (cs := ?_) (t := ?_) (n := ?_) rfl _ rfl ?_ ?_ ?_) rfl ?_;rotate_left 2;(repeat (exact At.hd));rotate_left;(with_reducible first|exact row56);(exact rfl)
  exact ⟨rfl, K.below⟩
end Go.Proofs.Ytpejoaefnnbghaa
namespace Go.Proofs.Ytpejoaefnnbghaa
open Go.RowKit
attribute [local irreducible] wpHeld wpTree wpList
attribute [local go_sem] Oper.semAt_some
set_option linter.unusedVariables false
def edP (p q : Nat) (zs : List Int) (k : Nat) : Int := lsum (edS p q) ((pls zs).take k)
section
variable {p q k : Nat} {zs : List Int} {x : Nat × Int}
theorem edP_snoc (hx : (pls zs)[k]? = some x) : edP p q zs (k + 1) = edP p q zs k + edS p q x := by unfold edP; rw [lsum_snoc hx]
theorem Gr.edP_bd (G : Gr p q zs) : 0 ≤ edP p q zs k ∧ edP p q zs k ≤ 1073741824 := G.ed_takeP k
theorem Gr.edP_end (G : Gr p q zs) : edP p q zs (pls zs).length = edge15 zs p q := by unfold edP; rw [List.take_length]; exact G.ed_pls
end
set_option maxRecDepth 100000 in
set_option maxHeartbeats 4000000 in
theorem Edge15 (p q : Nat) (X Y S : Int) (A : Option Addr) (n c : Nat) (zs : List Int) (w : World) (hG : Gr p q zs) (hl : zs.length = n) (h : Rd w A n (ints .i64 zs)) :
    Calls Try.prog 26 #[.agg #[.int .i64 p, .int .i64 q, .int .i64 X, .int .i64 Y, .int .i64 S, .slice A n c]] w fun e w' => e = .returned (.int .i64 (edge15 zs p q)) ∧ Below w.heap.size w w' := by
  have K := St.start w
  have HG := Lib.hid hG
  have HR := Lib.hid h
  have hp := hG.w0
  have hp2 := hG.w1
  have hq := hG.h0
  have hq2 := hG.h1
  have PG := fun b => places_gives b p q X Y S A n c zs hG.w0 hG.w1 hl (by have := hG.n2; omega)
  have PG := Lib.hid PG
  obtain ⟨r, hr⟩ : ∃ r, edge15 zs p q = r := ⟨_, rfl⟩
  rw [hr]
  clear hl h hG
  refine calls_of_wp_marks Try.func26 rfl ?_; simp only [Try.ntmps26, List.size_toArray, List.length_cons, List.length_nil, Nat.reduceAdd, Nat.reduceSub, Array.replicate_succ, Array.replicate_zero, List.push_toArray, List.append_toArray, List.nil_append, List.cons_append]
  go_wp2_with (first|((with_reducible refine at_load ?_);first|(refine wm_load (cs := ?_) (t := ?_) (n := ?_) K rfl _ _ rfl rfl ?_ ?_ ?_ ?_;rotate_left 2;(repeat (first|exact At.hd|refine At.tl ?_));rotate_left;(with_reducible first|exact row26);(exact rfl)))|((with_reducible refine at_store ?_);(first|(refine wm_put (L' := ?_) (cs := ?_) (new := ?_) (t := ?_) K rfl _ _ _ rfl rfl rfl rfl ?_ ?_ ?_ ?_ rfl rfl ?_;rotate_left 4;(repeat (exact Put.hd));(exact Nat.le_of_ble_eq_true rfl);((simp only [List.setIfInBounds_toArray];exact rfl));(with_reducible first|exact one2)));(try clear K);(try clear ww);intro ww K;(try simp [go_sem] at K))|((first|((with_reducible refine at_box ?_);refine wm_box K rfl _ _ rfl rfl rfl ?_)|((with_reducible refine at_alloc ?_);refine wm_alloc (v := ?_) (cs := ?_) K rfl _ rfl ?_ ?_ ?_;rotate_left;(with_reducible first|exact zero2);rotate_left;exact rfl));(try clear K);(try clear ww);(first|((fail_if_success (have _h := b1));intro b1 ww K)|((fail_if_success (have _h := b3));intro b3 ww K));(try simp [go_sem, Value.cells] at K))|(go_at_call 56;have zz := places15 K p q X Y S A n c;(with_reducible refine zz.mono ?_);clear zz;rintro e w2 ⟨bb, rfl, K2⟩;(try dsimp only);replace K := K2;clear K2;(try clear ww);revert w2;intro ww K))
  refine wm_range (α := Nat × Int) 9 rfl (enters_of Try.func100 (by kernel_rfl) rfl) (PG.out bb) (fun _ => rfl) (fun k V => St w.heap.size w [(bb, #[.int .i64 p, .int .i64 q, .int .i64 X, .int .i64 Y, .int .i64 S, .slice A n c], 26), (b3, #[.int .i64 (edP p q zs k)], 2), (b1, #[.int .i64 p, .int .i64 q, .int .i64 X, .int .i64 Y, .int .i64 S, .slice A n c], 26)] Any V) (fun _ _ => False) (fun k => stable_st K.size firm_any) (fun _ => stable_false) (fun k V K => ⟨K.get .hd, HR.out.below K.below⟩) K ?round ?done ?stop
  case round =>
    intro lo0 k x V KK hlo hx K1 hK
    obtain ⟨z0, u0, v0⟩ := HG.out.pl_bd hx
    have ec := edP_snoc (p := p) (q := q) hx
    have c0 := HG.out.edP_bd (k := k)
    have c1 := HG.out.edP_bd (k := k + 1)
    have hD := K.size
    generalize ww.heap.size = D at *
    clear K hx
    replace K := K1.keepsFrom D
    clear K1
    simp only [encP, List.zip_toArray, List.zip_cons_cons, List.zip_nil_right, List.size_toArray]
    unfold edS onE at ec
    generalize xv p x = u at *
    generalize yv p x = v at *
    generalize x.2 = z at *
    clear x
    obtain ⟨p1, hp1⟩ : ∃ p1, (p : Int) - 1 = p1 := ⟨_, rfl⟩
    obtain ⟨q1, hq1⟩ : ∃ q1, (q : Int) - 1 = q1 := ⟨_, rfl⟩
    obtain ⟨f3, f4⟩ := wrapI hp1 (by omega) (by omega)
    obtain ⟨f5, f6⟩ := wrapI hq1 (by omega) (by omega)
    rw [hp1, hq1] at ec
    clear hp hp2 hq hq2 hp1 hq1
    by_cases h1 : u = 0
    · have t1 : decide (u = 0) = true := decide_eq_true h1
      have t1n : (u == 0) = true := beq_iff_eq.2 h1
      rw [if_pos (by rw [t1]; simp)] at ec
      obtain ⟨f1, f2⟩ := wrapI ec.symm (by omega) (by omega)
      clear ec c0 c1
      skip
      gi_wp2_with ((refine rin_step (fun c e => by cases e) ?_;go_wp2_with (first|((with_reducible refine at_store ?_);(first|(refine wm_store (L' := ?_) (cs := ?_) (t := ?_) (n := ?_) K rfl _ _ _ rfl rfl rfl rfl ?_ ?_ ?_ ?_ ?_ ?_;rotate_left 3;(repeat (exact Put.hd));rotate_left;(with_reducible first|exact row98);(exact rfl);(exact rfl);(simp [Ones, Value.oneCell'])));(try clear K);(try clear ww);intro ww K;(try simp [go_sem] at K))|((first|((with_reducible refine at_alloc ?_);refine wm_alloc (v := ?_) (cs := ?_) K rfl _ rfl ?_ ?_ ?_;rotate_left;(with_reducible first|exact zero98);rotate_left;exact rfl));(try clear K);(try clear ww);((fail_if_success (have _h := b4));intro b4 ww K);(try simp [go_sem, Value.cells] at K))));refine qn_out ?_)
      refine hK _ _ K.fact.1 (fun W2 r o o' hr ho hc e => ?_); replace K := K.begun hD firm_any hr ho hc e; clear hr ho hc e hK
      gi_wp2_with ((refine rin_step (fun c e => by cases e) ?_;go_wp2_with (first|go_big_skip|((with_reducible refine at_load ?_);first|(refine wm_own (cs := ?_) (t := ?_) (v := ?_) K rfl _ _ rfl rfl ?_ ?_ ?_ ?_;rotate_left 2;(repeat (first|exact At.hd|refine At.tl ?_));rotate_left;(exact rfl);(with_reducible first|exact one2)))|((with_reducible refine at_store ?_);(first|(refine wm_put (L' := ?_) (cs := ?_) (new := ?_) (t := ?_) K rfl _ _ _ rfl rfl rfl rfl ?_ ?_ ?_ ?_ rfl rfl ?_;rotate_left 4;(repeat (first|exact Put.hd|(refine Put.tl (L' := ?_) ?_;rotate_left)));(exact Nat.le_of_ble_eq_true rfl);((simp only [List.setIfInBounds_toArray];exact rfl));(with_reducible first|exact one2)));(try clear K);(try clear ww);intro ww K;(try simp [go_sem] at K))));refine qn_out ?_)
      exact ⟨K.fact.1, K.tail.weak fun _ h => h.2⟩
    · have t1 : decide (u = 0) = false := decide_eq_false h1
      have t1n : (u == 0) = false := beq_eq_false_iff_ne.2 h1
      by_cases h2 : v = 0
      · have t2 : decide (v = 0) = true := decide_eq_true h2
        have t2n : (v == 0) = true := beq_iff_eq.2 h2
        rw [if_pos (by rw [t1, t2]; simp)] at ec
        obtain ⟨f1, f2⟩ := wrapI ec.symm (by omega) (by omega)
        clear ec c0 c1
        clear h1
        gi_wp2_with ((refine rin_step (fun c e => by cases e) ?_;go_wp2_with (first|((with_reducible refine at_store ?_);(first|(refine wm_store (L' := ?_) (cs := ?_) (t := ?_) (n := ?_) K rfl _ _ _ rfl rfl rfl rfl ?_ ?_ ?_ ?_ ?_ ?_;rotate_left 3;(repeat (exact Put.hd));rotate_left;(with_reducible first|exact row98);(exact rfl);(exact rfl);(simp [Ones, Value.oneCell'])));(try clear K);(try clear ww);intro ww K;(try simp [go_sem] at K))|((first|((with_reducible refine at_alloc ?_);refine wm_alloc (v := ?_) (cs := ?_) K rfl _ rfl ?_ ?_ ?_;rotate_left;(with_reducible first|exact zero98);rotate_left;exact rfl));(try clear K);(try clear ww);((fail_if_success (have _h := b4));intro b4 ww K);(try simp [go_sem, Value.cells] at K))));refine qn_out ?_)
        refine hK _ _ K.fact.1 (fun W2 r o o' hr ho hc e => ?_); replace K := K.begun hD firm_any hr ho hc e; clear hr ho hc e hK
        gi_wp2_with ((refine rin_step (fun c e => by cases e) ?_;go_wp2_with (first|go_big_skip|((with_reducible refine at_load ?_);first|(refine wm_own (cs := ?_) (t := ?_) (v := ?_) K rfl _ _ rfl rfl ?_ ?_ ?_ ?_;rotate_left 2;(repeat (first|exact At.hd|refine At.tl ?_));rotate_left;(exact rfl);(with_reducible first|exact one2)))|((with_reducible refine at_store ?_);(first|(refine wm_put (L' := ?_) (cs := ?_) (new := ?_) (t := ?_) K rfl _ _ _ rfl rfl rfl rfl ?_ ?_ ?_ ?_ rfl rfl ?_;rotate_left 4;(repeat (first|exact Put.hd|(refine Put.tl (L' := ?_) ?_;rotate_left)));(exact Nat.le_of_ble_eq_true rfl);((simp only [List.setIfInBounds_toArray];exact rfl));(with_reducible first|exact one2)));(try clear K);(try clear ww);intro ww K;(try simp [go_sem] at K))));refine qn_out ?_)
        exact ⟨K.fact.1, K.tail.weak fun _ h => h.2⟩
      · have t2 : decide (v = 0) = false := decide_eq_false h2
        have t2n : (v == 0) = false := beq_eq_false_iff_ne.2 h2
        by_cases h3 : u = p1
        · have t3 : decide (u = p1) = true := decide_eq_true h3
          have t3n : (u == p1) = true := beq_iff_eq.2 h3
          rw [if_pos (by rw [t1, t2, t3]; simp)] at ec
          obtain ⟨f1, f2⟩ := wrapI ec.symm (by omega) (by omega)
          clear ec c0 c1
          clear t3 t3n h1 h2; subst h3
          gi_wp2_with ((refine rin_step (fun c e => by cases e) ?_;go_wp2_with (first|((with_reducible refine at_store ?_);(first|(refine wm_store (L' := ?_) (cs := ?_) (t := ?_) (n := ?_) K rfl _ _ _ rfl rfl rfl rfl ?_ ?_ ?_ ?_ ?_ ?_;rotate_left 3;(repeat (exact Put.hd));rotate_left;(with_reducible first|exact row98);(exact rfl);(exact rfl);(simp [Ones, Value.oneCell'])));(try clear K);(try clear ww);intro ww K;(try simp [go_sem] at K))|((first|((with_reducible refine at_alloc ?_);refine wm_alloc (v := ?_) (cs := ?_) K rfl _ rfl ?_ ?_ ?_;rotate_left;(with_reducible first|exact zero98);rotate_left;exact rfl));(try clear K);(try clear ww);((fail_if_success (have _h := b4));intro b4 ww K);(try simp [go_sem, Value.cells] at K))));refine qn_out ?_)
          refine hK _ _ K.fact.1 (fun W2 r o o' hr ho hc e => ?_); replace K := K.begun hD firm_any hr ho hc e; clear hr ho hc e hK
          gi_wp2_with ((refine rin_step (fun c e => by cases e) ?_;go_wp2_with (first|go_big_skip|((with_reducible refine at_load ?_);first|(refine wm_own (cs := ?_) (t := ?_) (v := ?_) K rfl _ _ rfl rfl ?_ ?_ ?_ ?_;rotate_left 2;(repeat (first|exact At.hd|refine At.tl ?_));rotate_left;(exact rfl);(with_reducible first|exact one2|exact one3)))|((with_reducible refine at_store ?_);(first|(refine wm_put (L' := ?_) (cs := ?_) (new := ?_) (t := ?_) K rfl _ _ _ rfl rfl rfl rfl ?_ ?_ ?_ ?_ rfl rfl ?_;rotate_left 4;(repeat (first|exact Put.hd|(refine Put.tl (L' := ?_) ?_;rotate_left)));(exact Nat.le_of_ble_eq_true rfl);((simp only [List.setIfInBounds_toArray];exact rfl));(with_reducible first|exact one2)));(try clear K);(try clear ww);intro ww K;(try simp [go_sem] at K))));refine qn_out ?_)
          exact ⟨K.fact.1, K.tail.weak fun _ h => h.2⟩
        · have t3 : decide (u = p1) = false := decide_eq_false h3
          have t3n : (u == p1) = false := beq_eq_false_iff_ne.2 h3
          by_cases h4 : v = q1
          · have t4 : decide (v = q1) = true := decide_eq_true h4
            have t4n : (v == q1) = true := beq_iff_eq.2 h4
            rw [if_pos (by rw [t1, t2, t3, t4]; simp)] at ec
            obtain ⟨f1, f2⟩ := wrapI ec.symm (by omega) (by omega)
            clear ec c0 c1
            clear t4 t4n h1 h2 h3; subst h4
            gi_wp2_with ((refine rin_step (fun c e => by cases e) ?_;go_wp2_with (first|((with_reducible refine at_store ?_);(first|(refine wm_store (L' := ?_) (cs := ?_) (t := ?_) (n := ?_) K rfl _ _ _ rfl rfl rfl rfl ?_ ?_ ?_ ?_ ?_ ?_;rotate_left 3;(repeat (exact Put.hd));rotate_left;(with_reducible first|exact row98);(exact rfl);(exact rfl);(simp [Ones, Value.oneCell'])));(try clear K);(try clear ww);intro ww K;(try simp [go_sem] at K))|((first|((with_reducible refine at_alloc ?_);refine wm_alloc (v := ?_) (cs := ?_) K rfl _ rfl ?_ ?_ ?_;rotate_left;(with_reducible first|exact zero98);rotate_left;exact rfl));(try clear K);(try clear ww);((fail_if_success (have _h := b4));intro b4 ww K);(try simp [go_sem, Value.cells] at K))));refine qn_out ?_)
            refine hK _ _ K.fact.1 (fun W2 r o o' hr ho hc e => ?_); replace K := K.begun hD firm_any hr ho hc e; clear hr ho hc e hK
            gi_wp2_with ((refine rin_step (fun c e => by cases e) ?_;go_wp2_with (first|((with_reducible refine at_load ?_);first|(refine wm_own (cs := ?_) (t := ?_) (v := ?_) K rfl _ _ rfl rfl ?_ ?_ ?_ ?_;rotate_left 2;(repeat (first|exact At.hd|refine At.tl ?_));rotate_left;(exact rfl);(with_reducible first|exact one2|exact one3)))|((with_reducible refine at_store ?_);(first|(refine wm_put (L' := ?_) (cs := ?_) (new := ?_) (t := ?_) K rfl _ _ _ rfl rfl rfl rfl ?_ ?_ ?_ ?_ rfl rfl ?_;rotate_left 4;(repeat (first|exact Put.hd|(refine Put.tl (L' := ?_) ?_;rotate_left)));(exact Nat.le_of_ble_eq_true rfl);((simp only [List.setIfInBounds_toArray];exact rfl));(with_reducible first|exact one2)));(try clear K);(try clear ww);intro ww K;(try simp [go_sem] at K))));refine qn_out ?_)
            exact ⟨K.fact.1, K.tail.weak fun _ h => h.2⟩
          · have t4 : decide (v = q1) = false := decide_eq_false h4
            have t4n : (v == q1) = false := beq_eq_false_iff_ne.2 h4
            rw [if_neg (by rw [t1, t2, t3, t4]; simp), Int.add_zero] at ec
            have HE := Lib.hid ec
            clear ec c0 c1 h1 h2 h3 h4
            gi_wp2_with ((refine rin_step (fun c e => by cases e) ?_;go_wp2_with (first|((with_reducible refine at_store ?_);(first|(refine wm_store (L' := ?_) (cs := ?_) (t := ?_) (n := ?_) K rfl _ _ _ rfl rfl rfl rfl ?_ ?_ ?_ ?_ ?_ ?_;rotate_left 3;(repeat (exact Put.hd));rotate_left;(with_reducible first|exact row98);(exact rfl);(exact rfl);(simp [Ones, Value.oneCell'])));(try clear K);(try clear ww);intro ww K;(try simp [go_sem] at K))|((first|((with_reducible refine at_alloc ?_);refine wm_alloc (v := ?_) (cs := ?_) K rfl _ rfl ?_ ?_ ?_;rotate_left;(with_reducible first|exact zero98);rotate_left;exact rfl));(try clear K);(try clear ww);((fail_if_success (have _h := b4));intro b4 ww K);(try simp [go_sem, Value.cells] at K))));refine qn_out ?_)
            refine hK _ _ K.fact.1 (fun W2 r o o' hr ho hc e => ?_); replace K := K.begun hD firm_any hr ho hc e; clear hr ho hc e hK
            gi_wp2_with ((refine rin_step (fun c e => by cases e) ?_;go_wp2_with (first|((with_reducible refine at_load ?_);first|(refine wm_own (cs := ?_) (t := ?_) (v := ?_) K rfl _ _ rfl rfl ?_ ?_ ?_ ?_;rotate_left 2;(repeat (first|exact At.hd|refine At.tl ?_));rotate_left;(exact rfl);(with_reducible first|exact one2|exact one3)))));refine qn_out ?_)
            exact ⟨K.fact.1, by dsimp only; rw [HE.out]; exact K.tail.weak fun _ h => h.2⟩
  case done =>
    intro D V hD K1 hk
    rw [HG.out.edP_end, hr] at K1
    have hB := Nat.le_trans K.size hD
    clear K hD
    have K := K1.mark hk
    clear K1 hk
    revert V
    intro ww K
    go_wp2_with (first|((with_reducible refine at_load ?_);first|(refine wm_own (cs := ?_) (t := ?_) (v := ?_) K rfl _ _ rfl rfl ?_ ?_ ?_ ?_;rotate_left 2;(repeat (first|exact At.hd|refine At.tl ?_));rotate_left;(exact rfl);(with_reducible first|exact one2))))
    exact retM1 (K.weak fun _ h => h.2) firm_any rfl hB K.fact.1 (fun w' K' => ⟨_, results_tmp rfl _ _ _, rfl, K'.below⟩)
  case stop =>
    intro D c W _ h _
    exact h.elim
end Go.Proofs.Ytpejoaefnnbghaa
