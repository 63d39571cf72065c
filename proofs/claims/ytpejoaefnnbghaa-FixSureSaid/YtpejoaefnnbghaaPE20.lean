/-
  Lemmas and walks of this claim (the texts Ma15 Mb15 Rt26 of the work; what no proof here uses is left out). No claim of their own.
-/
import Derived.Test.YtpejoaefnnbghaaPE14
import Derived.Test.YtpejoaefnnbghaaPE18
import Derived.Test.YtpejoaefnnbghaaPE6
import Derived.Test.YtpejoaefnnbghaaPE16
import Derived.Test.YtpejoaefnnbghaaPE13
import Derived.Test.YtpejoaefnnbghaaPE7
set_option linter.all false
set_option linter.unusedSimpArgs false
set_option linter.unusedVariables false
namespace Go.Proofs.Ytpejoaefnnbghaa
open Go.RowKit
attribute [local irreducible] wpHeld wpTree wpList
attribute [local go_sem] Oper.semAt_some
set_option linter.unusedVariables false
def encP (w : Nat) (x : Nat × Int) : Array Value := #[.agg #[.int .i64 (xv w x), .int .i64 (yv w x)], .int .i64 x.2]
def PlR (b : Nat) (W H X Y S : Int) (A : Option Addr) (n c : Nat) (zs : List Int) (V : World) : Prop := Has V b #[.int .i64 W, .int .i64 H, .int .i64 X, .int .i64 Y, .int .i64 S, .slice A n c] 26 ∧ Rd V A n (ints .i64 zs)
set_option maxRecDepth 100000 in
theorem places15 {B : Nat} {w0 w : World} {F : World → Prop} {L : List Blk} (K : St B w0 L F w) (W H X Y S : Int) (A : Option Addr) (n c : Nat) :
    Calls Try.prog 56 #[.agg #[.int .i64 W, .int .i64 H, .int .i64 X, .int .i64 Y, .int .i64 S, .slice A n c]] w fun e w' => ∃ b, e = .returned (.func (.func 100) #[] #[.pointer (some ⟨b, 0, none⟩)]) ∧ St B w0 ((b, #[.int .i64 W, .int .i64 H, .int .i64 X, .int .i64 Y, .int .i64 S, .slice A n c], 26) :: L) F w' := by
  revert w
  intro ww K
  go_enter Try.func56, Try.ntmps56
  go_wp2_with (first|go_big_skip|((with_reducible refine at_load ?_);first|(refine wm_own (cs := ?_) (t := ?_) (v := ?_) K rfl _ _ rfl rfl ?_ ?_ ?_ ?_;rotate_left 2;(repeat (first|exact At.hd|refine At.tl ?_));rotate_left;(first|exact rfl|assumption);(with_reducible first|exact one2|exact one3|exact one24))|(refine wm_cell (v := ?_) rfl _ _ rfl rfl ?_ ?_ ?_;rotate_left;(first|assumption|exact (K.below.cell (by assumption)).trans (by assumption));(with_reducible first|exact one2|exact one3|exact one24)))|((with_reducible refine at_store ?_);first|(refine wm_put (L' := ?_) (cs := ?_) (new := ?_) (t := ?_) K rfl _ _ _ rfl rfl rfl rfl ?_ ?_ ?_ ?_ rfl rfl ?_;rotate_left 4;(repeat (first|exact Put.hd|(refine Put.tl (L' := ?_) ?_;rotate_left)));(solve|exact Nat.le_of_ble_eq_true rfl|decide|(simp only [List.size_toArray, nums_length];first|assumption|omega)|(simp only [List.size_toArray, nums_length, List.length_set];first|assumption|omega)|simp|omega|(simp only [List.size_toArray, nums_length];omega)|assumption);(solve|(simp only [List.setIfInBounds_toArray];exact rfl)|exact nums_set _ _ _ _|simp only [List.setIfInBounds_toArray, List.set_cons_zero]|simp only [List.setIfInBounds_toArray, List.set_cons_zero, List.set_cons_succ]|(simp only [List.setIfInBounds_toArray, List.set_cons_zero, List.set_cons_succ];exact rfl)|exact rfl);(with_reducible first|exact one2|exact one3|exact one24);(try clear K);(try clear ww);intro ww K;(try simp [go_sem] at K)))|((first|((with_reducible refine at_box ?_);refine wm_box K rfl _ _ rfl rfl rfl ?_)|((with_reducible refine at_alloc ?_);refine wm_alloc (v := ?_) (cs := ?_) K rfl _ rfl ?_ ?_ ?_;rotate_left;(with_reducible first|fail);rotate_left;exact rfl));(try clear K);(try clear ww);((fail_if_success (have _h := bb));intro bb ww K);(try simp [go_sem, Value.cells] at K)))
  go_ret
  exact ⟨bb, rfl, K⟩
set_option maxRecDepth 100000 in
set_option maxHeartbeats 2000000 in
theorem places_gives (b p : Nat) (H X Y S : Int) (A : Option Addr) (n c : Nat) (zs : List Int) (h1 : 1 ≤ p) (hp : p ≤ 64) (hl : zs.length = n) (hn : n ≤ 5000) :
    Gives 8 Try.prog 100 #[.pointer (some ⟨b, 0, none⟩)] (encP p) (pls zs) (PlR b p H X Y S A n c zs) := by
  intro lo J Jx V hJ hJx hJR hY h0
  have hv5 := (hJR 0 V h0).1.cell (i := 5) (v := .slice A n c) rfl
  refine callsIn_of_wp Try.func100 rfl trivial ?_
  simp only [Try.ntmps100, List.size_toArray, List.length_cons, List.length_nil, Nat.reduceAdd, Nat.reduceSub, Array.replicate_succ, Array.replicate_zero, List.push_toArray, List.append_toArray, List.nil_append, List.cons_append]
  gi_wp2
  
  gi_loopw [8] (fun i wr => ∃ k : Nat, k ≤ n ∧ i = .int .i64 k ∧ J (cnt zs k) wr) (fun i _ => n - (intOf i).toNat)
  case atStart => exact ⟨0, Nat.zero_le _, rfl, by rw [cnt_zero]; exact h0⟩
  case round =>
    obtain ⟨k, hk, rfl, hJk⟩ := hrel
    by_cases hlt : k < n
    · have ht : decide ((k : Int) < n) = true := decide_eq_true (by omega)
      obtain ⟨bA, off, rfl, hb, hc⟩ := (hJR _ wr hJk).2.get hlt
      have hv := hc k _ (ints_get .i64 zs k (by omega))
      have hst := cnt_step (A := zs) (i := k) (by omega)
      have hgt := fun h => pls_get (A := zs) (i := k) (by omega) h
      obtain ⟨z, hz⟩ : ∃ z, zs.getD k 0 = z := ⟨_, rfl⟩
      rw [hz] at hv hst hgt
      have hR := hJR (cnt zs k)
      have GW : ∀ V, J (cnt zs k) V → V.cell? ⟨b, 0, none⟩ = some (.int .i64 p) := fun V hV => (hR V hV).1.cell rfl
      have hdr := hJ _ _ _ hJk (Below.refl _ wr).drew
      have hyk := hY (cnt zs k) (k, z) wr.drew
      have e1 : (k : Int).tmod p = xv p (k, z) := by unfold xv; rw [Int.tmod_eq_emod_of_nonneg (by omega)]; exact (Int.natCast_emod k p).symm
      have e2 : IntKind.i64.wrap ((k : Int) / p) = yv p (k, z) := by
        unfold yv
        show _ = ((k / p : Nat) : Int)
        rw [← Int.natCast_ediv]
        have := Nat.div_le_self k p
        generalize k / p = q at *
        exact IntWalk.i64_in _ (by omega)
      have hp0 : ¬((p : Int) = 0) := by omega
      have hp1 : ¬(p = 0) := by omega
      gi_wp2
      by_cases h0 : 0 < z
      · have t0 : decide (0 < z) = true := decide_eq_true h0
        rw [if_pos h0] at hst
        refine wm_head_wide 14 (J (cnt zs k)) [(true, 0), (true, 1), (true, 2), (true, 3), (true, 4), (true, 5), (true, 6), (true, 7), (true, 8), (true, 9), (true, 10), (true, 11), (true, 12), (true, 13)] (by kernel_rfl) (by kernel_rfl) ?hS ?_; rotate_left; simp only [pick, List.getElem?_toArray, List.getElem?_cons_succ, List.getElem?_cons_zero]
        case hS => exact hdr
        repeat (first|((with_reducible refine ht_load ?_);refine hm_cell (v := .int .i64 p) rfl _ _ rfl rfl GW ?_ ?_;focus (with_reducible first|exact one2|exact one3|exact one24))|(refine held_take (fun K' hK' => ?_);go_simp;first|(refine hK' _ ?_;clear hK' K')|(apply Exists.intro;refine ⟨?_, hK' _ ?_⟩;(intro _ _;rfl);clear hK' K')))
        refine heldw_end ?_
        obtain ⟨fn, tmps, assign, body, hy, hRd⟩ := hyk (hgt h0) hdr
        dsimp only [encP] at hy
        gi_wp2
        refine hRd.mono ?_
        rintro e W3 (⟨rfl, hJ3⟩ | ⟨rfl, hJx3⟩)
        · gi_wp2
          refine nopo_out ?_
          gi_wp2
          go_roundw
          case rel => exact ⟨k + 1, by omega, by simp, by rw [hst]; exact hJ3⟩
          case measure => simp [intOf]; omega
        · gi_wp2
          refine nopo_out ?_
          gi_wp2
          refine bodyPost_ret (results_none rfl _ _ _) rfl ?_
          exact ⟨⟨_, rfl⟩, .inr hJx3⟩
      · have t0 : decide (0 < z) = false := decide_eq_false h0
        rw [if_neg h0] at hst
        refine wm_head_wide 14 (J (cnt zs k)) [(true, 0), (true, 1), (true, 2), (true, 3), (true, 4), (true, 5), (true, 6), (true, 7), (true, 8), (true, 9), (true, 10), (true, 11), (true, 12), (true, 13)] (by kernel_rfl) (by kernel_rfl) ?hS ?_; rotate_left; simp only [pick, List.getElem?_toArray, List.getElem?_cons_succ, List.getElem?_cons_zero]
        case hS => exact hdr
        repeat (first | (refine held_take (fun K' hK' => ?_); go_simp; first | (refine hK' _ ?_; clear hK' K') | (apply Exists.intro; refine ⟨?_, hK' _ ?_⟩; (intro _ _; rfl); clear hK' K')))
        refine heldw_end ?_
        gi_wp2
        refine ⟨fun _ _ => trivial, ?_⟩
        gi_wp2
        refine nopo_out ?_
        gi_wp2
        go_roundw
        case rel => exact ⟨k + 1, by omega, by simp, by rw [hst]; exact hdr⟩
        case measure => simp [intOf]; omega
    · obtain rfl : n = k := by omega
      gi_wp2
      go_end0
      exact ⟨⟨_, rfl⟩, .inl (by rw [← cnt_end, hl]; exact hJk)⟩
end Go.Proofs.Ytpejoaefnnbghaa
namespace Go.Proofs.Ytpejoaefnnbghaa
open Go.RowKit
attribute [local irreducible] wpHeld wpTree wpList
attribute [local go_sem] Oper.semAt_some
set_option linter.unusedVariables false
def meanV (X Y S : Int) (p : Nat) (zs : List Int) : Value :=
  if isum zs = 0 then .tuple #[.agg #[.int .i64 0, .int .i64 0], .bool false] else .tuple #[.agg #[.int .i64 (X + mean15 (sm zs p 1 0) S (isum zs)), .int .i64 (Y + mean15 (sm zs p 0 1) S (isum zs))], .bool true]
def sumP (zs : List Int) (k : Nat) : Int := lsum (fun x => x.2) ((pls zs).take k)
def moP (p a b : Nat) (zs : List Int) (k : Nat) : Int := lsum (mo p a b) ((pls zs).take k)
section
variable {p q a b k : Nat} {zs : List Int} {x : Nat × Int}
theorem moP_snoc (hx : (pls zs)[k]? = some x) : moP p a b zs (k + 1) = moP p a b zs k + mo p a b x := by unfold moP; rw [lsum_snoc hx]
theorem sumP_snoc (hx : (pls zs)[k]? = some x) : sumP zs (k + 1) = sumP zs k + x.2 := by unfold sumP; rw [lsum_snoc hx]
theorem Gr.moP_bd (G : Gr p q zs) (hab : a + b ≤ 2) : 0 ≤ moP p a b zs k ∧ moP p a b zs k ≤ 4261681299456 := G.pls_take hab k
theorem Gr.sumP_bd (G : Gr p q zs) : 0 ≤ sumP zs k ∧ sumP zs k ≤ 1073741824 := G.pls_taks k
theorem Gr.moP_end (G : Gr p q zs) : moP p a b zs (pls zs).length = sm zs p a b := by unfold moP; rw [List.take_length]; exact G.pls_all
theorem Gr.sumP_end (G : Gr p q zs) : sumP zs (pls zs).length = isum zs := by unfold sumP; rw [List.take_length]; exact G.pls_isum
theorem Gr.pl_bd (G : Gr p q zs) (hx : (pls zs)[k]? = some x) : (0 ≤ x.2 ∧ x.2 ≤ 1073741824) ∧ (0 ≤ xv p x ∧ xv p x ≤ 63) ∧ (0 ≤ yv p x ∧ yv p x ≤ 63) := by
  have hm := (pls_mem (List.mem_of_getElem? hx)).1
  have := G.nums _ (getD_mem (num15_mem.1 hm).1)
  rw [← (num15_mem.1 hm).2] at this
  exact ⟨this, ⟨(G.x1 x).1, (G.x1 x).2.2⟩, (G.y1 hm).1, (G.y1 hm).2.2⟩
end
theorem wrapI {a b : Int} (h : a = b) (h0 : -9223372036854775808 ≤ b) (h1 : b ≤ 9223372036854775807) : wrap64 a = b ∧ IntKind.i64.wrap a = b := by
  subst h
  exact ⟨by unfold wrap64; omega, IntWalk.i64_in _ ⟨h0, by omega⟩⟩
set_option maxRecDepth 100000 in
set_option maxHeartbeats 4000000 in
theorem Mean15 (p q : Nat) (H X Y S : Int) (A : Option Addr) (n c : Nat) (zs : List Int) (w : World) (hG : Gr p q zs) (hl : zs.length = n) (h : Rd w A n (ints .i64 zs)) (hX : -4503599627370496 ≤ X ∧ X ≤ 4503599627370496) (hY : -4503599627370496 ≤ Y ∧ Y ≤ 4503599627370496) (hS : 0 ≤ S ∧ S ≤ 4096) :
    Calls Try.prog 14 #[.agg #[.int .i64 p, .int .i64 H, .int .i64 X, .int .i64 Y, .int .i64 S, .slice A n c]] w fun e w' => e = .returned (meanV X Y S p zs) ∧ Below w.heap.size w w' := by
  obtain ⟨rv, hrv⟩ : ∃ rv, meanV X Y S p zs = rv := ⟨_, rfl⟩
  rw [hrv]
  have K := St.start w
  have HG := Lib.hid hG
  have HR := Lib.hid h
  have PG := places_gives (A := A) (n := n) (c := c) (H := H) (X := X) (Y := Y) (S := S) (zs := zs) (p := p)
  have PG := fun b => PG b hG.w0 hG.w1 hl (by have := hG.n2; omega)
  have PG := Lib.hid PG
  clear hl h hG
  refine calls_of_wp_marks Try.func14 rfl ?_; simp only [Try.ntmps14, List.size_toArray, List.length_cons, List.length_nil, Nat.reduceAdd, Nat.reduceSub, Array.replicate_succ, Array.replicate_zero, List.push_toArray, List.append_toArray, List.nil_append, List.cons_append]
  
  go_wp2_with (first|go_big_skip|((with_reducible refine at_load ?_);first|(refine wm_load (cs := ?_) (t := ?_) (n := ?_) K rfl _ _ rfl rfl ?_ ?_ ?_ ?_;rotate_left 2;(repeat (first|exact At.hd|refine At.tl ?_));rotate_left;(with_reducible first|exact row26|exact row29|exact row98);(solve|exact rfl|simp))|(refine wm_own (cs := ?_) (t := ?_) (v := ?_) K rfl _ _ rfl rfl ?_ ?_ ?_ ?_;rotate_left 2;(repeat (first|exact At.hd|refine At.tl ?_));rotate_left;(first|exact rfl|assumption);(with_reducible first|exact one2))|(refine wm_cell (v := ?_) rfl _ _ rfl rfl ?_ ?_ ?_;rotate_left;(first|assumption|exact (K.below.cell (by assumption)).trans (by assumption));(with_reducible first|exact one2)))|((with_reducible refine at_store ?_);(first|(refine wm_store (L' := ?_) (cs := ?_) (t := ?_) (n := ?_) K rfl _ _ _ rfl rfl rfl rfl ?_ ?_ ?_ ?_ ?_ ?_;rotate_left 3;(repeat (first|exact Put.hd|(refine Put.tl (L' := ?_) ?_;rotate_left)));rotate_left;(with_reducible first|exact row26|exact row29|exact row98);(solve|exact rfl|simp);(solve|exact rfl|simp);(solve|exact rfl|simp [Ones, Value.oneCell']))|(refine wm_put (L' := ?_) (cs := ?_) (new := ?_) (t := ?_) K rfl _ _ _ rfl rfl rfl rfl ?_ ?_ ?_ ?_ rfl rfl ?_;rotate_left 4;(repeat (first|exact Put.hd|(refine Put.tl (L' := ?_) ?_;rotate_left)));(solve|exact Nat.le_of_ble_eq_true rfl|decide|(simp only [List.size_toArray, nums_length];first|assumption|omega)|(simp only [List.size_toArray, nums_length, List.length_set];first|assumption|omega)|simp|omega|(simp only [List.size_toArray, nums_length];omega)|assumption);(solve|(simp only [List.setIfInBounds_toArray];exact rfl)|exact nums_set _ _ _ _|simp only [List.setIfInBounds_toArray, List.set_cons_zero]|simp only [List.setIfInBounds_toArray, List.set_cons_zero, List.set_cons_succ]|(simp only [List.setIfInBounds_toArray, List.set_cons_zero, List.set_cons_succ];exact rfl)|exact rfl);(with_reducible first|exact one2)));(try clear K);(try clear ww);intro ww K;(try simp [go_sem] at K))|((first|((with_reducible refine at_box ?_);refine wm_box K rfl _ _ rfl rfl rfl ?_)|((with_reducible refine at_alloc ?_);refine wm_alloc (v := ?_) (cs := ?_) K rfl _ rfl ?_ ?_ ?_;rotate_left;(with_reducible first|exact zero2|exact zero29|exact zero98);rotate_left;exact rfl));(try clear K);(try clear ww);(first|((fail_if_success (have _h := b1));intro b1 ww K)|((fail_if_success (have _h := b2));intro b2 ww K)|((fail_if_success (have _h := b4));intro b4 ww K)|((fail_if_success (have _h := b5));intro b5 ww K)|((fail_if_success (have _h := b6));intro b6 ww K));(try simp [go_sem, Value.cells] at K))|(go_at_call 56;have zz := places15 K p H X Y S A n c;(with_reducible refine zz.mono ?_);clear zz;rintro e w2 ⟨bb, rfl, K2⟩;(try dsimp only);replace K := K2;clear K2;(try clear ww);revert w2;intro ww K))
  have h0s : lsum (fun x => x.2) ((pls zs).take 0) = 0 := rfl
  refine wm_range (α := Nat × Int) 9 rfl (enters_of Try.func100 (by kernel_rfl) rfl) (PG.out bb) (fun _ => rfl) (fun k V => St w.heap.size w [(bb, #[.int .i64 p, .int .i64 H, .int .i64 X, .int .i64 Y, .int .i64 S, .slice A n c], 26), (b6, #[.int .i64 (sumP zs k)], 2), (b5, #[.int .i64 (moP p 0 1 zs k)], 2), (b4, #[.int .i64 (moP p 1 0 zs k)], 2), (b2, #[.int .i64 0, .int .i64 0], 29), (b1, #[.int .i64 p, .int .i64 H, .int .i64 X, .int .i64 Y, .int .i64 S, .slice A n c], 26)] Any V) (fun _ _ => False) (fun k => stable_st K.size firm_any) (fun _ => stable_false) (fun k V K => ⟨K.get .hd, HR.out.below K.below⟩) K ?round ?done ?stop
  case round =>
    intro lo0 k x V KK hlo hx K1 hK
    obtain ⟨z0, u0, v0⟩ := HG.out.pl_bd hx
    have ea := moP_snoc (p := p) (a := 1) (b := 0) hx
    have eb := moP_snoc (p := p) (a := 0) (b := 1) hx
    have ec := sumP_snoc hx
    rw [mo10] at ea
    rw [mo01] at eb
    have a0 := HG.out.moP_bd (a := 1) (b := 0) (k := k) (by omega)
    have a1 := HG.out.moP_bd (a := 1) (b := 0) (k := k + 1) (by omega)
    have b0 := HG.out.moP_bd (a := 0) (b := 1) (k := k) (by omega)
    have b1' := HG.out.moP_bd (a := 0) (b := 1) (k := k + 1) (by omega)
    have c0 := HG.out.sumP_bd (k := k)
    have c1 := HG.out.sumP_bd (k := k + 1)
    have hD := K.size
    generalize ww.heap.size = D at *
    clear K hx
    replace K := K1.keepsFrom D
    clear K1
    simp only [encP, List.zip_toArray, List.zip_cons_cons, List.zip_nil_right, List.size_toArray]
    generalize xv p x = u at *
    generalize yv p x = v at *
    generalize x.2 = z at *
    clear x
    obtain ⟨m1, hm1⟩ : ∃ m1, z * u = m1 := ⟨_, rfl⟩
    obtain ⟨m2, hm2⟩ : ∃ m2, z * v = m2 := ⟨_, rfl⟩
    rw [hm1] at ea
    rw [hm2] at eb
    have f1 := wrapI hm1 (by omega) (by omega)
    have f2 := wrapI hm2 (by omega) (by omega)
    have f3 := wrapI ea.symm (by omega) (by omega)
    have f4 := wrapI eb.symm (by omega) (by omega)
    have f5 := wrapI ec.symm (by omega) (by omega)
    clear ea eb ec a0 a1 b0 b1' c0 c1 hm1 hm2 z0 u0 v0
    obtain ⟨f1, g1⟩ := f1
    obtain ⟨f2, g2⟩ := f2
    obtain ⟨f3, g3⟩ := f3
    obtain ⟨f4, g4⟩ := f4
    obtain ⟨f5, g5⟩ := f5
    gi_wp2_with ((refine rin_step (fun c e => by cases e) ?_;go_wp2_with (first|go_big_skip|((with_reducible refine at_load ?_);first|(refine wm_load (cs := ?_) (t := ?_) (n := ?_) K rfl _ _ rfl rfl ?_ ?_ ?_ ?_;rotate_left 2;(repeat (first|exact At.hd|refine At.tl ?_));rotate_left;(with_reducible first|exact row26|exact row29|exact row98);(solve|exact rfl|simp))|(refine wm_own (cs := ?_) (t := ?_) (v := ?_) K rfl _ _ rfl rfl ?_ ?_ ?_ ?_;rotate_left 2;(repeat (first|exact At.hd|refine At.tl ?_));rotate_left;(first|exact rfl|assumption);(with_reducible first|exact one2))|(refine wm_cell (v := ?_) rfl _ _ rfl rfl ?_ ?_ ?_;rotate_left;(first|assumption|exact (K.below.cell (by assumption)).trans (by assumption));(with_reducible first|exact one2)))|((with_reducible refine at_store ?_);(first|(refine wm_store (L' := ?_) (cs := ?_) (t := ?_) (n := ?_) K rfl _ _ _ rfl rfl rfl rfl ?_ ?_ ?_ ?_ ?_ ?_;rotate_left 3;(repeat (first|exact Put.hd|(refine Put.tl (L' := ?_) ?_;rotate_left)));rotate_left;(with_reducible first|exact row26|exact row29|exact row98);(solve|exact rfl|simp);(solve|exact rfl|simp);(solve|exact rfl|simp [Ones, Value.oneCell']))|(refine wm_put (L' := ?_) (cs := ?_) (new := ?_) (t := ?_) K rfl _ _ _ rfl rfl rfl rfl ?_ ?_ ?_ ?_ rfl rfl ?_;rotate_left 4;(repeat (first|exact Put.hd|(refine Put.tl (L' := ?_) ?_;rotate_left)));(solve|exact Nat.le_of_ble_eq_true rfl|decide|(simp only [List.size_toArray, nums_length];first|assumption|omega)|(simp only [List.size_toArray, nums_length, List.length_set];first|assumption|omega)|simp|omega|(simp only [List.size_toArray, nums_length];omega)|assumption);(solve|(simp only [List.setIfInBounds_toArray];exact rfl)|exact nums_set _ _ _ _|simp only [List.setIfInBounds_toArray, List.set_cons_zero]|simp only [List.setIfInBounds_toArray, List.set_cons_zero, List.set_cons_succ]|(simp only [List.setIfInBounds_toArray, List.set_cons_zero, List.set_cons_succ];exact rfl)|exact rfl);(with_reducible first|exact one2)));(try clear K);(try clear ww);intro ww K;(try simp [go_sem] at K))|((first|((with_reducible refine at_box ?_);refine wm_box K rfl _ _ rfl rfl rfl ?_)|((with_reducible refine at_alloc ?_);refine wm_alloc (v := ?_) (cs := ?_) K rfl _ rfl ?_ ?_ ?_;rotate_left;(with_reducible first|exact zero2|exact zero29|exact zero98);rotate_left;exact rfl));(try clear K);(try clear ww);((fail_if_success (have _h := b7));intro b7 ww K);(try simp [go_sem, Value.cells] at K))));refine qn_out ?_)
    refine hK _ _ K.fact.1 (fun W2 r o o' hr ho hc e => ?_); replace K := K.begun hD firm_any hr ho hc e; clear hr ho hc e hK
    gi_wp2_with fail
    refine wm_treeIn _ (.take 1 (.take 2 (.take 3 (.take 4 (.take 7 (.take 8 (.take 9 (.take 10 (.take 13 (.alt 0 (.take 5 (.alt 6 (.take 11 (.alt 12 (.take 14 (.alt 15 (.alt 16 (.alt 17 .done .stop) .stop) .stop)) (.alt 15 (.alt 12 (.take 14 (.alt 16 (.alt 17 .done .stop) .stop)) (.alt 16 (.alt 12 (.take 14 (.alt 17 .done .stop)) .stop) .stop)) .stop))) (.alt 12 (.take 14 (.alt 6 (.take 11 (.alt 15 (.alt 16 (.alt 17 .done .stop) .stop) .stop)) (.alt 15 (.alt 6 (.take 11 (.alt 16 (.alt 17 .done .stop) .stop)) .stop) .stop))) (.alt 15 (.alt 6 (.take 11 (.alt 12 (.take 14 (.alt 16 (.alt 17 .done .stop) .stop)) (.alt 16 (.alt 12 (.take 14 (.alt 17 .done .stop)) .stop) .stop))) (.alt 12 (.take 14 (.alt 6 (.take 11 (.alt 16 (.alt 17 .done .stop) .stop)) .stop)) .stop)) .stop)))) (.alt 6 (.take 11 (.alt 0 (.take 5 (.alt 12 (.take 14 (.alt 15 (.alt 16 (.alt 17 .done .stop) .stop) .stop)) (.alt 15 (.alt 12 (.take 14 (.alt 16 (.alt 17 .done .stop) .stop)) (.alt 16 (.alt 12 (.take 14 (.alt 17 .done .stop)) .stop) .stop)) .stop))) (.alt 12 (.take 14 (.alt 0 (.take 5 (.alt 15 (.alt 16 (.alt 17 .done .stop) .stop) .stop)) .stop)) .stop))) (.alt 12 (.take 14 (.alt 0 (.take 5 (.alt 6 (.take 11 (.alt 15 (.alt 16 (.alt 17 .done .stop) .stop) .stop)) (.alt 15 (.alt 6 (.take 11 (.alt 16 (.alt 17 .done .stop) .stop)) .stop) .stop))) (.alt 6 (.take 11 (.alt 0 (.take 5 (.alt 15 (.alt 16 (.alt 17 .done .stop) .stop) .stop)) .stop)) .stop))) .stop)))))))))))) K sb2s (by kernel_rfl) (by kernel_rfl) (by kernel_rfl) (fun _ _ h => h) ?_; (try clear K); (try clear ww); intro ww K; (try simp [go_sem] at K)
    repeat' (first|exact tree_stop|(refine tm_own (cs := ?_) (t0 := ?_) (v := ?_) rfl rfl _ _ rfl rfl ?_ ?_ ?_ ?_;rotate_left 2;(repeat (first|exact At.hd|refine At.tl ?_));rotate_left;(first|exact rfl|assumption);(with_reducible first|exact one2))|(refine tree_take (fun K' hK' => ?_);simp only [opAt, List.getElem?_toArray, List.getElem?_cons_succ, List.getElem?_cons_zero, Option.getD_some];go_simp;first|(refine hK' _ ?_;clear hK' K')|(apply Exists.intro;refine ⟨?_, hK' _ ?_⟩;(intro _ _;rfl);clear hK' K'))|(refine tm_nowAt (cs := ?_) (t0 := ?_) (v := ?_) K rfl rfl _ _ rfl rfl ?_ ?_ ?_ (by apply via sb2s;first|exact K|exact K.tail|exact K.tail.tail|exact K.tail.tail.tail|exact K.weak wk1|exact K.tail.weak wk1|exact K.tail.tail.weak wk1|exact K.tail.tail.tail.weak wk1|exact K.weak wk2|exact K.tail.weak wk2|exact K.tail.tail.weak wk2|exact K.tail.tail.tail.weak wk2|exact K.weak wk3|exact K.tail.weak wk3|exact K.tail.tail.weak wk3|exact K.tail.tail.tail.weak wk3|exact K.weak wk4|exact K.tail.weak wk4|exact K.tail.tail.weak wk4|exact K.tail.tail.tail.weak wk4|exact K.weak wk5|exact K.tail.weak wk5|exact K.tail.tail.weak wk5|exact K.tail.tail.tail.weak wk5) ?_ ?_;rotate_left 2;(repeat (first|exact At.hd|refine At.tl ?_));rotate_left;(first|exact rfl|assumption);(with_reducible first|exact one2))|(refine tm_put (L' := ?_) (cs := ?_) (new := ?_) (t0 := ?_) K rfl rfl _ _ _ rfl rfl rfl rfl ?_ ?_ ?_ ?_ rfl rfl ?_ ?_;rotate_left 4;(repeat (first|exact Put.hd|(refine Put.tl (L' := ?_) ?_;rotate_left)));(solve|exact Nat.le_of_ble_eq_true rfl|decide|(simp only [List.size_toArray, nums_length];first|assumption|omega)|(simp only [List.size_toArray, nums_length, List.length_set];first|assumption|omega)|simp|omega|(simp only [List.size_toArray, nums_length];omega)|assumption);(solve|(simp only [List.setIfInBounds_toArray];exact rfl)|exact nums_set _ _ _ _|simp only [List.setIfInBounds_toArray, List.set_cons_zero]|simp only [List.setIfInBounds_toArray, List.set_cons_zero, List.set_cons_succ]|(simp only [List.setIfInBounds_toArray, List.set_cons_zero, List.set_cons_succ];exact rfl)|exact rfl);(with_reducible first|exact one2);intro ww2 K2;(try simp [go_sem] at K2);refine ⟨(by apply via sb2s;first|exact K2|exact K2.tail|exact K2.tail.tail|exact K2.tail.tail.tail|exact K2.weak wk1|exact K2.tail.weak wk1|exact K2.tail.tail.weak wk1|exact K2.tail.tail.tail.weak wk1|exact K2.weak wk2|exact K2.tail.weak wk2|exact K2.tail.tail.weak wk2|exact K2.tail.tail.tail.weak wk2|exact K2.weak wk3|exact K2.tail.weak wk3|exact K2.tail.tail.weak wk3|exact K2.tail.tail.tail.weak wk3|exact K2.weak wk4|exact K2.tail.weak wk4|exact K2.tail.tail.weak wk4|exact K2.tail.tail.tail.weak wk4|exact K2.weak wk5|exact K2.tail.weak wk5|exact K2.tail.tail.weak wk5|exact K2.tail.tail.tail.weak wk5), ?_⟩;replace K := K2;clear K2;(try clear ww);revert ww2;intro ww K))
    all_goals refine tree_done ?_
    all_goals (try simp only [opAt, List.getElem?_toArray, List.getElem?_cons_succ, List.getElem?_cons_zero, Option.getD_some])
    all_goals (try go_simp)
    all_goals (try gi_wp2_with fail)
    all_goals exact ⟨K.fact.1, K.tail.weak fun _ h => h.2⟩
  case done =>
    intro D V hD K1 hk
    rw [HG.out.moP_end, HG.out.moP_end, HG.out.sumP_end] at K1
    have hB := Nat.le_trans K.size hD
    clear K hD
    have K := K1.mark hk
    clear K1 hk
    have hs0 := HG.out.s0
    have hs1 := HG.out.top
    have hx := HG.out.mean_x
    have hy := HG.out.mean_y
    have hp := HG.out.w1
    have hp0 := HG.out.w0
    have hq := HG.out.h1
    have hq0 := HG.out.h0
    unfold meanV at hrv
    revert V
    intro ww K
    by_cases hz : isum zs = 0
    · have t0 : decide (isum zs = 0) = true := decide_eq_true hz
      rw [if_pos hz] at hrv
      subst hrv
      clear hx hy hp hp0 hq hq0 hs0 hs1
      rw [hz] at K
      clear t0 hz
      go_wp2_with (first|go_big_skip|((with_reducible refine at_load ?_);first|(refine wm_load (cs := ?_) (t := ?_) (n := ?_) K rfl _ _ rfl rfl ?_ ?_ ?_ ?_;rotate_left 2;(repeat (first|exact At.hd|refine At.tl ?_));rotate_left;(with_reducible first|exact row26|exact row29|exact row98);(solve|exact rfl|simp))|(refine wm_own (cs := ?_) (t := ?_) (v := ?_) K rfl _ _ rfl rfl ?_ ?_ ?_ ?_;rotate_left 2;(repeat (first|exact At.hd|refine At.tl ?_));rotate_left;(first|exact rfl|assumption);(with_reducible first|exact one2))|(refine wm_cell (v := ?_) rfl _ _ rfl rfl ?_ ?_ ?_;rotate_left;(first|assumption|exact (K.below.cell (by assumption)).trans (by assumption));(with_reducible first|exact one2)))|((with_reducible refine at_store ?_);(first|(refine wm_store (L' := ?_) (cs := ?_) (t := ?_) (n := ?_) K rfl _ _ _ rfl rfl rfl rfl ?_ ?_ ?_ ?_ ?_ ?_;rotate_left 3;(repeat (first|exact Put.hd|(refine Put.tl (L' := ?_) ?_;rotate_left)));rotate_left;(with_reducible first|exact row26|exact row29|exact row98);(solve|exact rfl|simp);(solve|exact rfl|simp);(solve|exact rfl|simp [Ones, Value.oneCell']))|(refine wm_put (L' := ?_) (cs := ?_) (new := ?_) (t := ?_) K rfl _ _ _ rfl rfl rfl rfl ?_ ?_ ?_ ?_ rfl rfl ?_;rotate_left 4;(repeat (first|exact Put.hd|(refine Put.tl (L' := ?_) ?_;rotate_left)));(solve|exact Nat.le_of_ble_eq_true rfl|decide|(simp only [List.size_toArray, nums_length];first|assumption|omega)|(simp only [List.size_toArray, nums_length, List.length_set];first|assumption|omega)|simp|omega|(simp only [List.size_toArray, nums_length];omega)|assumption);(solve|(simp only [List.setIfInBounds_toArray];exact rfl)|exact nums_set _ _ _ _|simp only [List.setIfInBounds_toArray, List.set_cons_zero]|simp only [List.setIfInBounds_toArray, List.set_cons_zero, List.set_cons_succ]|(simp only [List.setIfInBounds_toArray, List.set_cons_zero, List.set_cons_succ];exact rfl)|exact rfl);(with_reducible first|exact one2)));(try clear K);(try clear ww);intro ww K;(try simp [go_sem] at K)))
      exact retM1 (K.weak fun _ h => h.2) firm_any rfl hB K.fact.1 (fun w' K' => ⟨_, K'.res2 rfl _ rfl (.tl (.tl (.tl (.tl .hd)))) (by (with_reducible first|exact row26|exact row29|exact row98)) (by (solve|exact rfl|simp)) rfl, rfl, K'.below⟩)
    · have t0 : decide (isum zs = 0) = false := decide_eq_false hz
      have hs : 0 < isum zs := by omega
      have ex := mean_div (m := p - 1) hs hx.1 hx.2 hS.1 hS.2 (by omega) (by omega)
      have ey := mean_div (m := q - 1) hs hy.1 hy.2 hS.1 hS.2 (by omega) (by omega)
      have ix := mean_in hs hx.1 hx.2 hS.1
      have iy := mean_in hs hy.1 hy.2 hS.1
      have bx := HG.out.sm_bd' (a := 1) (b := 0) (by omega)
      have by' := HG.out.sm_bd' (a := 0) (b := 1) (by omega)
      have mx := Int.mul_le_mul (show (p : Int) - 1 ≤ 63 by omega) hS.2 hS.1 (by omega)
      have my := Int.mul_le_mul (show (q : Int) - 1 ≤ 63 by omega) hS.2 hS.1 (by omega)
      generalize sm zs p 1 0 = sx at *
      generalize sm zs p 0 1 = sy at *
      generalize isum zs = s at *
      have MX : Hid (∀ w, Calls Try.prog 57 #[.int .i64 sx, .int .i64 S, .int .i64 s, .int .i64 2] w fun e w' => e = .returned (.tuple #[.int .i64 (mean15 sx S s), .int .i64 (divM (sx * S) s 2).2]) ∧ Below w.heap.size w w') := Lib.hid (fun w => by
        have := MulDiv_any sx S s 2 w (by omega) (by omega) (by omega) (by omega) (by omega) (by omega)
        rwa [ex] at this)
      have MY : Hid (∀ w, Calls Try.prog 57 #[.int .i64 sy, .int .i64 S, .int .i64 s, .int .i64 2] w fun e w' => e = .returned (.tuple #[.int .i64 (mean15 sy S s), .int .i64 (divM (sy * S) s 2).2]) ∧ Below w.heap.size w w') := Lib.hid (fun w => by
        have := MulDiv_any sy S s 2 w (by omega) (by omega) (by omega) (by omega) (by omega) (by omega)
        rwa [ey] at this)
      generalize (divM (sx * S) s 2).2 = cx at *
      generalize (divM (sy * S) s 2).2 = cy at *
      rw [if_neg hz] at hrv
      generalize mean15 sx S s = ax at *
      generalize mean15 sy S s = ay at *
      obtain ⟨X2, hX2⟩ : ∃ X2, X + ax = X2 := ⟨_, rfl⟩
      obtain ⟨Y2, hY2⟩ : ∃ Y2, Y + ay = Y2 := ⟨_, rfl⟩
      have wx := wrapI hX2 (by omega) (by omega)
      have wy := wrapI hY2 (by omega) (by omega)
      rw [hX2, hY2] at hrv
      subst hrv
      clear hX2 hY2 hX hY hS hs ex ey ix iy bx by' mx my hx hy hp hp0 hq hq0 hs0 hs1
      obtain ⟨wx, wx2⟩ := wx
      obtain ⟨wy, wy2⟩ := wy
      go_wp2_with (first|go_big_skip|((with_reducible refine at_load ?_);first|(refine wm_load (cs := ?_) (t := ?_) (n := ?_) K rfl _ _ rfl rfl ?_ ?_ ?_ ?_;rotate_left 2;(repeat (first|exact At.hd|refine At.tl ?_));rotate_left;(with_reducible first|exact row26|exact row29|exact row98);(solve|exact rfl|simp))|(refine wm_own (cs := ?_) (t := ?_) (v := ?_) K rfl _ _ rfl rfl ?_ ?_ ?_ ?_;rotate_left 2;(repeat (first|exact At.hd|refine At.tl ?_));rotate_left;(first|exact rfl|assumption);(with_reducible first|exact one2))|(refine wm_cell (v := ?_) rfl _ _ rfl rfl ?_ ?_ ?_;rotate_left;(first|assumption|exact (K.below.cell (by assumption)).trans (by assumption));(with_reducible first|exact one2)))|((with_reducible refine at_store ?_);(first|(refine wm_store (L' := ?_) (cs := ?_) (t := ?_) (n := ?_) K rfl _ _ _ rfl rfl rfl rfl ?_ ?_ ?_ ?_ ?_ ?_;rotate_left 3;(repeat (first|exact Put.hd|(refine Put.tl (L' := ?_) ?_;rotate_left)));rotate_left;(with_reducible first|exact row26|exact row29|exact row98);(solve|exact rfl|simp);(solve|exact rfl|simp);(solve|exact rfl|simp [Ones, Value.oneCell']))|(refine wm_put (L' := ?_) (cs := ?_) (new := ?_) (t := ?_) K rfl _ _ _ rfl rfl rfl rfl ?_ ?_ ?_ ?_ rfl rfl ?_;rotate_left 4;(repeat (first|exact Put.hd|(refine Put.tl (L' := ?_) ?_;rotate_left)));(solve|exact Nat.le_of_ble_eq_true rfl|decide|(simp only [List.size_toArray, nums_length];first|assumption|omega)|(simp only [List.size_toArray, nums_length, List.length_set];first|assumption|omega)|simp|omega|(simp only [List.size_toArray, nums_length];omega)|assumption);(solve|(simp only [List.setIfInBounds_toArray];exact rfl)|exact nums_set _ _ _ _|simp only [List.setIfInBounds_toArray, List.set_cons_zero]|simp only [List.setIfInBounds_toArray, List.set_cons_zero, List.set_cons_succ]|(simp only [List.setIfInBounds_toArray, List.set_cons_zero, List.set_cons_succ];exact rfl)|exact rfl);(with_reducible first|exact one2)));(try clear K);(try clear ww);intro ww K;(try simp [go_sem] at K))|(go_at_call 57;(with_reducible refine (MX.out _).mono ?_);rintro e w2 ⟨rfl, k1⟩;replace K := K.step k1;clear k1;(try clear ww);revert w2;intro ww K)|(go_at_call 57;(with_reducible refine (MY.out _).mono ?_);rintro e w2 ⟨rfl, k1⟩;replace K := K.step k1;clear k1;(try clear ww);revert w2;intro ww K))
      exact retM1 (K.weak fun _ h => h.2) firm_any rfl hB K.fact.1 (fun w' K' => ⟨_, K'.res2 rfl _ rfl (.tl (.tl (.tl (.tl .hd)))) (by (with_reducible first|exact row26|exact row29|exact row98)) (by (solve|exact rfl|simp)) rfl, rfl, K'.below⟩)
  case stop =>
    intro D c W _ h _
    exact h.elim
end Go.Proofs.Ytpejoaefnnbghaa
namespace Go.Proofs.Ytpejoaefnnbghaa
open Go.RowKit
attribute [local irreducible] wpHeld wpTree wpList
set_option linter.unusedVariables false
theorem len_lt (x : Nat) (hx : x < 1152921504606846976) : ∃ n : Nat, Lib.bitLen x = n ∧ n ≤ 60 ∧ x < 2 ^ n := by
  by_cases h0 : x = 0
  · subst h0; exact ⟨0, by decide, by omega, by omega⟩
  · refine ⟨Nat.log2 x + 1, bitLen_log2 x h0 (Nat.lt_of_lt_of_le hx (by decide)), ?_, Nat.lt_log2_self⟩
    have := (Nat.log2_lt (k := 60) h0).2 hx
    omega
theorem root_start {x n : Nat} (hx : x < 2 ^ n) (hn : n ≤ 60) : RootAt x ((n + 1) / 2 + 1) 0 := by
  refine ⟨rfl, by omega, by omega, ?_⟩
  rw [Nat.zero_add, ← Nat.pow_add]
  exact Nat.lt_of_lt_of_le hx (Nat.pow_le_pow_right (by omega) (by omega))
theorem root_small {x k r : Nat} (h : RootAt x k r) (hx : x < 1152921504606846976) : r < 1073741824 := by
  have h3 := h.2.2.1
  rcases Nat.lt_or_ge r 1073741824 with h | h
  · exact h
  · have := Nat.mul_le_mul h h; omega
theorem isq_of {x r : Nat} (h : RootAt x 0 r) (hx : x < 1152921504606846976) : r = isq x :=
  root_unique h.2.2.1 (by simpa using h.2.2.2) (isq_spec (Nat.lt_of_lt_of_le hx (by decide))).1 (isq_spec (Nat.lt_of_lt_of_le hx (by decide))).2.1
theorem pow_small {j : Nat} (hj : j ≤ 30) : 1 ≤ 2 ^ j ∧ 2 ^ j ≤ 1073741824 := ⟨Nat.pow_pos (by omega), Nat.pow_le_pow_right (n := 2) (by omega) hj⟩
set_option maxRecDepth 100000 in
set_option maxHeartbeats 2000000 in
theorem Floor26 (x : Nat) (w : World) (hx : x < 1152921504606846976) :
    Calls Try.prog 112 #[.int .u64 x] w fun e w' => e = .returned (.int .u64 (isq x)) ∧ Below w.heap.size w w' := by
  have K := St.start w
  obtain ⟨n, hn, hn60, hxn⟩ := len_lt x hx
  have hs := Lib.hid (root_start hxn hn60)
  have HX := Lib.hid hx
  have HQ := Lib.hid (fun r h => isq_of (x := x) (r := r) h hx)
  have BB : Hid (∀ w, Calls Try.prog 123 #[.int .u64 x] w fun e w' => e = .returned (.int .i64 n) ∧ Below w.heap.size w w') := Lib.hid (fun w => (Bits_any x n w (Nat.lt_of_lt_of_le hx (by decide)) hn).mono fun e w' h => ⟨h.1, below_of_eq h.2⟩)
  obtain ⟨a, ha⟩ : ∃ a : Nat, (n + 1) / 2 = a := ⟨_, rfl⟩
  have ha30 : a ≤ 30 := by clear hs HX HQ BB; omega
  have e1 := wrapI (a := (n : Int) + 1) (b := n + 1) rfl (by omega) (by omega)
  have d1 : ((n : Int) + 1).tdiv 2 = a := by rw [Int.tdiv_eq_ediv_of_nonneg (by omega)]; omega
  have e2 := wrapI d1 (by omega) (by omega)
  have e3 := wrapI (a := (a : Int)) (b := a) rfl (by omega) (by omega)
  obtain ⟨e1, f1⟩ := e1
  obtain ⟨e2, f2⟩ := e2
  obtain ⟨e3, f3⟩ := e3
  rw [ha] at hs
  clear hx hn hn60 hxn ha
  go_enter Try.func112, Try.ntmps112
  go_wp2_with (first|go_big_skip|((with_reducible refine at_load ?_);fail)|((with_reducible refine at_store ?_);fail)|((first|((with_reducible refine at_box ?_);refine wm_box K rfl _ _ rfl rfl rfl ?_)|((with_reducible refine at_alloc ?_);refine wm_alloc (v := ?_) (cs := ?_) K rfl _ rfl ?_ ?_ ?_;rotate_left;(with_reducible first|fail);rotate_left;exact rfl));(try clear K);(try clear ww);((fail_if_success (have _h := b9));intro b9 ww K);(try simp [go_sem, Value.cells] at K))|(go_at_call 123;(with_reducible refine (BB.out _).mono ?_);rintro e w2 ⟨rfl, k1⟩;replace K := K.step k1;clear k1;(try clear ww);revert w2;intro ww K))
  go_loopw [3, 4] (fun v i wr => ∃ (j : Nat) (z : Int) (r : Nat), j ≤ a + 1 ∧ z = (j : Int) - 1 ∧ i = .int .i64 z ∧ v = .int .u64 r ∧ Hid (RootAt x j r) ∧ St w.heap.size w [] Any wr) (fun _ i _ => (intOf i + 1).toNat)
  case atStart => exact ⟨a + 1, a, 0, by omega, by omega, rfl, rfl, hs, K⟩
  case round =>
    clear K hs e1 f1 e2 f2 e3 f3 d1
    obtain ⟨j, z, r, hj, hz, rfl, rfl, G, K⟩ := hrel
    rcases j with _ | j
    · have E := Lib.hid (HQ.out r G.out)
      obtain rfl : z = -1 := by omega
      clear hz G
      go_wp2_with (first|go_big_skip|((with_reducible refine at_load ?_);fail)|((with_reducible refine at_store ?_);fail)|((first|((with_reducible refine at_box ?_);refine wm_box K rfl _ _ rfl rfl rfl ?_)|((with_reducible refine at_alloc ?_);refine wm_alloc (v := ?_) (cs := ?_) K rfl _ rfl ?_ ?_ ?_;rotate_left;(with_reducible first|fail);rotate_left;exact rfl));(try clear K);(try clear ww);((fail_if_success (have _h := b9));intro b9 ww K);(try simp [go_sem, Value.cells] at K)))
      go_ret
      exact ⟨by rw [← E.out]; rfl, K.below⟩
    · obtain rfl : z = (j : Int) := by omega
      clear hz
      have hp := pow_small (j := j) (by omega)
      have hr := root_small G.out HX.out
      obtain ⟨nx, hnx⟩ : ∃ nx : Nat, nx = r + 2 ^ j := ⟨_, rfl⟩
      have hfit : nx ≤ 2147483648 := by omega
      have hsq := Nat.mul_le_mul hfit hfit
      have eo : bits .or .u64 (r : Int) (IntKind.u64.wrap (2 ^ j)) = (nx : Int) := by
        have h2 : 2 ^ j < 18446744073709551616 := by omega
        have e2 : IntKind.u64.wrap (2 ^ j) = ((2 ^ j : Nat) : Int) := by
          rw [show ((2 : Int) ^ j) = ((2 ^ j : Nat) : Int) by simp]
          generalize 2 ^ j = p at *
          exact IntWalk.u64_in _ (by omega)
        rw [e2, bits_or_u64_nat r (2 ^ j) (by omega) h2, root_or G.out.1, hnx]
      have G' : Hid (RootAt x j (if nx * nx ≤ x then nx else r)) := Lib.hid (by rw [hnx]; exact RootAt_succ G.out (by omega))
      have t1 : decide ((nx : Int) < 4294967296) = true := decide_eq_true (by omega)
      have t1b : decide (nx < 4294967296) = true := decide_eq_true (by omega)
      have e5 : IntKind.u64.wrap ((nx : Int) * nx) = ((nx * nx : Nat) : Int) := by rw [← Int.natCast_mul]; exact IntWalk.u64_in _ (by omega)
      obtain ⟨sq, hsq2⟩ : ∃ sq, nx * nx = sq := ⟨_, rfl⟩
      rw [hsq2] at e5 G'
      clear G hnx hp hr hsq
      have hj64 : j ≤ 64 := by omega
      by_cases hle : sq ≤ x
      · have t2 : decide ((sq : Int) ≤ x) = true := decide_eq_true (by omega)
        have t2b : decide (sq ≤ x) = true := decide_eq_true hle
        rw [if_pos hle] at G'
        clear hsq2
        go_wp2_with (first|go_big_skip|((with_reducible refine at_load ?_);fail)|((with_reducible refine at_store ?_);fail)|((first|((with_reducible refine at_box ?_);refine wm_box K rfl _ _ rfl rfl rfl ?_)|((with_reducible refine at_alloc ?_);refine wm_alloc (v := ?_) (cs := ?_) K rfl _ rfl ?_ ?_ ?_;rotate_left;(with_reducible first|fail);rotate_left;exact rfl));(try clear K);(try clear ww);((fail_if_success (have _h := b9));intro b9 ww K);(try simp [go_sem, Value.cells] at K)))
        exact ⟨⟨j, _, nx, by omega, rfl, by simp, rfl, G', K⟩, by simp [intOf]⟩
      · have t2 : decide ((sq : Int) ≤ x) = false := decide_eq_false (by omega)
        have t2b : decide (sq ≤ x) = false := decide_eq_false hle
        rw [if_neg hle] at G'
        clear hsq2
        go_wp2_with (first|go_big_skip|((with_reducible refine at_load ?_);fail)|((with_reducible refine at_store ?_);fail)|((first|((with_reducible refine at_box ?_);refine wm_box K rfl _ _ rfl rfl rfl ?_)|((with_reducible refine at_alloc ?_);refine wm_alloc (v := ?_) (cs := ?_) K rfl _ rfl ?_ ?_ ?_;rotate_left;(with_reducible first|fail);rotate_left;exact rfl));(try clear K);(try clear ww);((fail_if_success (have _h := b9));intro b9 ww K);(try simp [go_sem, Value.cells] at K)))
        exact ⟨⟨j, _, r, by omega, rfl, by simp, rfl, G', K⟩, by simp [intOf]⟩
def csq (x : Nat) : Nat := if isq x * isq x < x then isq x + 1 else isq x
theorem isq_fac {x : Nat} (hx : x < 1152921504606846976) : isq x * isq x ≤ x ∧ x < (isq x + 1) * (isq x + 1) :=
  ⟨(isq_spec (A := x) (Nat.lt_of_lt_of_le hx (by decide))).1, (isq_spec (A := x) (Nat.lt_of_lt_of_le hx (by decide))).2.1⟩
theorem isq_small {x : Nat} (hx : x < 1152921504606846976) : isq x < 1073741824 := by
  have h3 := (isq_spec (A := x) (Nat.lt_of_lt_of_le hx (by decide))).1
  rcases Nat.lt_or_ge (isq x) 1073741824 with h | h
  · exact h
  · have := Nat.mul_le_mul h h; omega
set_option maxRecDepth 100000 in
set_option maxHeartbeats 2000000 in
theorem Ceil26 (x : Nat) (w : World) (hx : x < 1152921504606846976) :
    Calls Try.prog 87 #[.int .u64 x] w fun e w' => e = .returned (.int .u64 (csq x)) ∧ Below w.heap.size w w' := by
  have K := St.start w
  have FF := Lib.hid (fun w => Floor26 x w hx)
  have hr := isq_small hx
  obtain ⟨rv, hrv⟩ : ∃ rv, csq x = rv := ⟨_, rfl⟩
  rw [hrv]
  unfold csq at hrv
  generalize isq x = r at *
  have hsq := Nat.mul_le_mul (Nat.le_of_lt hr) (Nat.le_of_lt hr)
  have e5 : IntKind.u64.wrap ((r : Int) * r) = ((r * r : Nat) : Int) := by rw [← Int.natCast_mul]; exact IntWalk.u64_in _ (by omega)
  obtain ⟨sq, hsq2⟩ : ∃ sq, r * r = sq := ⟨_, rfl⟩
  rw [hsq2] at e5 hrv
  have e6 : IntKind.u64.wrap ((r : Int) + 1) = ((r + 1 : Nat) : Int) := by rw [show (r : Int) + 1 = ((r + 1 : Nat) : Int) from rfl]; exact IntWalk.u64_in _ (by omega)
  clear hsq hsq2 hr hx
  by_cases h : sq < x
  · rw [if_pos h] at hrv
    have t1 : decide ((sq : Int) < x) = true := decide_eq_true (by omega)
    have t1b : decide (sq < x) = true := decide_eq_true h
    subst hrv
    go_enter Try.func87, Try.ntmps87
    go_wp2_with (first|go_big_skip|((with_reducible refine at_load ?_);fail)|((with_reducible refine at_store ?_);fail)|((first|((with_reducible refine at_box ?_);refine wm_box K rfl _ _ rfl rfl rfl ?_)|((with_reducible refine at_alloc ?_);refine wm_alloc (v := ?_) (cs := ?_) K rfl _ rfl ?_ ?_ ?_;rotate_left;(with_reducible first|fail);rotate_left;exact rfl));(try clear K);(try clear ww);((fail_if_success (have _h := b9));intro b9 ww K);(try simp [go_sem, Value.cells] at K))|(go_at_call 112;(with_reducible refine (FF.out _).mono ?_);rintro e w2 ⟨rfl, k1⟩;replace K := K.step k1;clear k1;(try clear ww);revert w2;intro ww K))
    go_ret
    exact ⟨rfl, K.below⟩
  · rw [if_neg h] at hrv
    have t1 : decide ((sq : Int) < x) = false := decide_eq_false (by omega)
    have t1b : decide (sq < x) = false := decide_eq_false h
    subst hrv
    go_enter Try.func87, Try.ntmps87
    go_wp2_with (first|go_big_skip|((with_reducible refine at_load ?_);fail)|((with_reducible refine at_store ?_);fail)|((first|((with_reducible refine at_box ?_);refine wm_box K rfl _ _ rfl rfl rfl ?_)|((with_reducible refine at_alloc ?_);refine wm_alloc (v := ?_) (cs := ?_) K rfl _ rfl ?_ ?_ ?_;rotate_left;(with_reducible first|fail);rotate_left;exact rfl));(try clear K);(try clear ww);((fail_if_success (have _h := b9));intro b9 ww K);(try simp [go_sem, Value.cells] at K))|(go_at_call 112;(with_reducible refine (FF.out _).mono ?_);rintro e w2 ⟨rfl, k1⟩;replace K := K.step k1;clear k1;(try clear ww);revert w2;intro ww K))
    go_ret
    exact ⟨rfl, K.below⟩
end Go.Proofs.Ytpejoaefnnbghaa
