/-
  Lemmas and walks of this claim (the texts Ma15 Mb15 Md15 Me15 Mf15 Mg15 of the work; what no proof here uses is left out). No claim of their own.
-/
import Derived.Test.YtpejoaefnnbghaaPD16
import Derived.Test.YtpejoaefnnbghaaPD23
import Derived.Test.YtpejoaefnnbghaaPD6
import Derived.Test.YtpejoaefnnbghaaPD19
import Derived.Lib.MinMax
set_option linter.all false
set_option linter.unusedSimpArgs false
set_option linter.unusedVariables false
namespace Go.Proofs.Ytpejoaefnnbghaa
open Go.RowKit
attribute [local irreducible] wpHeld wpTree wpList
attribute [local go_sem] Oper.semAt_some
set_option linter.unusedVariables false
def encP (w : Nat) (x : Nat × Int) : Array Value := #[.agg #[.int .i64 (xv w x), .int .i64 (yv w x)], .int .i64 x.2]
def PlR (b : Nat) (W H X Y S : Int) (A : Option Addr) (n c : Nat) (zs : List Int) (V : World) : Prop := Has V b #[.int .i64 W, .int .i64 H, .int .i64 X, .int .i64 Y, .int .i64 S, .slice A n c] 26 ∧ Rd V A n (ints .i64 zs)
set_option maxRecDepth 100000 in
theorem places15 {B : Nat} {w0 w : World} {F : World → Prop} {L : List Blk} (K : St B w0 L F w) (W H X Y S : Int) (A : Option Addr) (n c : Nat) :
    Calls Try.prog 56 #[.agg #[.int .i64 W, .int .i64 H, .int .i64 X, .int .i64 Y, .int .i64 S, .slice A n c]] w fun e w' => ∃ b, e = .returned (.func (.func 100) #[] #[.pointer (some ⟨b, 0, none⟩)]) ∧ St B w0 ((b, #[.int .i64 W, .int .i64 H, .int .i64 X, .int .i64 Y, .int .i64 S, .slice A n c], 26) :: L) F w' := by
  revert w
  intro ww K
  go_enter Try.func56, Try.ntmps56
  go_wp2_with (first|go_big_skip|((with_reducible refine at_load ?_);first|(refine wm_own (cs := ?_) (t := ?_) (v := ?_) K rfl _ _ rfl rfl ?_ ?_ ?_ ?_;rotate_left 2;(repeat (first|exact At.hd|refine At.tl ?_));rotate_left;(first|exact rfl|assumption);(with_reducible first|exact one2|exact one3|exact one24))|(refine wm_cell (v := ?_) rfl _ _ rfl rfl ?_ ?_ ?_;rotate_left;(first|assumption|exact (K.below.cell (by assumption)).trans (by assumption));(with_reducible first|exact one2|exact one3|exact one24)))|((with_reducible refine at_store ?_);first|(refine wm_put (L' := ?_) (cs := ?_) (new := ?_) (t := ?_) K rfl _ _ _ rfl rfl rfl rfl ?_ ?_ ?_ ?_ rfl rfl ?_;rotate_left 4;(repeat (first|exact Put.hd|(refine Put.tl (L' := ?_) ?_;rotate_left)));(solve|exact Nat.le_of_ble_eq_true rfl|decide|(simp only [List.size_toArray, nums_length];first|assumption|omega)|(simp only [List.size_toArray, nums_length, List.length_set];first|assumption|omega)|simp|omega|(simp only [List.size_toArray, nums_length];omega)|assumption);(solve|(simp only [List.setIfInBounds_toArray];exact rfl)|exact nums_set _ _ _ _|simp only [List.setIfInBounds_toArray, List.set_cons_zero]|simp only [List.setIfInBounds_toArray, List.set_cons_zero, List.set_cons_succ]|(simp only [List.setIfInBounds_toArray, List.set_cons_zero, List.set_cons_succ];exact rfl)|exact rfl);(with_reducible first|exact one2|exact one3|exact one24);(try clear K);(try clear ww);intro ww K;(try simp [go_sem] at K)))|((first|((with_reducible refine at_box ?_);refine wm_box K rfl _ _ rfl rfl rfl ?_)|((with_reducible refine at_alloc ?_);refine wm_alloc (v := ?_) (cs := ?_) K rfl _ rfl ?_ ?_ ?_;rotate_left;(with_reducible first|fail);rotate_left;exact rfl));(try clear K);(try clear ww);((fail_if_success (have _h := bb));intro bb ww K);(try simp [go_sem, Value.cells] at K)))
  go_ret
  exact ⟨bb, rfl, K⟩
set_option maxRecDepth 100000 in
set_option maxHeartbeats 2000000 in
theorem places_gives (b p : Nat) (H X Y S : Int) (A : Option Addr) (n c : Nat) (zs : List Int) (h1 : 1 ≤ p) (hp : p ≤ 64) (hl : zs.length = n) (hn : n ≤ 5000) :
    Gives 8 Try.prog 100 #[.pointer (some ⟨b, 0, none⟩)] (encP p) (pls zs) (PlR b p H X Y S A n c zs) := by
  intro lo J Jx V hJ hJx hJR hY h0
  have hv5 := (hJR 0 V h0).1.cell (i := 5) (v := .slice A n c) rfl
  refine callsIn_of_wp Try.func100 rfl trivial ?_
  simp only [Try.ntmps100, List.size_toArray, List.length_cons, List.length_nil, Nat.reduceAdd, Nat.reduceSub, Array.replicate_succ, Array.replicate_zero, List.push_toArray, List.append_toArray, List.nil_append, List.cons_append]
  gi_wp2
  
  gi_loopw [8] (fun i wr => ∃ k : Nat, k ≤ n ∧ i = .int .i64 k ∧ J (cnt zs k) wr) (fun i _ => n - (intOf i).toNat)
  case atStart => exact ⟨0, Nat.zero_le _, rfl, by rw [cnt_zero]; exact h0⟩
  case round =>
    obtain ⟨k, hk, rfl, hJk⟩ := hrel
    by_cases hlt : k < n
    · have ht : decide ((k : Int) < n) = true := decide_eq_true (by omega)
      obtain ⟨bA, off, rfl, hb, hc⟩ := (hJR _ wr hJk).2.get hlt
      have hv := hc k _ (ints_get .i64 zs k (by omega))
      have hst := cnt_step (A := zs) (i := k) (by omega)
      have hgt := fun h => pls_get (A := zs) (i := k) (by omega) h
      obtain ⟨z, hz⟩ : ∃ z, zs.getD k 0 = z := ⟨_, rfl⟩
      rw [hz] at hv hst hgt
      have hR := hJR (cnt zs k)
      have GW : ∀ V, J (cnt zs k) V → V.cell? ⟨b, 0, none⟩ = some (.int .i64 p) := fun V hV => (hR V hV).1.cell rfl
      have hdr := hJ _ _ _ hJk (Below.refl _ wr).drew
      have hyk := hY (cnt zs k) (k, z) wr.drew
      have e1 : (k : Int).tmod p = xv p (k, z) := by unfold xv; rw [Int.tmod_eq_emod_of_nonneg (by omega)]; exact (Int.natCast_emod k p).symm
      have e2 : IntKind.i64.wrap ((k : Int) / p) = yv p (k, z) := by
        unfold yv
        show _ = ((k / p : Nat) : Int)
        rw [← Int.natCast_ediv]
        have := Nat.div_le_self k p
        generalize k / p = q at *
        exact IntWalk.i64_in _ (by omega)
      have hp0 : ¬((p : Int) = 0) := by omega
      have hp1 : ¬(p = 0) := by omega
      gi_wp2
      by_cases h0 : 0 < z
      · have t0 : decide (0 < z) = true := decide_eq_true h0
        rw [if_pos h0] at hst
        refine wm_head_wide 14 (J (cnt zs k)) [(true, 0), (true, 1), (true, 2), (true, 3), (true, 4), (true, 5), (true, 6), (true, 7), (true, 8), (true, 9), (true, 10), (true, 11), (true, 12), (true, 13)] (by kernel_rfl) (by kernel_rfl) ?hS ?_; rotate_left; simp only [pick, List.getElem?_toArray, List.getElem?_cons_succ, List.getElem?_cons_zero]
        case hS => exact hdr
        repeat (first|((with_reducible refine ht_load ?_);refine hm_cell (v := .int .i64 p) rfl _ _ rfl rfl GW ?_ ?_;focus (with_reducible first|exact one2|exact one3|exact one24))|(refine held_take (fun K' hK' => ?_);go_simp;first|(refine hK' _ ?_;clear hK' K')|(apply Exists.intro;refine ⟨?_, hK' _ ?_⟩;(intro _ _;rfl);clear hK' K')))
        refine heldw_end ?_
        obtain ⟨fn, tmps, assign, body, hy, hRd⟩ := hyk (hgt h0) hdr
        dsimp only [encP] at hy
        gi_wp2
        refine hRd.mono ?_
        rintro e W3 (⟨rfl, hJ3⟩ | ⟨rfl, hJx3⟩)
        · gi_wp2
          refine nopo_out ?_
          gi_wp2
          go_roundw
          case rel => exact ⟨k + 1, by omega, by simp, by rw [hst]; exact hJ3⟩
          case measure => simp [intOf]; omega
        · gi_wp2
          refine nopo_out ?_
          gi_wp2
          refine bodyPost_ret (results_none rfl _ _ _) rfl ?_
          exact ⟨⟨_, rfl⟩, .inr hJx3⟩
      · have t0 : decide (0 < z) = false := decide_eq_false h0
        rw [if_neg h0] at hst
        refine wm_head_wide 14 (J (cnt zs k)) [(true, 0), (true, 1), (true, 2), (true, 3), (true, 4), (true, 5), (true, 6), (true, 7), (true, 8), (true, 9), (true, 10), (true, 11), (true, 12), (true, 13)] (by kernel_rfl) (by kernel_rfl) ?hS ?_; rotate_left; simp only [pick, List.getElem?_toArray, List.getElem?_cons_succ, List.getElem?_cons_zero]
        case hS => exact hdr
        repeat (first | (refine held_take (fun K' hK' => ?_); go_simp; first | (refine hK' _ ?_; clear hK' K') | (apply Exists.intro; refine ⟨?_, hK' _ ?_⟩; (intro _ _; rfl); clear hK' K')))
        refine heldw_end ?_
        gi_wp2
        refine ⟨fun _ _ => trivial, ?_⟩
        gi_wp2
        refine nopo_out ?_
        gi_wp2
        go_roundw
        case rel => exact ⟨k + 1, by omega, by simp, by rw [hst]; exact hdr⟩
        case measure => simp [intOf]; omega
    · obtain rfl : n = k := by omega
      gi_wp2
      go_end0
      exact ⟨⟨_, rfl⟩, .inl (by rw [← cnt_end, hl]; exact hJk)⟩
end Go.Proofs.Ytpejoaefnnbghaa
namespace Go.Proofs.Ytpejoaefnnbghaa
open Go.RowKit
attribute [local irreducible] wpHeld wpTree wpList
attribute [local go_sem] Oper.semAt_some
set_option linter.unusedVariables false
def meanV (X Y S : Int) (p : Nat) (zs : List Int) : Value :=
  if isum zs = 0 then .tuple #[.agg #[.int .i64 0, .int .i64 0], .bool false] else .tuple #[.agg #[.int .i64 (X + mean15 (sm zs p 1 0) S (isum zs)), .int .i64 (Y + mean15 (sm zs p 0 1) S (isum zs))], .bool true]
def sumP (zs : List Int) (k : Nat) : Int := lsum (fun x => x.2) ((pls zs).take k)
def moP (p a b : Nat) (zs : List Int) (k : Nat) : Int := lsum (mo p a b) ((pls zs).take k)
section
variable {p q a b k : Nat} {zs : List Int} {x : Nat × Int}
theorem moP_snoc (hx : (pls zs)[k]? = some x) : moP p a b zs (k + 1) = moP p a b zs k + mo p a b x := by unfold moP; rw [lsum_snoc hx]
theorem sumP_snoc (hx : (pls zs)[k]? = some x) : sumP zs (k + 1) = sumP zs k + x.2 := by unfold sumP; rw [lsum_snoc hx]
theorem Gr.moP_bd (G : Gr p q zs) (hab : a + b ≤ 2) : 0 ≤ moP p a b zs k ∧ moP p a b zs k ≤ 4261681299456 := G.pls_take hab k
theorem Gr.sumP_bd (G : Gr p q zs) : 0 ≤ sumP zs k ∧ sumP zs k ≤ 1073741824 := G.pls_taks k
theorem Gr.moP_end (G : Gr p q zs) : moP p a b zs (pls zs).length = sm zs p a b := by unfold moP; rw [List.take_length]; exact G.pls_all
theorem Gr.sumP_end (G : Gr p q zs) : sumP zs (pls zs).length = isum zs := by unfold sumP; rw [List.take_length]; exact G.pls_isum
theorem Gr.pl_bd (G : Gr p q zs) (hx : (pls zs)[k]? = some x) : (0 ≤ x.2 ∧ x.2 ≤ 1073741824) ∧ (0 ≤ xv p x ∧ xv p x ≤ 63) ∧ (0 ≤ yv p x ∧ yv p x ≤ 63) := by
  have hm := (pls_mem (List.mem_of_getElem? hx)).1
  have := G.nums _ (getD_mem (num15_mem.1 hm).1)
  rw [← (num15_mem.1 hm).2] at this
  exact ⟨this, ⟨(G.x1 x).1, (G.x1 x).2.2⟩, (G.y1 hm).1, (G.y1 hm).2.2⟩
end
theorem wrapI {a b : Int} (h : a = b) (h0 : -9223372036854775808 ≤ b) (h1 : b ≤ 9223372036854775807) : wrap64 a = b ∧ IntKind.i64.wrap a = b := by
  subst h
  exact ⟨by unfold wrap64; omega, IntWalk.i64_in _ ⟨h0, by omega⟩⟩
set_option maxRecDepth 100000 in
set_option maxHeartbeats 4000000 in
theorem Mean15 (p q : Nat) (H X Y S : Int) (A : Option Addr) (n c : Nat) (zs : List Int) (w : World) (hG : Gr p q zs) (hl : zs.length = n) (h : Rd w A n (ints .i64 zs)) (hX : -4503599627370496 ≤ X ∧ X ≤ 4503599627370496) (hY : -4503599627370496 ≤ Y ∧ Y ≤ 4503599627370496) (hS : 0 ≤ S ∧ S ≤ 4096) :
    Calls Try.prog 14 #[.agg #[.int .i64 p, .int .i64 H, .int .i64 X, .int .i64 Y, .int .i64 S, .slice A n c]] w fun e w' => e = .returned (meanV X Y S p zs) ∧ Below w.heap.size w w' := by
  obtain ⟨rv, hrv⟩ : ∃ rv, meanV X Y S p zs = rv := ⟨_, rfl⟩
  rw [hrv]
  have K := St.start w
  have HG := Lib.hid hG
  have HR := Lib.hid h
  have PG := places_gives (A := A) (n := n) (c := c) (H := H) (X := X) (Y := Y) (S := S) (zs := zs) (p := p)
  have PG := fun b => PG b hG.w0 hG.w1 hl (by have := hG.n2; omega)
  have PG := Lib.hid PG
  clear hl h hG
  refine calls_of_wp_marks Try.func14 rfl ?_; simp only [Try.ntmps14, List.size_toArray, List.length_cons, List.length_nil, Nat.reduceAdd, Nat.reduceSub, Array.replicate_succ, Array.replicate_zero, List.push_toArray, List.append_toArray, List.nil_append, List.cons_append]
  
  go_wp2_with (first|go_big_skip|((with_reducible refine at_load ?_);first|(refine wm_load (cs := ?_) (t := ?_) (n := ?_) K rfl _ _ rfl rfl ?_ ?_ ?_ ?_;rotate_left 2;(repeat (first|exact At.hd|refine At.tl ?_));rotate_left;(with_reducible first|exact row26|exact row29|exact row98);(solve|exact rfl|simp))|(refine wm_own (cs := ?_) (t := ?_) (v := ?_) K rfl _ _ rfl rfl ?_ ?_ ?_ ?_;rotate_left 2;(repeat (first|exact At.hd|refine At.tl ?_));rotate_left;(first|exact rfl|assumption);(with_reducible first|exact one2))|(refine wm_cell (v := ?_) rfl _ _ rfl rfl ?_ ?_ ?_;rotate_left;(first|assumption|exact (K.below.cell (by assumption)).trans (by assumption));(with_reducible first|exact one2)))|((with_reducible refine at_store ?_);(first|(refine wm_store (L' := ?_) (cs := ?_) (t := ?_) (n := ?_) K rfl _ _ _ rfl rfl rfl rfl ?_ ?_ ?_ ?_ ?_ ?_;rotate_left 3;(repeat (first|exact Put.hd|(refine Put.tl (L' := ?_) ?_;rotate_left)));rotate_left;(with_reducible first|exact row26|exact row29|exact row98);(solve|exact rfl|simp);(solve|exact rfl|simp);(solve|exact rfl|simp [Ones, Value.oneCell']))|(refine wm_put (L' := ?_) (cs := ?_) (new := ?_) (t := ?_) K rfl _ _ _ rfl rfl rfl rfl ?_ ?_ ?_ ?_ rfl rfl ?_;rotate_left 4;(repeat (first|exact Put.hd|(refine Put.tl (L' := ?_) ?_;rotate_left)));(solve|exact Nat.le_of_ble_eq_true rfl|decide|(simp only [List.size_toArray, nums_length];first|assumption|omega)|(simp only [List.size_toArray, nums_length, List.length_set];first|assumption|omega)|simp|omega|(simp only [List.size_toArray, nums_length];omega)|assumption);(solve|(simp only [List.setIfInBounds_toArray];exact rfl)|exact nums_set _ _ _ _|simp only [List.setIfInBounds_toArray, List.set_cons_zero]|simp only [List.setIfInBounds_toArray, List.set_cons_zero, List.set_cons_succ]|(simp only [List.setIfInBounds_toArray, List.set_cons_zero, List.set_cons_succ];exact rfl)|exact rfl);(with_reducible first|exact one2)));(try clear K);(try clear ww);intro ww K;(try simp [go_sem] at K))|((first|((with_reducible refine at_box ?_);refine wm_box K rfl _ _ rfl rfl rfl ?_)|((with_reducible refine at_alloc ?_);refine wm_alloc (v := ?_) (cs := ?_) K rfl _ rfl ?_ ?_ ?_;rotate_left;(with_reducible first|exact zero2|exact zero29|exact zero98);rotate_left;exact rfl));(try clear K);(try clear ww);(first|((fail_if_success (have _h := b1));intro b1 ww K)|((fail_if_success (have _h := b2));intro b2 ww K)|((fail_if_success (have _h := b4));intro b4 ww K)|((fail_if_success (have _h := b5));intro b5 ww K)|((fail_if_success (have _h := b6));intro b6 ww K));(try simp [go_sem, Value.cells] at K))|(go_at_call 56;have zz := places15 K p H X Y S A n c;(with_reducible refine zz.mono ?_);clear zz;rintro e w2 ⟨bb, rfl, K2⟩;(try dsimp only);replace K := K2;clear K2;(try clear ww);revert w2;intro ww K))
  have h0s : lsum (fun x => x.2) ((pls zs).take 0) = 0 := rfl
  refine wm_range (α := Nat × Int) 9 rfl (enters_of Try.func100 (by kernel_rfl) rfl) (PG.out bb) (fun _ => rfl) (fun k V => St w.heap.size w [(bb, #[.int .i64 p, .int .i64 H, .int .i64 X, .int .i64 Y, .int .i64 S, .slice A n c], 26), (b6, #[.int .i64 (sumP zs k)], 2), (b5, #[.int .i64 (moP p 0 1 zs k)], 2), (b4, #[.int .i64 (moP p 1 0 zs k)], 2), (b2, #[.int .i64 0, .int .i64 0], 29), (b1, #[.int .i64 p, .int .i64 H, .int .i64 X, .int .i64 Y, .int .i64 S, .slice A n c], 26)] Any V) (fun _ _ => False) (fun k => stable_st K.size firm_any) (fun _ => stable_false) (fun k V K => ⟨K.get .hd, HR.out.below K.below⟩) K ?round ?done ?stop
  case round =>
    intro lo0 k x V KK hlo hx K1 hK
    obtain ⟨z0, u0, v0⟩ := HG.out.pl_bd hx
    have ea := moP_snoc (p := p) (a := 1) (b := 0) hx
    have eb := moP_snoc (p := p) (a := 0) (b := 1) hx
    have ec := sumP_snoc hx
    rw [mo10] at ea
    rw [mo01] at eb
    have a0 := HG.out.moP_bd (a := 1) (b := 0) (k := k) (by omega)
    have a1 := HG.out.moP_bd (a := 1) (b := 0) (k := k + 1) (by omega)
    have b0 := HG.out.moP_bd (a := 0) (b := 1) (k := k) (by omega)
    have b1' := HG.out.moP_bd (a := 0) (b := 1) (k := k + 1) (by omega)
    have c0 := HG.out.sumP_bd (k := k)
    have c1 := HG.out.sumP_bd (k := k + 1)
    have hD := K.size
    generalize ww.heap.size = D at *
    clear K hx
    replace K := K1.keepsFrom D
    clear K1
    simp only [encP, List.zip_toArray, List.zip_cons_cons, List.zip_nil_right, List.size_toArray]
    generalize xv p x = u at *
    generalize yv p x = v at *
    generalize x.2 = z at *
    clear x
    obtain ⟨m1, hm1⟩ : ∃ m1, z * u = m1 := ⟨_, rfl⟩
    obtain ⟨m2, hm2⟩ : ∃ m2, z * v = m2 := ⟨_, rfl⟩
    rw [hm1] at ea
    rw [hm2] at eb
    have f1 := wrapI hm1 (by omega) (by omega)
    have f2 := wrapI hm2 (by omega) (by omega)
    have f3 := wrapI ea.symm (by omega) (by omega)
    have f4 := wrapI eb.symm (by omega) (by omega)
    have f5 := wrapI ec.symm (by omega) (by omega)
    clear ea eb ec a0 a1 b0 b1' c0 c1 hm1 hm2 z0 u0 v0
    obtain ⟨f1, g1⟩ := f1
    obtain ⟨f2, g2⟩ := f2
    obtain ⟨f3, g3⟩ := f3
    obtain ⟨f4, g4⟩ := f4
    obtain ⟨f5, g5⟩ := f5
    gi_wp2_with ((refine rin_step (fun c e => by cases e) ?_;go_wp2_with (first|go_big_skip|((with_reducible refine at_load ?_);first|(refine wm_load (cs := ?_) (t := ?_) (n := ?_) K rfl _ _ rfl rfl ?_ ?_ ?_ ?_;rotate_left 2;(repeat (first|exact At.hd|refine At.tl ?_));rotate_left;(with_reducible first|exact row26|exact row29|exact row98);(solve|exact rfl|simp))|(refine wm_own (cs := ?_) (t := ?_) (v := ?_) K rfl _ _ rfl rfl ?_ ?_ ?_ ?_;rotate_left 2;(repeat (first|exact At.hd|refine At.tl ?_));rotate_left;(first|exact rfl|assumption);(with_reducible first|exact one2))|(refine wm_cell (v := ?_) rfl _ _ rfl rfl ?_ ?_ ?_;rotate_left;(first|assumption|exact (K.below.cell (by assumption)).trans (by assumption));(with_reducible first|exact one2)))|((with_reducible refine at_store ?_);(first|(refine wm_store (L' := ?_) (cs := ?_) (t := ?_) (n := ?_) K rfl _ _ _ rfl rfl rfl rfl ?_ ?_ ?_ ?_ ?_ ?_;rotate_left 3;(repeat (first|exact Put.hd|(refine Put.tl (L' := ?_) ?_;rotate_left)));rotate_left;(with_reducible first|exact row26|exact row29|exact row98);(solve|exact rfl|simp);(solve|exact rfl|simp);(solve|exact rfl|simp [Ones, Value.oneCell']))|(refine wm_put (L' := ?_) (cs := ?_) (new := ?_) (t := ?_) K rfl _ _ _ rfl rfl rfl rfl ?_ ?_ ?_ ?_ rfl rfl ?_;rotate_left 4;(repeat (first|exact Put.hd|(refine Put.tl (L' := ?_) ?_;rotate_left)));(solve|exact Nat.le_of_ble_eq_true rfl|decide|(simp only [List.size_toArray, nums_length];first|assumption|omega)|(simp only [List.size_toArray, nums_length, List.length_set];first|assumption|omega)|simp|omega|(simp only [List.size_toArray, nums_length];omega)|assumption);(solve|(simp only [List.setIfInBounds_toArray];exact rfl)|exact nums_set _ _ _ _|simp only [List.setIfInBounds_toArray, List.set_cons_zero]|simp only [List.setIfInBounds_toArray, List.set_cons_zero, List.set_cons_succ]|(simp only [List.setIfInBounds_toArray, List.set_cons_zero, List.set_cons_succ];exact rfl)|exact rfl);(with_reducible first|exact one2)));(try clear K);(try clear ww);intro ww K;(try simp [go_sem] at K))|((first|((with_reducible refine at_box ?_);refine wm_box K rfl _ _ rfl rfl rfl ?_)|((with_reducible refine at_alloc ?_);refine wm_alloc (v := ?_) (cs := ?_) K rfl _ rfl ?_ ?_ ?_;rotate_left;(with_reducible first|exact zero2|exact zero29|exact zero98);rotate_left;exact rfl));(try clear K);(try clear ww);((fail_if_success (have _h := b7));intro b7 ww K);(try simp [go_sem, Value.cells] at K))));refine qn_out ?_)
    refine hK _ _ K.fact.1 (fun W2 r o o' hr ho hc e => ?_); replace K := K.begun hD firm_any hr ho hc e; clear hr ho hc e hK
    gi_wp2_with fail
    refine wm_treeIn _ (.take 1 (.take 2 (.take 3 (.take 4 (.take 7 (.take 8 (.take 9 (.take 10 (.take 13 (.alt 0 (.take 5 (.alt 6 (.take 11 (.alt 12 (.take 14 (.alt 15 (.alt 16 (.alt 17 .done .stop) .stop) .stop)) (.alt 15 (.alt 12 (.take 14 (.alt 16 (.alt 17 .done .stop) .stop)) (.alt 16 (.alt 12 (.take 14 (.alt 17 .done .stop)) .stop) .stop)) .stop))) (.alt 12 (.take 14 (.alt 6 (.take 11 (.alt 15 (.alt 16 (.alt 17 .done .stop) .stop) .stop)) (.alt 15 (.alt 6 (.take 11 (.alt 16 (.alt 17 .done .stop) .stop)) .stop) .stop))) (.alt 15 (.alt 6 (.take 11 (.alt 12 (.take 14 (.alt 16 (.alt 17 .done .stop) .stop)) (.alt 16 (.alt 12 (.take 14 (.alt 17 .done .stop)) .stop) .stop))) (.alt 12 (.take 14 (.alt 6 (.take 11 (.alt 16 (.alt 17 .done .stop) .stop)) .stop)) .stop)) .stop)))) (.alt 6 (.take 11 (.alt 0 (.take 5 (.alt 12 (.take 14 (.alt 15 (.alt 16 (.alt 17 .done .stop) .stop) .stop)) (.alt 15 (.alt 12 (.take 14 (.alt 16 (.alt 17 .done .stop) .stop)) (.alt 16 (.alt 12 (.take 14 (.alt 17 .done .stop)) .stop) .stop)) .stop))) (.alt 12 (.take 14 (.alt 0 (.take 5 (.alt 15 (.alt 16 (.alt 17 .done .stop) .stop) .stop)) .stop)) .stop))) (.alt 12 (.take 14 (.alt 0 (.take 5 (.alt 6 (.take 11 (.alt 15 (.alt 16 (.alt 17 .done .stop) .stop) .stop)) (.alt 15 (.alt 6 (.take 11 (.alt 16 (.alt 17 .done .stop) .stop)) .stop) .stop))) (.alt 6 (.take 11 (.alt 0 (.take 5 (.alt 15 (.alt 16 (.alt 17 .done .stop) .stop) .stop)) .stop)) .stop))) .stop)))))))))))) K sb2s (by kernel_rfl) (by kernel_rfl) (by kernel_rfl) (fun _ _ h => h) ?_; (try clear K); (try clear ww); intro ww K; (try simp [go_sem] at K)
    repeat' (first|exact tree_stop|(refine tm_own (cs := ?_) (t0 := ?_) (v := ?_) rfl rfl _ _ rfl rfl ?_ ?_ ?_ ?_;rotate_left 2;(repeat (first|exact At.hd|refine At.tl ?_));rotate_left;(first|exact rfl|assumption);(with_reducible first|exact one2))|(refine tree_take (fun K' hK' => ?_);simp only [opAt, List.getElem?_toArray, List.getElem?_cons_succ, List.getElem?_cons_zero, Option.getD_some];go_simp;first|(refine hK' _ ?_;clear hK' K')|(apply Exists.intro;refine ⟨?_, hK' _ ?_⟩;(intro _ _;rfl);clear hK' K'))|(refine tm_nowAt (cs := ?_) (t0 := ?_) (v := ?_) K rfl rfl _ _ rfl rfl ?_ ?_ ?_ (by apply via sb2s;first|exact K|exact K.tail|exact K.tail.tail|exact K.tail.tail.tail|exact K.weak wk1|exact K.tail.weak wk1|exact K.tail.tail.weak wk1|exact K.tail.tail.tail.weak wk1|exact K.weak wk2|exact K.tail.weak wk2|exact K.tail.tail.weak wk2|exact K.tail.tail.tail.weak wk2|exact K.weak wk3|exact K.tail.weak wk3|exact K.tail.tail.weak wk3|exact K.tail.tail.tail.weak wk3|exact K.weak wk4|exact K.tail.weak wk4|exact K.tail.tail.weak wk4|exact K.tail.tail.tail.weak wk4|exact K.weak wk5|exact K.tail.weak wk5|exact K.tail.tail.weak wk5|exact K.tail.tail.tail.weak wk5) ?_ ?_;rotate_left 2;(repeat (first|exact At.hd|refine At.tl ?_));rotate_left;(first|exact rfl|assumption);(with_reducible first|exact one2))|(refine tm_put (L' := ?_) (cs := ?_) (new := ?_) (t0 := ?_) K rfl rfl _ _ _ rfl rfl rfl rfl ?_ ?_ ?_ ?_ rfl rfl ?_ ?_;rotate_left 4;(repeat (first|exact Put.hd|(refine Put.tl (L' := ?_) ?_;rotate_left)));(solve|exact Nat.le_of_ble_eq_true rfl|decide|(simp only [List.size_toArray, nums_length];first|assumption|omega)|(simp only [List.size_toArray, nums_length, List.length_set];first|assumption|omega)|simp|omega|(simp only [List.size_toArray, nums_length];omega)|assumption);(solve|(simp only [List.setIfInBounds_toArray];exact rfl)|exact nums_set _ _ _ _|simp only [List.setIfInBounds_toArray, List.set_cons_zero]|simp only [List.setIfInBounds_toArray, List.set_cons_zero, List.set_cons_succ]|(simp only [List.setIfInBounds_toArray, List.set_cons_zero, List.set_cons_succ];exact rfl)|exact rfl);(with_reducible first|exact one2);intro ww2 K2;(try simp [go_sem] at K2);refine ⟨(by apply via sb2s;first|exact K2|exact K2.tail|exact K2.tail.tail|exact K2.tail.tail.tail|exact K2.weak wk1|exact K2.tail.weak wk1|exact K2.tail.tail.weak wk1|exact K2.tail.tail.tail.weak wk1|exact K2.weak wk2|exact K2.tail.weak wk2|exact K2.tail.tail.weak wk2|exact K2.tail.tail.tail.weak wk2|exact K2.weak wk3|exact K2.tail.weak wk3|exact K2.tail.tail.weak wk3|exact K2.tail.tail.tail.weak wk3|exact K2.weak wk4|exact K2.tail.weak wk4|exact K2.tail.tail.weak wk4|exact K2.tail.tail.tail.weak wk4|exact K2.weak wk5|exact K2.tail.weak wk5|exact K2.tail.tail.weak wk5|exact K2.tail.tail.tail.weak wk5), ?_⟩;replace K := K2;clear K2;(try clear ww);revert ww2;intro ww K))
    all_goals refine tree_done ?_
    all_goals (try simp only [opAt, List.getElem?_toArray, List.getElem?_cons_succ, List.getElem?_cons_zero, Option.getD_some])
    all_goals (try go_simp)
    all_goals (try gi_wp2_with fail)
    all_goals exact ⟨K.fact.1, K.tail.weak fun _ h => h.2⟩
  case done =>
    intro D V hD K1 hk
    rw [HG.out.moP_end, HG.out.moP_end, HG.out.sumP_end] at K1
    have hB := Nat.le_trans K.size hD
    clear K hD
    have K := K1.mark hk
    clear K1 hk
    have hs0 := HG.out.s0
    have hs1 := HG.out.top
    have hx := HG.out.mean_x
    have hy := HG.out.mean_y
    have hp := HG.out.w1
    have hp0 := HG.out.w0
    have hq := HG.out.h1
    have hq0 := HG.out.h0
    unfold meanV at hrv
    revert V
    intro ww K
    by_cases hz : isum zs = 0
    · have t0 : decide (isum zs = 0) = true := decide_eq_true hz
      rw [if_pos hz] at hrv
      subst hrv
      clear hx hy hp hp0 hq hq0 hs0 hs1
      rw [hz] at K
      clear t0 hz
      go_wp2_with (first|go_big_skip|((with_reducible refine at_load ?_);first|(refine wm_load (cs := ?_) (t := ?_) (n := ?_) K rfl _ _ rfl rfl ?_ ?_ ?_ ?_;rotate_left 2;(repeat (first|exact At.hd|refine At.tl ?_));rotate_left;(with_reducible first|exact row26|exact row29|exact row98);(solve|exact rfl|simp))|(refine wm_own (cs := ?_) (t := ?_) (v := ?_) K rfl _ _ rfl rfl ?_ ?_ ?_ ?_;rotate_left 2;(repeat (first|exact At.hd|refine At.tl ?_));rotate_left;(first|exact rfl|assumption);(with_reducible first|exact one2))|(refine wm_cell (v := ?_) rfl _ _ rfl rfl ?_ ?_ ?_;rotate_left;(first|assumption|exact (K.below.cell (by assumption)).trans (by assumption));(with_reducible first|exact one2)))|((with_reducible refine at_store ?_);(first|(refine wm_store (L' := ?_) (cs := ?_) (t := ?_) (n := ?_) K rfl _ _ _ rfl rfl rfl rfl ?_ ?_ ?_ ?_ ?_ ?_;rotate_left 3;(repeat (first|exact Put.hd|(refine Put.tl (L' := ?_) ?_;rotate_left)));rotate_left;(with_reducible first|exact row26|exact row29|exact row98);(solve|exact rfl|simp);(solve|exact rfl|simp);(solve|exact rfl|simp [Ones, Value.oneCell']))|(refine wm_put (L' := ?_) (cs := ?_) (new := ?_) (t := ?_) K rfl _ _ _ rfl rfl rfl rfl ?_ ?_ ?_ ?_ rfl rfl ?_;rotate_left 4;(repeat (first|exact Put.hd|(refine Put.tl (L' := ?_) ?_;rotate_left)));(solve|exact Nat.le_of_ble_eq_true rfl|decide|(simp only [List.size_toArray, nums_length];first|assumption|omega)|(simp only [List.size_toArray, nums_length, List.length_set];first|assumption|omega)|simp|omega|(simp only [List.size_toArray, nums_length];omega)|assumption);(solve|(simp only [List.setIfInBounds_toArray];exact rfl)|exact nums_set _ _ _ _|simp only [List.setIfInBounds_toArray, List.set_cons_zero]|simp only [List.setIfInBounds_toArray, List.set_cons_zero, List.set_cons_succ]|(simp only [List.setIfInBounds_toArray, List.set_cons_zero, List.set_cons_succ];exact rfl)|exact rfl);(with_reducible first|exact one2)));(try clear K);(try clear ww);intro ww K;(try simp [go_sem] at K)))
      exact retM1 (K.weak fun _ h => h.2) firm_any rfl hB K.fact.1 (fun w' K' => ⟨_, K'.res2 rfl _ rfl (.tl (.tl (.tl (.tl .hd)))) (by (with_reducible first|exact row26|exact row29|exact row98)) (by (solve|exact rfl|simp)) rfl, rfl, K'.below⟩)
    · have t0 : decide (isum zs = 0) = false := decide_eq_false hz
      have hs : 0 < isum zs := by omega
      have ex := mean_div (m := p - 1) hs hx.1 hx.2 hS.1 hS.2 (by omega) (by omega)
      have ey := mean_div (m := q - 1) hs hy.1 hy.2 hS.1 hS.2 (by omega) (by omega)
      have ix := mean_in hs hx.1 hx.2 hS.1
      have iy := mean_in hs hy.1 hy.2 hS.1
      have bx := HG.out.sm_bd' (a := 1) (b := 0) (by omega)
      have by' := HG.out.sm_bd' (a := 0) (b := 1) (by omega)
      have mx := Int.mul_le_mul (show (p : Int) - 1 ≤ 63 by omega) hS.2 hS.1 (by omega)
      have my := Int.mul_le_mul (show (q : Int) - 1 ≤ 63 by omega) hS.2 hS.1 (by omega)
      generalize sm zs p 1 0 = sx at *
      generalize sm zs p 0 1 = sy at *
      generalize isum zs = s at *
      have MX : Hid (∀ w, Calls Try.prog 57 #[.int .i64 sx, .int .i64 S, .int .i64 s, .int .i64 2] w fun e w' => e = .returned (.tuple #[.int .i64 (mean15 sx S s), .int .i64 (divM (sx * S) s 2).2]) ∧ Below w.heap.size w w') := Lib.hid (fun w => by
        have := MulDiv_any sx S s 2 w (by omega) (by omega) (by omega) (by omega) (by omega) (by omega)
        rwa [ex] at this)
      have MY : Hid (∀ w, Calls Try.prog 57 #[.int .i64 sy, .int .i64 S, .int .i64 s, .int .i64 2] w fun e w' => e = .returned (.tuple #[.int .i64 (mean15 sy S s), .int .i64 (divM (sy * S) s 2).2]) ∧ Below w.heap.size w w') := Lib.hid (fun w => by
        have := MulDiv_any sy S s 2 w (by omega) (by omega) (by omega) (by omega) (by omega) (by omega)
        rwa [ey] at this)
      generalize (divM (sx * S) s 2).2 = cx at *
      generalize (divM (sy * S) s 2).2 = cy at *
      rw [if_neg hz] at hrv
      generalize mean15 sx S s = ax at *
      generalize mean15 sy S s = ay at *
      obtain ⟨X2, hX2⟩ : ∃ X2, X + ax = X2 := ⟨_, rfl⟩
      obtain ⟨Y2, hY2⟩ : ∃ Y2, Y + ay = Y2 := ⟨_, rfl⟩
      have wx := wrapI hX2 (by omega) (by omega)
      have wy := wrapI hY2 (by omega) (by omega)
      rw [hX2, hY2] at hrv
      subst hrv
      clear hX2 hY2 hX hY hS hs ex ey ix iy bx by' mx my hx hy hp hp0 hq hq0 hs0 hs1
      obtain ⟨wx, wx2⟩ := wx
      obtain ⟨wy, wy2⟩ := wy
      go_wp2_with (first|go_big_skip|((with_reducible refine at_load ?_);first|(refine wm_load (cs := ?_) (t := ?_) (n := ?_) K rfl _ _ rfl rfl ?_ ?_ ?_ ?_;rotate_left 2;(repeat (first|exact At.hd|refine At.tl ?_));rotate_left;(with_reducible first|exact row26|exact row29|exact row98);(solve|exact rfl|simp))|(refine wm_own (cs := ?_) (t := ?_) (v := ?_) K rfl _ _ rfl rfl ?_ ?_ ?_ ?_;rotate_left 2;(repeat (first|exact At.hd|refine At.tl ?_));rotate_left;(first|exact rfl|assumption);(with_reducible first|exact one2))|(refine wm_cell (v := ?_) rfl _ _ rfl rfl ?_ ?_ ?_;rotate_left;(first|assumption|exact (K.below.cell (by assumption)).trans (by assumption));(with_reducible first|exact one2)))|((with_reducible refine at_store ?_);(first|(refine wm_store (L' := ?_) (cs := ?_) (t := ?_) (n := ?_) K rfl _ _ _ rfl rfl rfl rfl ?_ ?_ ?_ ?_ ?_ ?_;rotate_left 3;(repeat (first|exact Put.hd|(refine Put.tl (L' := ?_) ?_;rotate_left)));rotate_left;(with_reducible first|exact row26|exact row29|exact row98);(solve|exact rfl|simp);(solve|exact rfl|simp);(solve|exact rfl|simp [Ones, Value.oneCell']))|(refine wm_put (L' := ?_) (cs := ?_) (new := ?_) (t := ?_) K rfl _ _ _ rfl rfl rfl rfl ?_ ?_ ?_ ?_ rfl rfl ?_;rotate_left 4;(repeat (first|exact Put.hd|(refine Put.tl (L' := ?_) ?_;rotate_left)));(solve|exact Nat.le_of_ble_eq_true rfl|decide|(simp only [List.size_toArray, nums_length];first|assumption|omega)|(simp only [List.size_toArray, nums_length, List.length_set];first|assumption|omega)|simp|omega|(simp only [List.size_toArray, nums_length];omega)|assumption);(solve|(simp only [List.setIfInBounds_toArray];exact rfl)|exact nums_set _ _ _ _|simp only [List.setIfInBounds_toArray, List.set_cons_zero]|simp only [List.setIfInBounds_toArray, List.set_cons_zero, List.set_cons_succ]|(simp only [List.setIfInBounds_toArray, List.set_cons_zero, List.set_cons_succ];exact rfl)|exact rfl);(with_reducible first|exact one2)));(try clear K);(try clear ww);intro ww K;(try simp [go_sem] at K))|(go_at_call 57;(with_reducible refine (MX.out _).mono ?_);rintro e w2 ⟨rfl, k1⟩;replace K := K.step k1;clear k1;(try clear ww);revert w2;intro ww K)|(go_at_call 57;(with_reducible refine (MY.out _).mono ?_);rintro e w2 ⟨rfl, k1⟩;replace K := K.step k1;clear k1;(try clear ww);revert w2;intro ww K))
      exact retM1 (K.weak fun _ h => h.2) firm_any rfl hB K.fact.1 (fun w' K' => ⟨_, K'.res2 rfl _ rfl (.tl (.tl (.tl (.tl .hd)))) (by (with_reducible first|exact row26|exact row29|exact row98)) (by (solve|exact rfl|simp)) rfl, rfl, K'.below⟩)
  case stop =>
    intro D c W _ h _
    exact h.elim
end Go.Proofs.Ytpejoaefnnbghaa
namespace Go.Proofs.Ytpejoaefnnbghaa
open Go.RowKit
attribute [local irreducible] wpHeld wpTree wpList
set_option linter.unusedVariables false
@[go_sem high] theorem run_max4 {P : Program} (w : World) (ts : Array TypeId) (t : TypeId) (x y z u : Int) :
    (Builtin.max_ ts t #[.int .i64 x, .int .i64 y, .int .i64 z, .int .i64 u]).run P w = .ok (.int .i64 (max x (max y (max z u)))) w := by
  have e : ∀ x y : Int, (if y > x then y else x) = max x y := fun x y => by
    rw [Int.max_def]
    split <;> split <;> omega
  simp [Builtin.max_, Builtin.max2, e]
def tt (i : Nat) : Bool := true
set_option maxRecDepth 100000 in
set_option maxHeartbeats 1000000 in
theorem Peak15 (W H X Y S : Int) (A : Option Addr) (n c : Nat) (zs : List Int) (w : World) (h : Rd w A n (ints .i64 zs)) (hn : n ≤ 5000) :
    Calls Try.prog 20 #[.agg #[.int .i64 W, .int .i64 H, .int .i64 X, .int .i64 Y, .int .i64 S, .slice A n c]] w fun e w' => e = .returned (.int .i64 (pk tt zs n)) ∧ Below w.heap.size w w' := by
  have K := St.start w
  have hl : zs.length = n := by rw [← h.1, ints_len]
  have HR := Lib.hid h
  have HL := Lib.hid hl
  clear h hl
  go_enter Try.func20, Try.ntmps20
  go_wp2_with (first|go_big_skip|((with_reducible refine at_load ?_);first|(refine wm_own (cs := ?_) (t := ?_) (v := ?_) K rfl _ _ rfl rfl ?_ ?_ ?_ ?_;rotate_left 2;(repeat (first|exact At.hd|refine At.tl ?_));rotate_left;(first|exact rfl|assumption);(with_reducible first|exact one2|exact one3|exact one24))|(refine wm_cell (v := ?_) rfl _ _ rfl rfl ?_ ?_ ?_;rotate_left;(first|assumption|exact (K.below.cell (by assumption)).trans (by assumption));(with_reducible first|exact one2|exact one3|exact one24)))|((with_reducible refine at_store ?_);first|(refine wm_put (L' := ?_) (cs := ?_) (new := ?_) (t := ?_) K rfl _ _ _ rfl rfl rfl rfl ?_ ?_ ?_ ?_ rfl rfl ?_;rotate_left 4;(repeat (first|exact Put.hd|(refine Put.tl (L' := ?_) ?_;rotate_left)));(solve|exact Nat.le_of_ble_eq_true rfl|decide|(simp only [List.size_toArray, nums_length];first|assumption|omega)|(simp only [List.size_toArray, nums_length, List.length_set];first|assumption|omega)|simp|omega|(simp only [List.size_toArray, nums_length];omega)|assumption);(solve|(simp only [List.setIfInBounds_toArray];exact rfl)|exact nums_set _ _ _ _|simp only [List.setIfInBounds_toArray, List.set_cons_zero]|simp only [List.setIfInBounds_toArray, List.set_cons_zero, List.set_cons_succ]|(simp only [List.setIfInBounds_toArray, List.set_cons_zero, List.set_cons_succ];exact rfl)|exact rfl);(with_reducible first|exact one2|exact one3|exact one24);(try clear K);(try clear ww);intro ww K;(try simp [go_sem] at K)))|((first|((with_reducible refine at_box ?_);refine wm_box K rfl _ _ rfl rfl rfl ?_)|((with_reducible refine at_alloc ?_);refine wm_alloc (v := ?_) (cs := ?_) K rfl _ rfl ?_ ?_ ?_;rotate_left;(with_reducible first|fail);rotate_left;exact rfl));(try clear K);(try clear ww);((fail_if_success (have _h := b1));intro b1 ww K);(try simp [go_sem, Value.cells] at K)))
  go_loopw [3, 4, 10] (fun s m i wr => ∃ (k : Nat), k ≤ n ∧ i = .int .i64 k ∧ s = .int .i64 (pk tt zs k) ∧ m = .int .i64 (most zs (pk tt zs k)) ∧ St w.heap.size w [(b1, #[.int .i64 W, .int .i64 H, .int .i64 X, .int .i64 Y, .int .i64 S, .slice A n c], 26)] Any wr) (fun _ _ i _ => n - (intOf i).toNat)
  case atStart => exact ⟨0, Nat.zero_le _, rfl, rfl, rfl, K⟩
  case round =>
    clear K
    obtain ⟨i, hi, rfl, rfl, rfl, K⟩ := hrel
    by_cases hlt : i < n
    · obtain ⟨b, off, rfl, hb, hc⟩ := HR.out.get hlt
      have hil : i < zs.length := by rw [HL.out]; exact hlt
      have hv := hc i _ (ints_get .i64 zs i hil)
      have ht : decide ((i : Int) < n) = true := decide_eq_true (by omega)
      have hy := fun h => pk_yes (ok := tt) (A := zs) (k := i) rfl h
      have hz := fun h => pk_no (ok := tt) (A := zs) (k := i) h
      obtain ⟨q, hq⟩ : ∃ q, pk tt zs i = q := ⟨_, rfl⟩
      obtain ⟨z, hzz⟩ : ∃ z, zs.getD i 0 = z := ⟨_, rfl⟩
      rw [hq] at hy hz ⊢
      rw [hzz] at hy hz hv
      obtain ⟨m, hm⟩ : ∃ m, most zs q = m := ⟨_, rfl⟩
      rw [hm] at hy hz ⊢
      by_cases hmz : m < z
      · have t1 : decide (m < z) = true := decide_eq_true hmz
        obtain ⟨y1, y2⟩ := hy hmz
        have HY := Lib.hid y1
        have HY2 := Lib.hid y2
        clear hc hil hy hz hq hzz hm y1 y2
        go_wp2_with (first|go_big_skip|((with_reducible refine at_load ?_);first|(refine wm_own (cs := ?_) (t := ?_) (v := ?_) K rfl _ _ rfl rfl ?_ ?_ ?_ ?_;rotate_left 2;(repeat (first|exact At.hd|refine At.tl ?_));rotate_left;(first|exact rfl|assumption);(with_reducible first|exact one2|exact one3|exact one24))|(refine wm_cell (v := ?_) rfl _ _ rfl rfl ?_ ?_ ?_;rotate_left;(first|assumption|exact (K.below.cell (by assumption)).trans (by assumption));(with_reducible first|exact one2|exact one3|exact one24)))|((with_reducible refine at_store ?_);first|(refine wm_put (L' := ?_) (cs := ?_) (new := ?_) (t := ?_) K rfl _ _ _ rfl rfl rfl rfl ?_ ?_ ?_ ?_ rfl rfl ?_;rotate_left 4;(repeat (first|exact Put.hd|(refine Put.tl (L' := ?_) ?_;rotate_left)));(solve|exact Nat.le_of_ble_eq_true rfl|decide|(simp only [List.size_toArray, nums_length];first|assumption|omega)|(simp only [List.size_toArray, nums_length, List.length_set];first|assumption|omega)|simp|omega|(simp only [List.size_toArray, nums_length];omega)|assumption);(solve|(simp only [List.setIfInBounds_toArray];exact rfl)|exact nums_set _ _ _ _|simp only [List.setIfInBounds_toArray, List.set_cons_zero]|simp only [List.setIfInBounds_toArray, List.set_cons_zero, List.set_cons_succ]|(simp only [List.setIfInBounds_toArray, List.set_cons_zero, List.set_cons_succ];exact rfl)|exact rfl);(with_reducible first|exact one2|exact one3|exact one24);(try clear K);(try clear ww);intro ww K;(try simp [go_sem] at K))))
        exact ⟨⟨i + 1, by omega, by go_num, by rw [HY.out], by rw [HY2.out], K⟩, by simp [intOf]; omega⟩
      · have t1 : decide (m < z) = false := decide_eq_false hmz
        have HY := Lib.hid (hz fun _ => hmz)
        have HY2 := Lib.hid hm
        clear hc hil hy hz hq hzz hm
        go_wp2_with (first|go_big_skip|((with_reducible refine at_load ?_);first|(refine wm_own (cs := ?_) (t := ?_) (v := ?_) K rfl _ _ rfl rfl ?_ ?_ ?_ ?_;rotate_left 2;(repeat (first|exact At.hd|refine At.tl ?_));rotate_left;(first|exact rfl|assumption);(with_reducible first|exact one2|exact one3|exact one24))|(refine wm_cell (v := ?_) rfl _ _ rfl rfl ?_ ?_ ?_;rotate_left;(first|assumption|exact (K.below.cell (by assumption)).trans (by assumption));(with_reducible first|exact one2|exact one3|exact one24)))|((with_reducible refine at_store ?_);first|(refine wm_put (L' := ?_) (cs := ?_) (new := ?_) (t := ?_) K rfl _ _ _ rfl rfl rfl rfl ?_ ?_ ?_ ?_ rfl rfl ?_;rotate_left 4;(repeat (first|exact Put.hd|(refine Put.tl (L' := ?_) ?_;rotate_left)));(solve|exact Nat.le_of_ble_eq_true rfl|decide|(simp only [List.size_toArray, nums_length];first|assumption|omega)|(simp only [List.size_toArray, nums_length, List.length_set];first|assumption|omega)|simp|omega|(simp only [List.size_toArray, nums_length];omega)|assumption);(solve|(simp only [List.setIfInBounds_toArray];exact rfl)|exact nums_set _ _ _ _|simp only [List.setIfInBounds_toArray, List.set_cons_zero]|simp only [List.setIfInBounds_toArray, List.set_cons_zero, List.set_cons_succ]|(simp only [List.setIfInBounds_toArray, List.set_cons_zero, List.set_cons_succ];exact rfl)|exact rfl);(with_reducible first|exact one2|exact one3|exact one24);(try clear K);(try clear ww);intro ww K;(try simp [go_sem] at K))))
        exact ⟨⟨i + 1, by omega, by go_num, by rw [HY.out], by rw [HY.out, HY2.out], K⟩, by simp [intOf]; omega⟩
    · obtain rfl : n = i := by omega
      have ht : decide ((n : Int) < n) = false := decide_eq_false (by omega)
      go_wp2_with (first|go_big_skip|((with_reducible refine at_load ?_);first|(refine wm_own (cs := ?_) (t := ?_) (v := ?_) K rfl _ _ rfl rfl ?_ ?_ ?_ ?_;rotate_left 2;(repeat (first|exact At.hd|refine At.tl ?_));rotate_left;(first|exact rfl|assumption);(with_reducible first|exact one2|exact one3|exact one24))|(refine wm_cell (v := ?_) rfl _ _ rfl rfl ?_ ?_ ?_;rotate_left;(first|assumption|exact (K.below.cell (by assumption)).trans (by assumption));(with_reducible first|exact one2|exact one3|exact one24)))|((with_reducible refine at_store ?_);first|(refine wm_put (L' := ?_) (cs := ?_) (new := ?_) (t := ?_) K rfl _ _ _ rfl rfl rfl rfl ?_ ?_ ?_ ?_ rfl rfl ?_;rotate_left 4;(repeat (first|exact Put.hd|(refine Put.tl (L' := ?_) ?_;rotate_left)));(solve|exact Nat.le_of_ble_eq_true rfl|decide|(simp only [List.size_toArray, nums_length];first|assumption|omega)|(simp only [List.size_toArray, nums_length, List.length_set];first|assumption|omega)|simp|omega|(simp only [List.size_toArray, nums_length];omega)|assumption);(solve|(simp only [List.setIfInBounds_toArray];exact rfl)|exact nums_set _ _ _ _|simp only [List.setIfInBounds_toArray, List.set_cons_zero]|simp only [List.setIfInBounds_toArray, List.set_cons_zero, List.set_cons_succ]|(simp only [List.setIfInBounds_toArray, List.set_cons_zero, List.set_cons_succ];exact rfl)|exact rfl);(with_reducible first|exact one2|exact one3|exact one24);(try clear K);(try clear ww);intro ww K;(try simp [go_sem] at K))))
      go_ret
      exact ⟨rfl, K.below⟩
set_option maxRecDepth 100000 in
set_option maxHeartbeats 1000000 in
theorem apart15 (p a b : Nat) (far H X Y S : Int) (A : Option Addr) (n c : Nat) (w : World) (hp : 1 ≤ p) (ha : a ≤ 5000) (hb : b ≤ 5000) :
    Calls Try.prog 60 #[.agg #[.int .i64 p, .int .i64 H, .int .i64 X, .int .i64 Y, .int .i64 S, .slice A n c], .int .i64 a, .int .i64 b, .int .i64 far] w fun e w' => e = .returned (.bool (!near15 p a b far)) ∧ Below w.heap.size w w' := by
  have K := St.start w
  have hp0 : ¬((p : Int) = 0) := by omega
  have hp1 : ¬(p = 0) := by omega
  obtain ⟨xa, hxa⟩ : ∃ xa : Int, ((a % p : Nat) : Int) = xa := ⟨_, rfl⟩
  obtain ⟨xb, hxb⟩ : ∃ xb : Int, ((b % p : Nat) : Int) = xb := ⟨_, rfl⟩
  obtain ⟨ya, hya⟩ : ∃ ya : Int, ((a / p : Nat) : Int) = ya := ⟨_, rfl⟩
  obtain ⟨yb, hyb⟩ : ∃ yb : Int, ((b / p : Nat) : Int) = yb := ⟨_, rfl⟩
  have l1 := Nat.mod_le a p
  have l2 := Nat.mod_le b p
  have l3 := Nat.div_le_self a p
  have l4 := Nat.div_le_self b p
  have n3 : 0 ≤ ya := by rw [← hya]; exact Int.natCast_nonneg _
  have n4 : 0 ≤ yb := by rw [← hyb]; exact Int.natCast_nonneg _
  have n5 : ya ≤ 5000 := by rw [← hya]; exact Int.ofNat_le.2 (Nat.le_trans l3 ha)
  have n6 : yb ≤ 5000 := by rw [← hyb]; exact Int.ofNat_le.2 (Nat.le_trans l4 hb)
  have e1 : (a : Int).tmod p = xa := by rw [← hxa, Int.tmod_eq_emod_of_nonneg (by omega)]; exact (Int.natCast_emod a p).symm
  have e2 : (b : Int).tmod p = xb := by rw [← hxb, Int.tmod_eq_emod_of_nonneg (by omega)]; exact (Int.natCast_emod b p).symm
  have e3 : IntKind.i64.wrap ((a : Int) / p) = ya := by rw [← hya, ← Int.natCast_ediv]; generalize a / p = q at *; exact IntWalk.i64_in _ (by omega)
  have e4 : IntKind.i64.wrap ((b : Int) / p) = yb := by rw [← hyb, ← Int.natCast_ediv]; generalize b / p = q at *; exact IntWalk.i64_in _ (by omega)
  have f1 := wrapI (a := xa - xb) (b := xa - xb) rfl (by omega) (by omega)
  have f2 := wrapI (a := ya - yb) (b := ya - yb) rfl (by omega) (by omega)
  have nm := near_max p a b far
  unfold ddx ddy at nm
  rw [hxa, hxb, hya, hyb] at nm
  generalize near15 p a b far = r at *
  obtain ⟨dx, hdx⟩ : ∃ dx, xa - xb = dx := ⟨_, rfl⟩
  obtain ⟨dy, hdy⟩ : ∃ dy, ya - yb = dy := ⟨_, rfl⟩
  rw [hdx] at f1 nm
  rw [hdy] at f2 nm
  have f3 := wrapI (a := -dx) (b := -dx) rfl (by omega) (by omega)
  have f4 := wrapI (a := -dy) (b := -dy) rfl (by omega) (by omega)
  obtain ⟨f1, g1⟩ := f1
  obtain ⟨f2, g2⟩ := f2
  obtain ⟨f3, g3⟩ := f3
  obtain ⟨f4, g4⟩ := f4
  rw [← hdx] at f1 g1
  rw [← hdy] at f2 g2
  rw [hdx] at f1 g1
  rw [hdy] at f2 g2
  have NM := Lib.hid nm
  clear nm
  clear l1 l2 l3 l4 n3 n4 n5 n6 hxa hxb hya hyb hp ha hb
  go_enter Try.func60, Try.ntmps60
  go_wp2_with (first|go_big_skip|((with_reducible refine at_load ?_);first|(refine wm_own (cs := ?_) (t := ?_) (v := ?_) K rfl _ _ rfl rfl ?_ ?_ ?_ ?_;rotate_left 2;(repeat (first|exact At.hd|refine At.tl ?_));rotate_left;(first|exact rfl|assumption);(with_reducible first|exact one2|exact one3|exact one24))|(refine wm_cell (v := ?_) rfl _ _ rfl rfl ?_ ?_ ?_;rotate_left;(first|assumption|exact (K.below.cell (by assumption)).trans (by assumption));(with_reducible first|exact one2|exact one3|exact one24)))|((with_reducible refine at_store ?_);first|(refine wm_put (L' := ?_) (cs := ?_) (new := ?_) (t := ?_) K rfl _ _ _ rfl rfl rfl rfl ?_ ?_ ?_ ?_ rfl rfl ?_;rotate_left 4;(repeat (first|exact Put.hd|(refine Put.tl (L' := ?_) ?_;rotate_left)));(solve|exact Nat.le_of_ble_eq_true rfl|decide|(simp only [List.size_toArray, nums_length];first|assumption|omega)|(simp only [List.size_toArray, nums_length, List.length_set];first|assumption|omega)|simp|omega|(simp only [List.size_toArray, nums_length];omega)|assumption);(solve|(simp only [List.setIfInBounds_toArray];exact rfl)|exact nums_set _ _ _ _|simp only [List.setIfInBounds_toArray, List.set_cons_zero]|simp only [List.setIfInBounds_toArray, List.set_cons_zero, List.set_cons_succ]|(simp only [List.setIfInBounds_toArray, List.set_cons_zero, List.set_cons_succ];exact rfl)|exact rfl);(with_reducible first|exact one2|exact one3|exact one24);(try clear K);(try clear ww);intro ww K;(try simp [go_sem] at K)))|((first|((with_reducible refine at_box ?_);refine wm_box K rfl _ _ rfl rfl rfl ?_)|((with_reducible refine at_alloc ?_);refine wm_alloc (v := ?_) (cs := ?_) K rfl _ rfl ?_ ?_ ?_;rotate_left;(with_reducible first|fail);rotate_left;exact rfl));(try clear K);(try clear ww);((fail_if_success (have _h := b4));intro b4 ww K);(try simp [go_sem, Value.cells] at K)))
  refine wm_held _ [(true, 0), (true, 1), (true, 2), (true, 3), (true, 4), (true, 5), (true, 6), (true, 7), (true, 8), (true, 9), (true, 10), (true, 11), (true, 12), (true, 13), (true, 14), (true, 15), (true, 16), (true, 17), (true, 18), (true, 19)] K sbr (by kernel_rfl) (by kernel_rfl) ?_; (try clear K); (try clear ww); intro ww K; (try simp [go_sem] at K); simp only [pick, List.getElem?_toArray, List.getElem?_cons_succ, List.getElem?_cons_zero]
  repeat (first|((with_reducible refine ht_load ?_);first|(refine hm_own (cs := ?_) (t := ?_) (v := ?_) rfl _ _ rfl rfl ?_ ?_ ?_ ?_;rotate_left 2;(repeat (first|exact At.hd|refine At.tl ?_));rotate_left;(first|exact rfl|assumption);(with_reducible first|exact one2|exact one3|exact one24))|(refine hm_cell (v := ?_) rfl _ _ rfl rfl (fun ww K => ?_) ?_ ?_;rotate_left;(first|assumption|exact (K.below.cell (by assumption)).trans (by assumption));(with_reducible first|exact one2|exact one3|exact one24)))|(refine held_take (fun K' hK' => ?_);go_simp;first|(refine hK' _ ?_;clear hK' K')|(apply Exists.intro;refine ⟨?_, hK' _ ?_⟩;(intro _ _;rfl);clear hK' K'))|((with_reducible refine ht_store ?_);first|(refine hm_put (L' := ?_) (cs := ?_) (new := ?_) (t := ?_) K rfl _ _ _ rfl rfl rfl rfl ?_ ?_ ?_ ?_ rfl rfl ?_;rotate_left 4;(repeat (first|exact Put.hd|(refine Put.tl (L' := ?_) ?_;rotate_left)));(solve|exact Nat.le_of_ble_eq_true rfl|decide|(simp only [List.size_toArray, nums_length];first|assumption|omega)|(simp only [List.size_toArray, nums_length, List.length_set];first|assumption|omega)|simp|omega|(simp only [List.size_toArray, nums_length];omega)|assumption);(solve|(simp only [List.setIfInBounds_toArray];exact rfl)|exact nums_set _ _ _ _|simp only [List.setIfInBounds_toArray, List.set_cons_zero]|simp only [List.setIfInBounds_toArray, List.set_cons_zero, List.set_cons_succ]|(simp only [List.setIfInBounds_toArray, List.set_cons_zero, List.set_cons_succ];exact rfl)|exact rfl);(with_reducible first|exact one2|exact one3|exact one24);(try clear K);(try clear ww);intro ww K;(try simp [go_sem] at K);refine ⟨(by apply via sbr;first|exact K|exact K.weak wk1|exact K.weak wk2|exact K.weak wk3|exact K.weak wk4|exact K.weak wk5), ?_⟩)))
  refine held_nil ?_
  go_wp2_with (first|go_big_skip|((with_reducible refine at_load ?_);first|(refine wm_own (cs := ?_) (t := ?_) (v := ?_) K rfl _ _ rfl rfl ?_ ?_ ?_ ?_;rotate_left 2;(repeat (first|exact At.hd|refine At.tl ?_));rotate_left;(first|exact rfl|assumption);(with_reducible first|exact one2|exact one3|exact one24))|(refine wm_cell (v := ?_) rfl _ _ rfl rfl ?_ ?_ ?_;rotate_left;(first|assumption|exact (K.below.cell (by assumption)).trans (by assumption));(with_reducible first|exact one2|exact one3|exact one24)))|((with_reducible refine at_store ?_);first|(refine wm_put (L' := ?_) (cs := ?_) (new := ?_) (t := ?_) K rfl _ _ _ rfl rfl rfl rfl ?_ ?_ ?_ ?_ rfl rfl ?_;rotate_left 4;(repeat (first|exact Put.hd|(refine Put.tl (L' := ?_) ?_;rotate_left)));(solve|exact Nat.le_of_ble_eq_true rfl|decide|(simp only [List.size_toArray, nums_length];first|assumption|omega)|(simp only [List.size_toArray, nums_length, List.length_set];first|assumption|omega)|simp|omega|(simp only [List.size_toArray, nums_length];omega)|assumption);(solve|(simp only [List.setIfInBounds_toArray];exact rfl)|exact nums_set _ _ _ _|simp only [List.setIfInBounds_toArray, List.set_cons_zero]|simp only [List.setIfInBounds_toArray, List.set_cons_zero, List.set_cons_succ]|(simp only [List.setIfInBounds_toArray, List.set_cons_zero, List.set_cons_succ];exact rfl)|exact rfl);(with_reducible first|exact one2|exact one3|exact one24);(try clear K);(try clear ww);intro ww K;(try simp [go_sem] at K)))|((first|((with_reducible refine at_box ?_);refine wm_box K rfl _ _ rfl rfl rfl ?_)|((with_reducible refine at_alloc ?_);refine wm_alloc (v := ?_) (cs := ?_) K rfl _ rfl ?_ ?_ ?_;rotate_left;(with_reducible first|fail);rotate_left;exact rfl));(try clear K);(try clear ww);((fail_if_success (have _h := b4));intro b4 ww K);(try simp [go_sem, Value.cells] at K)))
  go_ret
  exact ⟨by rw [← NM.out]; rfl, K.below⟩
end Go.Proofs.Ytpejoaefnnbghaa
namespace Go.Proofs.Ytpejoaefnnbghaa
open Go.RowKit
attribute [local irreducible] wpHeld wpTree wpList
set_option linter.unusedVariables false
theorem apart_at (p i : Nat) (T far H X Y S : Int) (A : Option Addr) (n c : Nat) (hp : 1 ≤ p) (hi : i ≤ 5000) (h0 : 0 ≤ T) (hT : T ≤ 5000) {r : Bool} (hr : near15 p i T.toNat far = r) :
    Hid (∀ w, Calls Try.prog 60 #[.agg #[.int .i64 p, .int .i64 H, .int .i64 X, .int .i64 Y, .int .i64 S, .slice A n c], .int .i64 i, .int .i64 T, .int .i64 far] w fun e w' => e = .returned (.bool (!r)) ∧ Below w.heap.size w w') := Lib.hid (fun w => by
  have := apart15 p i T.toNat far H X Y S A n c w hp hi (by omega)
  rwa [Int.toNat_of_nonneg h0, hr] at this)
set_option maxRecDepth 100000 in
set_option maxHeartbeats 1000000 in
theorem Second15 (p : Nat) (H X Y S far : Int) (A : Option Addr) (n c : Nat) (zs : List Int) (w : World) (h : Rd w A n (ints .i64 zs)) (hp : 1 ≤ p) (hn : n ≤ 5000) :
    Calls Try.prog 21 #[.agg #[.int .i64 p, .int .i64 H, .int .i64 X, .int .i64 Y, .int .i64 S, .slice A n c], .int .i64 far] w fun e w' => e = .returned (.int .i64 (pk (okS p (pk tt zs n) far) zs n)) ∧ Below w.heap.size w w' := by
  have K := St.start w
  have hl : zs.length = n := by rw [← h.1, ints_len]
  have HR := Lib.hid h
  have HL := Lib.hid hl
  have PK := Lib.hid (fun w h => Peak15 p H X Y S A n c zs w h hn)
  have hT := pk_low (ok := tt) (A := zs) n
  generalize pk tt zs n = T at *
  clear h hl
  go_enter Try.func21, Try.ntmps21
  go_wp2_with (first|go_big_skip|((with_reducible refine at_load ?_);first|(refine wm_load (cs := ?_) (t := ?_) (n := ?_) K rfl _ _ rfl rfl ?_ ?_ ?_ ?_;rotate_left 2;(repeat (first|exact At.hd|refine At.tl ?_));rotate_left;(with_reducible first|exact row26);(solve|exact rfl|simp))|(refine wm_own (cs := ?_) (t := ?_) (v := ?_) K rfl _ _ rfl rfl ?_ ?_ ?_ ?_;rotate_left 2;(repeat (first|exact At.hd|refine At.tl ?_));rotate_left;(first|exact rfl|assumption);(with_reducible first|exact one2|exact one24))|(refine wm_cell (v := ?_) rfl _ _ rfl rfl ?_ ?_ ?_;rotate_left;(first|assumption|exact (K.below.cell (by assumption)).trans (by assumption));(with_reducible first|exact one2|exact one24)))|((with_reducible refine at_store ?_);(first|(refine wm_store (L' := ?_) (cs := ?_) (t := ?_) (n := ?_) K rfl _ _ _ rfl rfl rfl rfl ?_ ?_ ?_ ?_ ?_ ?_;rotate_left 3;(repeat (first|exact Put.hd|(refine Put.tl (L' := ?_) ?_;rotate_left)));rotate_left;(with_reducible first|exact row26);(solve|exact rfl|simp);(solve|exact rfl|simp);(solve|exact rfl|simp [Ones, Value.oneCell']))|(refine wm_put (L' := ?_) (cs := ?_) (new := ?_) (t := ?_) K rfl _ _ _ rfl rfl rfl rfl ?_ ?_ ?_ ?_ rfl rfl ?_;rotate_left 4;(repeat (first|exact Put.hd|(refine Put.tl (L' := ?_) ?_;rotate_left)));(solve|exact Nat.le_of_ble_eq_true rfl|decide|(simp only [List.size_toArray, nums_length];first|assumption|omega)|(simp only [List.size_toArray, nums_length, List.length_set];first|assumption|omega)|simp|omega|(simp only [List.size_toArray, nums_length];omega)|assumption);(solve|(simp only [List.setIfInBounds_toArray];exact rfl)|exact nums_set _ _ _ _|simp only [List.setIfInBounds_toArray, List.set_cons_zero]|simp only [List.setIfInBounds_toArray, List.set_cons_zero, List.set_cons_succ]|(simp only [List.setIfInBounds_toArray, List.set_cons_zero, List.set_cons_succ];exact rfl)|exact rfl);(with_reducible first|exact one2|exact one24)));(try clear K);(try clear ww);intro ww K;(try simp [go_sem] at K))|((first|((with_reducible refine at_box ?_);refine wm_box K rfl _ _ rfl rfl rfl ?_)|((with_reducible refine at_alloc ?_);refine wm_alloc (v := ?_) (cs := ?_) K rfl _ rfl ?_ ?_ ?_;rotate_left;(with_reducible first|fail);rotate_left;exact rfl));(try clear K);(try clear ww);((fail_if_success (have _h := b2));intro b2 ww K);(try simp [go_sem, Value.cells] at K))|(go_at_call 20;(with_reducible refine (PK.out _ (HR.out.below K.below)).mono ?_);rintro e w2 ⟨rfl, k1⟩;replace K := K.step k1;clear k1;(try clear ww);revert w2;intro ww K))
  go_loopw [6, 7, 15] (fun s m i wr => ∃ (k : Nat), k ≤ n ∧ i = .int .i64 k ∧ s = .int .i64 (pk (okS p T far) zs k) ∧ m = .int .i64 (most zs (pk (okS p T far) zs k)) ∧ St w.heap.size w [(b2, #[.int .i64 p, .int .i64 H, .int .i64 X, .int .i64 Y, .int .i64 S, .slice A n c], 26)] Any wr) (fun _ _ i _ => n - (intOf i).toNat)
  case atStart => exact ⟨0, Nat.zero_le _, rfl, rfl, rfl, K⟩
  case round =>
    clear K PK
    obtain ⟨i, hi, rfl, rfl, rfl, K⟩ := hrel
    by_cases hlt : i < n
    · obtain ⟨b, off, rfl, hb, hc⟩ := HR.out.get hlt
      have hil : i < zs.length := by rw [HL.out]; exact hlt
      have hv := hc i _ (ints_get .i64 zs i hil)
      have ht : decide ((i : Int) < n) = true := decide_eq_true (by omega)
      have hy := fun h0 h => pk_yes (ok := okS p T far) (A := zs) (k := i) h0 h
      have hz := fun h => pk_no (ok := okS p T far) (A := zs) (k := i) h
      obtain ⟨q, hq⟩ : ∃ q, pk (okS p T far) zs i = q := ⟨_, rfl⟩
      obtain ⟨z, hzz⟩ : ∃ z, zs.getD i 0 = z := ⟨_, rfl⟩
      rw [hq] at hy hz ⊢
      rw [hzz] at hy hz hv
      obtain ⟨m, hm⟩ : ∃ m, most zs q = m := ⟨_, rfl⟩
      rw [hm] at hy hz ⊢
      by_cases hT0 : 0 ≤ T
      · have t0 : decide (0 ≤ T) = true := decide_eq_true hT0
        by_cases hmz : m < z
        · have t1 : decide (m < z) = true := decide_eq_true hmz
          cases hr : near15 p i T.toNat far
          · have AP := apart_at p i T far H X Y S (some ⟨b, off, none⟩) n c hp (by omega) hT0 (by omega) hr
            obtain ⟨y1, y2⟩ := hy (by unfold okS; rw [t0, hr]; rfl) hmz
            have HY := Lib.hid y1
            have HY2 := Lib.hid y2
            clear hc hil hy hz hq hzz hm y1 y2 hr
            go_wp2_with (first|go_big_skip|((with_reducible refine at_load ?_);first|(refine wm_load (cs := ?_) (t := ?_) (n := ?_) K rfl _ _ rfl rfl ?_ ?_ ?_ ?_;rotate_left 2;(repeat (first|exact At.hd|refine At.tl ?_));rotate_left;(with_reducible first|exact row26);(solve|exact rfl|simp))|(refine wm_own (cs := ?_) (t := ?_) (v := ?_) K rfl _ _ rfl rfl ?_ ?_ ?_ ?_;rotate_left 2;(repeat (first|exact At.hd|refine At.tl ?_));rotate_left;(first|exact rfl|assumption);(with_reducible first|exact one2|exact one24))|(refine wm_cell (v := ?_) rfl _ _ rfl rfl ?_ ?_ ?_;rotate_left;(first|assumption|exact (K.below.cell (by assumption)).trans (by assumption));(with_reducible first|exact one2|exact one24)))|((with_reducible refine at_store ?_);(first|(refine wm_store (L' := ?_) (cs := ?_) (t := ?_) (n := ?_) K rfl _ _ _ rfl rfl rfl rfl ?_ ?_ ?_ ?_ ?_ ?_;rotate_left 3;(repeat (first|exact Put.hd|(refine Put.tl (L' := ?_) ?_;rotate_left)));rotate_left;(with_reducible first|exact row26);(solve|exact rfl|simp);(solve|exact rfl|simp);(solve|exact rfl|simp [Ones, Value.oneCell']))|(refine wm_put (L' := ?_) (cs := ?_) (new := ?_) (t := ?_) K rfl _ _ _ rfl rfl rfl rfl ?_ ?_ ?_ ?_ rfl rfl ?_;rotate_left 4;(repeat (first|exact Put.hd|(refine Put.tl (L' := ?_) ?_;rotate_left)));(solve|exact Nat.le_of_ble_eq_true rfl|decide|(simp only [List.size_toArray, nums_length];first|assumption|omega)|(simp only [List.size_toArray, nums_length, List.length_set];first|assumption|omega)|simp|omega|(simp only [List.size_toArray, nums_length];omega)|assumption);(solve|(simp only [List.setIfInBounds_toArray];exact rfl)|exact nums_set _ _ _ _|simp only [List.setIfInBounds_toArray, List.set_cons_zero]|simp only [List.setIfInBounds_toArray, List.set_cons_zero, List.set_cons_succ]|(simp only [List.setIfInBounds_toArray, List.set_cons_zero, List.set_cons_succ];exact rfl)|exact rfl);(with_reducible first|exact one2|exact one24)));(try clear K);(try clear ww);intro ww K;(try simp [go_sem] at K))|(go_at_call 60;(with_reducible refine (AP.out _).mono ?_);rintro e w2 ⟨rfl, k1⟩;replace K := K.step k1;clear k1;(try clear ww);revert w2;intro ww K))
            exact ⟨⟨i + 1, by omega, by go_num, by rw [HY.out], by rw [HY2.out], K⟩, by simp [intOf]; omega⟩
          · have AP := apart_at p i T far H X Y S (some ⟨b, off, none⟩) n c hp (by omega) hT0 (by omega) hr
            have HY := Lib.hid (hz fun h => by unfold okS at h; rw [t0, hr] at h; exact absurd h (by decide))
            have HY2 := Lib.hid hm
            clear hc hil hy hz hq hzz hm
            go_wp2_with (first|go_big_skip|((with_reducible refine at_load ?_);first|(refine wm_load (cs := ?_) (t := ?_) (n := ?_) K rfl _ _ rfl rfl ?_ ?_ ?_ ?_;rotate_left 2;(repeat (first|exact At.hd|refine At.tl ?_));rotate_left;(with_reducible first|exact row26);(solve|exact rfl|simp))|(refine wm_own (cs := ?_) (t := ?_) (v := ?_) K rfl _ _ rfl rfl ?_ ?_ ?_ ?_;rotate_left 2;(repeat (first|exact At.hd|refine At.tl ?_));rotate_left;(first|exact rfl|assumption);(with_reducible first|exact one2|exact one24))|(refine wm_cell (v := ?_) rfl _ _ rfl rfl ?_ ?_ ?_;rotate_left;(first|assumption|exact (K.below.cell (by assumption)).trans (by assumption));(with_reducible first|exact one2|exact one24)))|((with_reducible refine at_store ?_);(first|(refine wm_store (L' := ?_) (cs := ?_) (t := ?_) (n := ?_) K rfl _ _ _ rfl rfl rfl rfl ?_ ?_ ?_ ?_ ?_ ?_;rotate_left 3;(repeat (first|exact Put.hd|(refine Put.tl (L' := ?_) ?_;rotate_left)));rotate_left;(with_reducible first|exact row26);(solve|exact rfl|simp);(solve|exact rfl|simp);(solve|exact rfl|simp [Ones, Value.oneCell']))|(refine wm_put (L' := ?_) (cs := ?_) (new := ?_) (t := ?_) K rfl _ _ _ rfl rfl rfl rfl ?_ ?_ ?_ ?_ rfl rfl ?_;rotate_left 4;(repeat (first|exact Put.hd|(refine Put.tl (L' := ?_) ?_;rotate_left)));(solve|exact Nat.le_of_ble_eq_true rfl|decide|(simp only [List.size_toArray, nums_length];first|assumption|omega)|(simp only [List.size_toArray, nums_length, List.length_set];first|assumption|omega)|simp|omega|(simp only [List.size_toArray, nums_length];omega)|assumption);(solve|(simp only [List.setIfInBounds_toArray];exact rfl)|exact nums_set _ _ _ _|simp only [List.setIfInBounds_toArray, List.set_cons_zero]|simp only [List.setIfInBounds_toArray, List.set_cons_zero, List.set_cons_succ]|(simp only [List.setIfInBounds_toArray, List.set_cons_zero, List.set_cons_succ];exact rfl)|exact rfl);(with_reducible first|exact one2|exact one24)));(try clear K);(try clear ww);intro ww K;(try simp [go_sem] at K))|(go_at_call 60;(with_reducible refine (AP.out _).mono ?_);rintro e w2 ⟨rfl, k1⟩;replace K := K.step k1;clear k1;(try clear ww);revert w2;intro ww K))
            exact ⟨⟨i + 1, by omega, by go_num, by rw [HY.out], by rw [HY.out, HY2.out], K⟩, by simp [intOf]; omega⟩
        · have t1 : decide (m < z) = false := decide_eq_false hmz
          have AP := HL
          have HY := Lib.hid (hz fun _ => hmz)
          have HY2 := Lib.hid hm
          clear hc hil hy hz hq hzz hm
          go_wp2_with (first|go_big_skip|((with_reducible refine at_load ?_);first|(refine wm_load (cs := ?_) (t := ?_) (n := ?_) K rfl _ _ rfl rfl ?_ ?_ ?_ ?_;rotate_left 2;(repeat (first|exact At.hd|refine At.tl ?_));rotate_left;(with_reducible first|exact row26);(solve|exact rfl|simp))|(refine wm_own (cs := ?_) (t := ?_) (v := ?_) K rfl _ _ rfl rfl ?_ ?_ ?_ ?_;rotate_left 2;(repeat (first|exact At.hd|refine At.tl ?_));rotate_left;(first|exact rfl|assumption);(with_reducible first|exact one2|exact one24))|(refine wm_cell (v := ?_) rfl _ _ rfl rfl ?_ ?_ ?_;rotate_left;(first|assumption|exact (K.below.cell (by assumption)).trans (by assumption));(with_reducible first|exact one2|exact one24)))|((with_reducible refine at_store ?_);(first|(refine wm_store (L' := ?_) (cs := ?_) (t := ?_) (n := ?_) K rfl _ _ _ rfl rfl rfl rfl ?_ ?_ ?_ ?_ ?_ ?_;rotate_left 3;(repeat (first|exact Put.hd|(refine Put.tl (L' := ?_) ?_;rotate_left)));rotate_left;(with_reducible first|exact row26);(solve|exact rfl|simp);(solve|exact rfl|simp);(solve|exact rfl|simp [Ones, Value.oneCell']))|(refine wm_put (L' := ?_) (cs := ?_) (new := ?_) (t := ?_) K rfl _ _ _ rfl rfl rfl rfl ?_ ?_ ?_ ?_ rfl rfl ?_;rotate_left 4;(repeat (first|exact Put.hd|(refine Put.tl (L' := ?_) ?_;rotate_left)));(solve|exact Nat.le_of_ble_eq_true rfl|decide|(simp only [List.size_toArray, nums_length];first|assumption|omega)|(simp only [List.size_toArray, nums_length, List.length_set];first|assumption|omega)|simp|omega|(simp only [List.size_toArray, nums_length];omega)|assumption);(solve|(simp only [List.setIfInBounds_toArray];exact rfl)|exact nums_set _ _ _ _|simp only [List.setIfInBounds_toArray, List.set_cons_zero]|simp only [List.setIfInBounds_toArray, List.set_cons_zero, List.set_cons_succ]|(simp only [List.setIfInBounds_toArray, List.set_cons_zero, List.set_cons_succ];exact rfl)|exact rfl);(with_reducible first|exact one2|exact one24)));(try clear K);(try clear ww);intro ww K;(try simp [go_sem] at K))|(go_at_call 60;(with_reducible refine (AP.out _).mono ?_);rintro e w2 ⟨rfl, k1⟩;replace K := K.step k1;clear k1;(try clear ww);revert w2;intro ww K))
          exact ⟨⟨i + 1, by omega, by go_num, by rw [HY.out], by rw [HY.out, HY2.out], K⟩, by simp [intOf]; omega⟩
      · have t0 : decide (0 ≤ T) = false := decide_eq_false hT0
        have AP := HL
        have HY := Lib.hid (hz fun h => by unfold okS at h; rw [t0] at h; exact absurd h (by simp))
        have HY2 := Lib.hid hm
        clear hc hil hy hz hq hzz hm
        go_wp2_with (first|go_big_skip|((with_reducible refine at_load ?_);first|(refine wm_load (cs := ?_) (t := ?_) (n := ?_) K rfl _ _ rfl rfl ?_ ?_ ?_ ?_;rotate_left 2;(repeat (first|exact At.hd|refine At.tl ?_));rotate_left;(with_reducible first|exact row26);(solve|exact rfl|simp))|(refine wm_own (cs := ?_) (t := ?_) (v := ?_) K rfl _ _ rfl rfl ?_ ?_ ?_ ?_;rotate_left 2;(repeat (first|exact At.hd|refine At.tl ?_));rotate_left;(first|exact rfl|assumption);(with_reducible first|exact one2|exact one24))|(refine wm_cell (v := ?_) rfl _ _ rfl rfl ?_ ?_ ?_;rotate_left;(first|assumption|exact (K.below.cell (by assumption)).trans (by assumption));(with_reducible first|exact one2|exact one24)))|((with_reducible refine at_store ?_);(first|(refine wm_store (L' := ?_) (cs := ?_) (t := ?_) (n := ?_) K rfl _ _ _ rfl rfl rfl rfl ?_ ?_ ?_ ?_ ?_ ?_;rotate_left 3;(repeat (first|exact Put.hd|(refine Put.tl (L' := ?_) ?_;rotate_left)));rotate_left;(with_reducible first|exact row26);(solve|exact rfl|simp);(solve|exact rfl|simp);(solve|exact rfl|simp [Ones, Value.oneCell']))|(refine wm_put (L' := ?_) (cs := ?_) (new := ?_) (t := ?_) K rfl _ _ _ rfl rfl rfl rfl ?_ ?_ ?_ ?_ rfl rfl ?_;rotate_left 4;(repeat (first|exact Put.hd|(refine Put.tl (L' := ?_) ?_;rotate_left)));(solve|exact Nat.le_of_ble_eq_true rfl|decide|(simp only [List.size_toArray, nums_length];first|assumption|omega)|(simp only [List.size_toArray, nums_length, List.length_set];first|assumption|omega)|simp|omega|(simp only [List.size_toArray, nums_length];omega)|assumption);(solve|(simp only [List.setIfInBounds_toArray];exact rfl)|exact nums_set _ _ _ _|simp only [List.setIfInBounds_toArray, List.set_cons_zero]|simp only [List.setIfInBounds_toArray, List.set_cons_zero, List.set_cons_succ]|(simp only [List.setIfInBounds_toArray, List.set_cons_zero, List.set_cons_succ];exact rfl)|exact rfl);(with_reducible first|exact one2|exact one24)));(try clear K);(try clear ww);intro ww K;(try simp [go_sem] at K))|(go_at_call 60;(with_reducible refine (AP.out _).mono ?_);rintro e w2 ⟨rfl, k1⟩;replace K := K.step k1;clear k1;(try clear ww);revert w2;intro ww K))
        exact ⟨⟨i + 1, by omega, by go_num, by rw [HY.out], by rw [HY.out, HY2.out], K⟩, by simp [intOf]; omega⟩
    · obtain rfl : n = i := by omega
      have ht : decide ((n : Int) < n) = false := decide_eq_false (by omega)
      go_wp2_with (first|go_big_skip|((with_reducible refine at_load ?_);first|(refine wm_load (cs := ?_) (t := ?_) (n := ?_) K rfl _ _ rfl rfl ?_ ?_ ?_ ?_;rotate_left 2;(repeat (first|exact At.hd|refine At.tl ?_));rotate_left;(with_reducible first|exact row26);(solve|exact rfl|simp))|(refine wm_own (cs := ?_) (t := ?_) (v := ?_) K rfl _ _ rfl rfl ?_ ?_ ?_ ?_;rotate_left 2;(repeat (first|exact At.hd|refine At.tl ?_));rotate_left;(first|exact rfl|assumption);(with_reducible first|exact one2|exact one24))|(refine wm_cell (v := ?_) rfl _ _ rfl rfl ?_ ?_ ?_;rotate_left;(first|assumption|exact (K.below.cell (by assumption)).trans (by assumption));(with_reducible first|exact one2|exact one24)))|((with_reducible refine at_store ?_);(first|(refine wm_store (L' := ?_) (cs := ?_) (t := ?_) (n := ?_) K rfl _ _ _ rfl rfl rfl rfl ?_ ?_ ?_ ?_ ?_ ?_;rotate_left 3;(repeat (first|exact Put.hd|(refine Put.tl (L' := ?_) ?_;rotate_left)));rotate_left;(with_reducible first|exact row26);(solve|exact rfl|simp);(solve|exact rfl|simp);(solve|exact rfl|simp [Ones, Value.oneCell']))|(refine wm_put (L' := ?_) (cs := ?_) (new := ?_) (t := ?_) K rfl _ _ _ rfl rfl rfl rfl ?_ ?_ ?_ ?_ rfl rfl ?_;rotate_left 4;(repeat (first|exact Put.hd|(refine Put.tl (L' := ?_) ?_;rotate_left)));(solve|exact Nat.le_of_ble_eq_true rfl|decide|(simp only [List.size_toArray, nums_length];first|assumption|omega)|(simp only [List.size_toArray, nums_length, List.length_set];first|assumption|omega)|simp|omega|(simp only [List.size_toArray, nums_length];omega)|assumption);(solve|(simp only [List.setIfInBounds_toArray];exact rfl)|exact nums_set _ _ _ _|simp only [List.setIfInBounds_toArray, List.set_cons_zero]|simp only [List.setIfInBounds_toArray, List.set_cons_zero, List.set_cons_succ]|(simp only [List.setIfInBounds_toArray, List.set_cons_zero, List.set_cons_succ];exact rfl)|exact rfl);(with_reducible first|exact one2|exact one24)));(try clear K);(try clear ww);intro ww K;(try simp [go_sem] at K)))
      go_ret
      exact ⟨rfl, K.below⟩
end Go.Proofs.Ytpejoaefnnbghaa
namespace Go.Proofs.Ytpejoaefnnbghaa
open Go.RowKit
attribute [local irreducible] wpHeld wpTree wpList
set_option linter.unusedVariables false
def ar15 (zs : List Int) (p : Nat) (T far : Int) (k : Nat) : Int := lsum (arS p zs.length T far) ((num15 zs).take k)
theorem ar15_snoc {zs : List Int} {p : Nat} {T far : Int} {k : Nat} (h : k < zs.length) : ar15 zs p T far (k + 1) = ar15 zs p T far k + arS p zs.length T far (k, zs.getD k 0) := by
  unfold ar15; rw [lsum_snoc (num15_get h)]
theorem ar15_end {zs : List Int} {p : Nat} {T far : Int} : ar15 zs p T far zs.length = around15 zs p T far := by
  unfold ar15 around15; rw [← num15_len zs, List.take_length]
set_option maxRecDepth 100000 in
set_option maxHeartbeats 1000000 in
theorem Around15 (p q : Nat) (H X Y S T far : Int) (A : Option Addr) (n c : Nat) (zs : List Int) (w : World) (hG : Gr p q zs) (h : Rd w A n (ints .i64 zs)) (hn : n ≤ 5000) :
    Calls Try.prog 24 #[.agg #[.int .i64 p, .int .i64 H, .int .i64 X, .int .i64 Y, .int .i64 S, .slice A n c], .int .i64 T, .int .i64 far] w fun e w' => e = .returned (.int .i64 (around15 zs p T far)) ∧ Below w.heap.size w w' := by
  have K := St.start w
  have hl : zs.length = n := by rw [← h.1, ints_len]
  have HR := Lib.hid h
  have HL := Lib.hid hl
  have HB := Lib.hid (fun k => hG.ar_take T far k)
  have HN := Lib.hid hG.nums
  have hp := hG.w0
  rw [← ar15_end, hl]
  clear h hl hG
  go_enter Try.func24, Try.ntmps24
  go_wp2_with (first|go_big_skip|((with_reducible refine at_load ?_);first|(refine wm_load (cs := ?_) (t := ?_) (n := ?_) K rfl _ _ rfl rfl ?_ ?_ ?_ ?_;rotate_left 2;(repeat (first|exact At.hd|refine At.tl ?_));rotate_left;(with_reducible first|exact row26);(solve|exact rfl|simp))|(refine wm_own (cs := ?_) (t := ?_) (v := ?_) K rfl _ _ rfl rfl ?_ ?_ ?_ ?_;rotate_left 2;(repeat (first|exact At.hd|refine At.tl ?_));rotate_left;(first|exact rfl|assumption);(with_reducible first|exact one2|exact one24))|(refine wm_cell (v := ?_) rfl _ _ rfl rfl ?_ ?_ ?_;rotate_left;(first|assumption|exact (K.below.cell (by assumption)).trans (by assumption));(with_reducible first|exact one2|exact one24)))|((with_reducible refine at_store ?_);(first|(refine wm_store (L' := ?_) (cs := ?_) (t := ?_) (n := ?_) K rfl _ _ _ rfl rfl rfl rfl ?_ ?_ ?_ ?_ ?_ ?_;rotate_left 3;(repeat (first|exact Put.hd|(refine Put.tl (L' := ?_) ?_;rotate_left)));rotate_left;(with_reducible first|exact row26);(solve|exact rfl|simp);(solve|exact rfl|simp);(solve|exact rfl|simp [Ones, Value.oneCell']))|(refine wm_put (L' := ?_) (cs := ?_) (new := ?_) (t := ?_) K rfl _ _ _ rfl rfl rfl rfl ?_ ?_ ?_ ?_ rfl rfl ?_;rotate_left 4;(repeat (first|exact Put.hd|(refine Put.tl (L' := ?_) ?_;rotate_left)));(solve|exact Nat.le_of_ble_eq_true rfl|decide|(simp only [List.size_toArray, nums_length];first|assumption|omega)|(simp only [List.size_toArray, nums_length, List.length_set];first|assumption|omega)|simp|omega|(simp only [List.size_toArray, nums_length];omega)|assumption);(solve|(simp only [List.setIfInBounds_toArray];exact rfl)|exact nums_set _ _ _ _|simp only [List.setIfInBounds_toArray, List.set_cons_zero]|simp only [List.setIfInBounds_toArray, List.set_cons_zero, List.set_cons_succ]|(simp only [List.setIfInBounds_toArray, List.set_cons_zero, List.set_cons_succ];exact rfl)|exact rfl);(with_reducible first|exact one2|exact one24)));(try clear K);(try clear ww);intro ww K;(try simp [go_sem] at K))|((first|((with_reducible refine at_box ?_);refine wm_box K rfl _ _ rfl rfl rfl ?_)|((with_reducible refine at_alloc ?_);refine wm_alloc (v := ?_) (cs := ?_) K rfl _ rfl ?_ ?_ ?_;rotate_left;(with_reducible first|fail);rotate_left;exact rfl));(try clear K);(try clear ww);((fail_if_success (have _h := b3));intro b3 ww K);(try simp [go_sem, Value.cells] at K)))
  go_loopw [7, 13] (fun s i wr => ∃ (k : Nat), k ≤ n ∧ i = .int .i64 k ∧ s = .int .i64 (ar15 zs p T far k) ∧ St w.heap.size w [(b3, #[.int .i64 p, .int .i64 H, .int .i64 X, .int .i64 Y, .int .i64 S, .slice A n c], 26)] Any wr) (fun _ i _ => n - (intOf i).toNat)
  case atStart => exact ⟨0, Nat.zero_le _, rfl, rfl, K⟩
  case round =>
    clear K
    obtain ⟨i, hi, rfl, rfl, K⟩ := hrel
    by_cases hlt : i < n
    · obtain ⟨b, off, rfl, hb, hc⟩ := HR.out.get hlt
      have hil : i < zs.length := by rw [HL.out]; exact hlt
      have hv := hc i _ (ints_get .i64 zs i hil)
      have ht : decide ((i : Int) < n) = true := decide_eq_true (by omega)
      have hsn := ar15_snoc (p := p) (T := T) (far := far) hil
      have h1 := HB.out i
      have h2 := HB.out (i + 1)
      have hzb := HN.out _ (getD_mem hil)
      change 0 ≤ ar15 zs p T far i ∧ ar15 zs p T far i ≤ _ at h1
      change 0 ≤ ar15 zs p T far (i + 1) ∧ ar15 zs p T far (i + 1) ≤ _ at h2
      rw [HL.out] at hsn
      obtain ⟨z, hzz⟩ : ∃ z, zs.getD i 0 = z := ⟨_, rfl⟩
      rw [hzz] at hsn hv hzb
      by_cases hT0 : 0 ≤ T
      · have t0 : decide (0 ≤ T) = true := decide_eq_true hT0
        by_cases hT1 : T < n
        · have t1 : decide (T < (n : Int)) = true := decide_eq_true hT1
          have hA : inA n T = true := by unfold inA; rw [t0, t1]; rfl
          cases hr : near15 p i T.toNat far
          · have AP := apart_at p i T far H X Y S (some ⟨b, off, none⟩) n c hp (by omega) hT0 (by omega) hr
            have es : ar15 zs p T far (i + 1) = ar15 zs p T far i := by rw [hsn]; unfold arS; rw [show (inA n T && near15 p i T.toNat far) = false by rw [hr, Bool.and_false]]; simp
            have HS := Lib.hid es
            generalize ar15 zs p T far i = s at *
            clear hc hil hsn es h1 h2 hzb hzz
            go_wp2_with (first|go_big_skip|((with_reducible refine at_load ?_);first|(refine wm_load (cs := ?_) (t := ?_) (n := ?_) K rfl _ _ rfl rfl ?_ ?_ ?_ ?_;rotate_left 2;(repeat (first|exact At.hd|refine At.tl ?_));rotate_left;(with_reducible first|exact row26);(solve|exact rfl|simp))|(refine wm_own (cs := ?_) (t := ?_) (v := ?_) K rfl _ _ rfl rfl ?_ ?_ ?_ ?_;rotate_left 2;(repeat (first|exact At.hd|refine At.tl ?_));rotate_left;(first|exact rfl|assumption);(with_reducible first|exact one2|exact one24))|(refine wm_cell (v := ?_) rfl _ _ rfl rfl ?_ ?_ ?_;rotate_left;(first|assumption|exact (K.below.cell (by assumption)).trans (by assumption));(with_reducible first|exact one2|exact one24)))|((with_reducible refine at_store ?_);(first|(refine wm_store (L' := ?_) (cs := ?_) (t := ?_) (n := ?_) K rfl _ _ _ rfl rfl rfl rfl ?_ ?_ ?_ ?_ ?_ ?_;rotate_left 3;(repeat (first|exact Put.hd|(refine Put.tl (L' := ?_) ?_;rotate_left)));rotate_left;(with_reducible first|exact row26);(solve|exact rfl|simp);(solve|exact rfl|simp);(solve|exact rfl|simp [Ones, Value.oneCell']))|(refine wm_put (L' := ?_) (cs := ?_) (new := ?_) (t := ?_) K rfl _ _ _ rfl rfl rfl rfl ?_ ?_ ?_ ?_ rfl rfl ?_;rotate_left 4;(repeat (first|exact Put.hd|(refine Put.tl (L' := ?_) ?_;rotate_left)));(solve|exact Nat.le_of_ble_eq_true rfl|decide|(simp only [List.size_toArray, nums_length];first|assumption|omega)|(simp only [List.size_toArray, nums_length, List.length_set];first|assumption|omega)|simp|omega|(simp only [List.size_toArray, nums_length];omega)|assumption);(solve|(simp only [List.setIfInBounds_toArray];exact rfl)|exact nums_set _ _ _ _|simp only [List.setIfInBounds_toArray, List.set_cons_zero]|simp only [List.setIfInBounds_toArray, List.set_cons_zero, List.set_cons_succ]|(simp only [List.setIfInBounds_toArray, List.set_cons_zero, List.set_cons_succ];exact rfl)|exact rfl);(with_reducible first|exact one2|exact one24)));(try clear K);(try clear ww);intro ww K;(try simp [go_sem] at K))|(go_at_call 60;(with_reducible refine (AP.out _).mono ?_);rintro e w2 ⟨rfl, k1⟩;replace K := K.step k1;clear k1;(try clear ww);revert w2;intro ww K))
            exact ⟨⟨i + 1, by omega, by go_num, by rw [HS.out], K⟩, by simp [intOf]; omega⟩
          · have AP := apart_at p i T far H X Y S (some ⟨b, off, none⟩) n c hp (by omega) hT0 (by omega) hr
            have es : ar15 zs p T far i + z = ar15 zs p T far (i + 1) := by rw [hsn]; unfold arS; rw [show (inA n T && near15 p i T.toNat far) = true by rw [hA, hr]; rfl]; simp
            obtain ⟨e1, e2⟩ := wrapI es (by omega) (by omega)
            clear hc hil hsn es h1 h2 hzb hzz hr hA
            go_wp2_with (first|go_big_skip|((with_reducible refine at_load ?_);first|(refine wm_load (cs := ?_) (t := ?_) (n := ?_) K rfl _ _ rfl rfl ?_ ?_ ?_ ?_;rotate_left 2;(repeat (first|exact At.hd|refine At.tl ?_));rotate_left;(with_reducible first|exact row26);(solve|exact rfl|simp))|(refine wm_own (cs := ?_) (t := ?_) (v := ?_) K rfl _ _ rfl rfl ?_ ?_ ?_ ?_;rotate_left 2;(repeat (first|exact At.hd|refine At.tl ?_));rotate_left;(first|exact rfl|assumption);(with_reducible first|exact one2|exact one24))|(refine wm_cell (v := ?_) rfl _ _ rfl rfl ?_ ?_ ?_;rotate_left;(first|assumption|exact (K.below.cell (by assumption)).trans (by assumption));(with_reducible first|exact one2|exact one24)))|((with_reducible refine at_store ?_);(first|(refine wm_store (L' := ?_) (cs := ?_) (t := ?_) (n := ?_) K rfl _ _ _ rfl rfl rfl rfl ?_ ?_ ?_ ?_ ?_ ?_;rotate_left 3;(repeat (first|exact Put.hd|(refine Put.tl (L' := ?_) ?_;rotate_left)));rotate_left;(with_reducible first|exact row26);(solve|exact rfl|simp);(solve|exact rfl|simp);(solve|exact rfl|simp [Ones, Value.oneCell']))|(refine wm_put (L' := ?_) (cs := ?_) (new := ?_) (t := ?_) K rfl _ _ _ rfl rfl rfl rfl ?_ ?_ ?_ ?_ rfl rfl ?_;rotate_left 4;(repeat (first|exact Put.hd|(refine Put.tl (L' := ?_) ?_;rotate_left)));(solve|exact Nat.le_of_ble_eq_true rfl|decide|(simp only [List.size_toArray, nums_length];first|assumption|omega)|(simp only [List.size_toArray, nums_length, List.length_set];first|assumption|omega)|simp|omega|(simp only [List.size_toArray, nums_length];omega)|assumption);(solve|(simp only [List.setIfInBounds_toArray];exact rfl)|exact nums_set _ _ _ _|simp only [List.setIfInBounds_toArray, List.set_cons_zero]|simp only [List.setIfInBounds_toArray, List.set_cons_zero, List.set_cons_succ]|(simp only [List.setIfInBounds_toArray, List.set_cons_zero, List.set_cons_succ];exact rfl)|exact rfl);(with_reducible first|exact one2|exact one24)));(try clear K);(try clear ww);intro ww K;(try simp [go_sem] at K))|(go_at_call 60;(with_reducible refine (AP.out _).mono ?_);rintro e w2 ⟨rfl, k1⟩;replace K := K.step k1;clear k1;(try clear ww);revert w2;intro ww K))
            exact ⟨⟨i + 1, by omega, by go_num, rfl, K⟩, by simp [intOf]; omega⟩
        · have t1 : decide (T < (n : Int)) = false := decide_eq_false hT1
          have AP := HL
          have es : ar15 zs p T far (i + 1) = ar15 zs p T far i := by rw [hsn]; unfold arS; rw [show (inA n T && near15 p i T.toNat far) = false by unfold inA; rw [t1, Bool.and_false, Bool.false_and]]; simp
          have HS := Lib.hid es
          generalize ar15 zs p T far i = s at *
          clear hc hil hsn es h1 h2 hzb hzz
          go_wp2_with (first|go_big_skip|((with_reducible refine at_load ?_);first|(refine wm_load (cs := ?_) (t := ?_) (n := ?_) K rfl _ _ rfl rfl ?_ ?_ ?_ ?_;rotate_left 2;(repeat (first|exact At.hd|refine At.tl ?_));rotate_left;(with_reducible first|exact row26);(solve|exact rfl|simp))|(refine wm_own (cs := ?_) (t := ?_) (v := ?_) K rfl _ _ rfl rfl ?_ ?_ ?_ ?_;rotate_left 2;(repeat (first|exact At.hd|refine At.tl ?_));rotate_left;(first|exact rfl|assumption);(with_reducible first|exact one2|exact one24))|(refine wm_cell (v := ?_) rfl _ _ rfl rfl ?_ ?_ ?_;rotate_left;(first|assumption|exact (K.below.cell (by assumption)).trans (by assumption));(with_reducible first|exact one2|exact one24)))|((with_reducible refine at_store ?_);(first|(refine wm_store (L' := ?_) (cs := ?_) (t := ?_) (n := ?_) K rfl _ _ _ rfl rfl rfl rfl ?_ ?_ ?_ ?_ ?_ ?_;rotate_left 3;(repeat (first|exact Put.hd|(refine Put.tl (L' := ?_) ?_;rotate_left)));rotate_left;(with_reducible first|exact row26);(solve|exact rfl|simp);(solve|exact rfl|simp);(solve|exact rfl|simp [Ones, Value.oneCell']))|(refine wm_put (L' := ?_) (cs := ?_) (new := ?_) (t := ?_) K rfl _ _ _ rfl rfl rfl rfl ?_ ?_ ?_ ?_ rfl rfl ?_;rotate_left 4;(repeat (first|exact Put.hd|(refine Put.tl (L' := ?_) ?_;rotate_left)));(solve|exact Nat.le_of_ble_eq_true rfl|decide|(simp only [List.size_toArray, nums_length];first|assumption|omega)|(simp only [List.size_toArray, nums_length, List.length_set];first|assumption|omega)|simp|omega|(simp only [List.size_toArray, nums_length];omega)|assumption);(solve|(simp only [List.setIfInBounds_toArray];exact rfl)|exact nums_set _ _ _ _|simp only [List.setIfInBounds_toArray, List.set_cons_zero]|simp only [List.setIfInBounds_toArray, List.set_cons_zero, List.set_cons_succ]|(simp only [List.setIfInBounds_toArray, List.set_cons_zero, List.set_cons_succ];exact rfl)|exact rfl);(with_reducible first|exact one2|exact one24)));(try clear K);(try clear ww);intro ww K;(try simp [go_sem] at K))|(go_at_call 60;(with_reducible refine (AP.out _).mono ?_);rintro e w2 ⟨rfl, k1⟩;replace K := K.step k1;clear k1;(try clear ww);revert w2;intro ww K))
          exact ⟨⟨i + 1, by omega, by go_num, by rw [HS.out], K⟩, by simp [intOf]; omega⟩
      · have t0 : decide (0 ≤ T) = false := decide_eq_false hT0
        have AP := HL
        have es : ar15 zs p T far (i + 1) = ar15 zs p T far i := by rw [hsn]; unfold arS; rw [show (inA n T && near15 p i T.toNat far) = false by unfold inA; rw [t0, Bool.false_and, Bool.false_and]]; simp
        have HS := Lib.hid es
        generalize ar15 zs p T far i = s at *
        clear hc hil hsn es h1 h2 hzb hzz
        go_wp2_with (first|go_big_skip|((with_reducible refine at_load ?_);first|(refine wm_load (cs := ?_) (t := ?_) (n := ?_) K rfl _ _ rfl rfl ?_ ?_ ?_ ?_;rotate_left 2;(repeat (first|exact At.hd|refine At.tl ?_));rotate_left;(with_reducible first|exact row26);(solve|exact rfl|simp))|(refine wm_own (cs := ?_) (t := ?_) (v := ?_) K rfl _ _ rfl rfl ?_ ?_ ?_ ?_;rotate_left 2;(repeat (first|exact At.hd|refine At.tl ?_));rotate_left;(first|exact rfl|assumption);(with_reducible first|exact one2|exact one24))|(refine wm_cell (v := ?_) rfl _ _ rfl rfl ?_ ?_ ?_;rotate_left;(first|assumption|exact (K.below.cell (by assumption)).trans (by assumption));(with_reducible first|exact one2|exact one24)))|((with_reducible refine at_store ?_);(first|(refine wm_store (L' := ?_) (cs := ?_) (t := ?_) (n := ?_) K rfl _ _ _ rfl rfl rfl rfl ?_ ?_ ?_ ?_ ?_ ?_;rotate_left 3;(repeat (first|exact Put.hd|(refine Put.tl (L' := ?_) ?_;rotate_left)));rotate_left;(with_reducible first|exact row26);(solve|exact rfl|simp);(solve|exact rfl|simp);(solve|exact rfl|simp [Ones, Value.oneCell']))|(refine wm_put (L' := ?_) (cs := ?_) (new := ?_) (t := ?_) K rfl _ _ _ rfl rfl rfl rfl ?_ ?_ ?_ ?_ rfl rfl ?_;rotate_left 4;(repeat (first|exact Put.hd|(refine Put.tl (L' := ?_) ?_;rotate_left)));(solve|exact Nat.le_of_ble_eq_true rfl|decide|(simp only [List.size_toArray, nums_length];first|assumption|omega)|(simp only [List.size_toArray, nums_length, List.length_set];first|assumption|omega)|simp|omega|(simp only [List.size_toArray, nums_length];omega)|assumption);(solve|(simp only [List.setIfInBounds_toArray];exact rfl)|exact nums_set _ _ _ _|simp only [List.setIfInBounds_toArray, List.set_cons_zero]|simp only [List.setIfInBounds_toArray, List.set_cons_zero, List.set_cons_succ]|(simp only [List.setIfInBounds_toArray, List.set_cons_zero, List.set_cons_succ];exact rfl)|exact rfl);(with_reducible first|exact one2|exact one24)));(try clear K);(try clear ww);intro ww K;(try simp [go_sem] at K))|(go_at_call 60;(with_reducible refine (AP.out _).mono ?_);rintro e w2 ⟨rfl, k1⟩;replace K := K.step k1;clear k1;(try clear ww);revert w2;intro ww K))
        exact ⟨⟨i + 1, by omega, by go_num, by rw [HS.out], K⟩, by simp [intOf]; omega⟩
    · obtain rfl : n = i := by omega
      have ht : decide ((n : Int) < n) = false := decide_eq_false (by omega)
      go_wp2_with (first|go_big_skip|((with_reducible refine at_load ?_);first|(refine wm_load (cs := ?_) (t := ?_) (n := ?_) K rfl _ _ rfl rfl ?_ ?_ ?_ ?_;rotate_left 2;(repeat (first|exact At.hd|refine At.tl ?_));rotate_left;(with_reducible first|exact row26);(solve|exact rfl|simp))|(refine wm_own (cs := ?_) (t := ?_) (v := ?_) K rfl _ _ rfl rfl ?_ ?_ ?_ ?_;rotate_left 2;(repeat (first|exact At.hd|refine At.tl ?_));rotate_left;(first|exact rfl|assumption);(with_reducible first|exact one2|exact one24))|(refine wm_cell (v := ?_) rfl _ _ rfl rfl ?_ ?_ ?_;rotate_left;(first|assumption|exact (K.below.cell (by assumption)).trans (by assumption));(with_reducible first|exact one2|exact one24)))|((with_reducible refine at_store ?_);(first|(refine wm_store (L' := ?_) (cs := ?_) (t := ?_) (n := ?_) K rfl _ _ _ rfl rfl rfl rfl ?_ ?_ ?_ ?_ ?_ ?_;rotate_left 3;(repeat (first|exact Put.hd|(refine Put.tl (L' := ?_) ?_;rotate_left)));rotate_left;(with_reducible first|exact row26);(solve|exact rfl|simp);(solve|exact rfl|simp);(solve|exact rfl|simp [Ones, Value.oneCell']))|(refine wm_put (L' := ?_) (cs := ?_) (new := ?_) (t := ?_) K rfl _ _ _ rfl rfl rfl rfl ?_ ?_ ?_ ?_ rfl rfl ?_;rotate_left 4;(repeat (first|exact Put.hd|(refine Put.tl (L' := ?_) ?_;rotate_left)));(solve|exact Nat.le_of_ble_eq_true rfl|decide|(simp only [List.size_toArray, nums_length];first|assumption|omega)|(simp only [List.size_toArray, nums_length, List.length_set];first|assumption|omega)|simp|omega|(simp only [List.size_toArray, nums_length];omega)|assumption);(solve|(simp only [List.setIfInBounds_toArray];exact rfl)|exact nums_set _ _ _ _|simp only [List.setIfInBounds_toArray, List.set_cons_zero]|simp only [List.setIfInBounds_toArray, List.set_cons_zero, List.set_cons_succ]|(simp only [List.setIfInBounds_toArray, List.set_cons_zero, List.set_cons_succ];exact rfl)|exact rfl);(with_reducible first|exact one2|exact one24)));(try clear K);(try clear ww);intro ww K;(try simp [go_sem] at K)))
      go_ret
      exact ⟨rfl, K.below⟩
end Go.Proofs.Ytpejoaefnnbghaa
namespace Go.Proofs.Ytpejoaefnnbghaa
open Go.RowKit
attribute [local irreducible] wpHeld wpTree wpList
attribute [local go_sem] Oper.semAt_some
set_option linter.unusedVariables false
def edP (p q : Nat) (zs : List Int) (k : Nat) : Int := lsum (edS p q) ((pls zs).take k)
section
variable {p q k : Nat} {zs : List Int} {x : Nat × Int}
theorem edP_snoc (hx : (pls zs)[k]? = some x) : edP p q zs (k + 1) = edP p q zs k + edS p q x := by unfold edP; rw [lsum_snoc hx]
theorem Gr.edP_bd (G : Gr p q zs) : 0 ≤ edP p q zs k ∧ edP p q zs k ≤ 1073741824 := G.ed_takeP k
theorem Gr.edP_end (G : Gr p q zs) : edP p q zs (pls zs).length = edge15 zs p q := by unfold edP; rw [List.take_length]; exact G.ed_pls
end
set_option maxRecDepth 100000 in
set_option maxHeartbeats 4000000 in
theorem Edge15 (p q : Nat) (X Y S : Int) (A : Option Addr) (n c : Nat) (zs : List Int) (w : World) (hG : Gr p q zs) (hl : zs.length = n) (h : Rd w A n (ints .i64 zs)) :
    Calls Try.prog 26 #[.agg #[.int .i64 p, .int .i64 q, .int .i64 X, .int .i64 Y, .int .i64 S, .slice A n c]] w fun e w' => e = .returned (.int .i64 (edge15 zs p q)) ∧ Below w.heap.size w w' := by
  have K := St.start w
  have HG := Lib.hid hG
  have HR := Lib.hid h
  have hp := hG.w0
  have hp2 := hG.w1
  have hq := hG.h0
  have hq2 := hG.h1
  have PG := fun b => places_gives b p q X Y S A n c zs hG.w0 hG.w1 hl (by have := hG.n2; omega)
  have PG := Lib.hid PG
  obtain ⟨r, hr⟩ : ∃ r, edge15 zs p q = r := ⟨_, rfl⟩
  rw [hr]
  clear hl h hG
  refine calls_of_wp_marks Try.func26 rfl ?_; simp only [Try.ntmps26, List.size_toArray, List.length_cons, List.length_nil, Nat.reduceAdd, Nat.reduceSub, Array.replicate_succ, Array.replicate_zero, List.push_toArray, List.append_toArray, List.nil_append, List.cons_append]
  go_wp2_with (first|go_big_skip|((with_reducible refine at_load ?_);first|(refine wm_load (cs := ?_) (t := ?_) (n := ?_) K rfl _ _ rfl rfl ?_ ?_ ?_ ?_;rotate_left 2;(repeat (first|exact At.hd|refine At.tl ?_));rotate_left;(with_reducible first|exact row26|exact row98);(solve|exact rfl|simp))|(refine wm_own (cs := ?_) (t := ?_) (v := ?_) K rfl _ _ rfl rfl ?_ ?_ ?_ ?_;rotate_left 2;(repeat (first|exact At.hd|refine At.tl ?_));rotate_left;(first|exact rfl|assumption);(with_reducible first|exact one2|exact one3))|(refine wm_cell (v := ?_) rfl _ _ rfl rfl ?_ ?_ ?_;rotate_left;(first|assumption|exact (K.below.cell (by assumption)).trans (by assumption));(with_reducible first|exact one2|exact one3)))|((with_reducible refine at_store ?_);(first|(refine wm_store (L' := ?_) (cs := ?_) (t := ?_) (n := ?_) K rfl _ _ _ rfl rfl rfl rfl ?_ ?_ ?_ ?_ ?_ ?_;rotate_left 3;(repeat (first|exact Put.hd|(refine Put.tl (L' := ?_) ?_;rotate_left)));rotate_left;(with_reducible first|exact row26|exact row98);(solve|exact rfl|simp);(solve|exact rfl|simp);(solve|exact rfl|simp [Ones, Value.oneCell']))|(refine wm_put (L' := ?_) (cs := ?_) (new := ?_) (t := ?_) K rfl _ _ _ rfl rfl rfl rfl ?_ ?_ ?_ ?_ rfl rfl ?_;rotate_left 4;(repeat (first|exact Put.hd|(refine Put.tl (L' := ?_) ?_;rotate_left)));(solve|exact Nat.le_of_ble_eq_true rfl|decide|(simp only [List.size_toArray, nums_length];first|assumption|omega)|(simp only [List.size_toArray, nums_length, List.length_set];first|assumption|omega)|simp|omega|(simp only [List.size_toArray, nums_length];omega)|assumption);(solve|(simp only [List.setIfInBounds_toArray];exact rfl)|exact nums_set _ _ _ _|simp only [List.setIfInBounds_toArray, List.set_cons_zero]|simp only [List.setIfInBounds_toArray, List.set_cons_zero, List.set_cons_succ]|(simp only [List.setIfInBounds_toArray, List.set_cons_zero, List.set_cons_succ];exact rfl)|exact rfl);(with_reducible first|exact one2|exact one3)));(try clear K);(try clear ww);intro ww K;(try simp [go_sem] at K))|((first|((with_reducible refine at_box ?_);refine wm_box K rfl _ _ rfl rfl rfl ?_)|((with_reducible refine at_alloc ?_);refine wm_alloc (v := ?_) (cs := ?_) K rfl _ rfl ?_ ?_ ?_;rotate_left;(with_reducible first|exact zero2|exact zero98);rotate_left;exact rfl));(try clear K);(try clear ww);(first|((fail_if_success (have _h := b1));intro b1 ww K)|((fail_if_success (have _h := b3));intro b3 ww K));(try simp [go_sem, Value.cells] at K))|(go_at_call 56;have zz := places15 K p q X Y S A n c;(with_reducible refine zz.mono ?_);clear zz;rintro e w2 ⟨bb, rfl, K2⟩;(try dsimp only);replace K := K2;clear K2;(try clear ww);revert w2;intro ww K))
  refine wm_range (α := Nat × Int) 9 rfl (enters_of Try.func100 (by kernel_rfl) rfl) (PG.out bb) (fun _ => rfl) (fun k V => St w.heap.size w [(bb, #[.int .i64 p, .int .i64 q, .int .i64 X, .int .i64 Y, .int .i64 S, .slice A n c], 26), (b3, #[.int .i64 (edP p q zs k)], 2), (b1, #[.int .i64 p, .int .i64 q, .int .i64 X, .int .i64 Y, .int .i64 S, .slice A n c], 26)] Any V) (fun _ _ => False) (fun k => stable_st K.size firm_any) (fun _ => stable_false) (fun k V K => ⟨K.get .hd, HR.out.below K.below⟩) K ?round ?done ?stop
  case round =>
    intro lo0 k x V KK hlo hx K1 hK
    obtain ⟨z0, u0, v0⟩ := HG.out.pl_bd hx
    have ec := edP_snoc (p := p) (q := q) hx
    have c0 := HG.out.edP_bd (k := k)
    have c1 := HG.out.edP_bd (k := k + 1)
    have hD := K.size
    generalize ww.heap.size = D at *
    clear K hx
    replace K := K1.keepsFrom D
    clear K1
    simp only [encP, List.zip_toArray, List.zip_cons_cons, List.zip_nil_right, List.size_toArray]
    unfold edS onE at ec
    generalize xv p x = u at *
    generalize yv p x = v at *
    generalize x.2 = z at *
    clear x
    obtain ⟨p1, hp1⟩ : ∃ p1, (p : Int) - 1 = p1 := ⟨_, rfl⟩
    obtain ⟨q1, hq1⟩ : ∃ q1, (q : Int) - 1 = q1 := ⟨_, rfl⟩
    obtain ⟨f3, f4⟩ := wrapI hp1 (by omega) (by omega)
    obtain ⟨f5, f6⟩ := wrapI hq1 (by omega) (by omega)
    rw [hp1, hq1] at ec
    clear hp hp2 hq hq2 hp1 hq1
    by_cases h1 : u = 0
    · have t1 : decide (u = 0) = true := decide_eq_true h1
      have t1n : (u == 0) = true := beq_iff_eq.2 h1
      rw [if_pos (by rw [t1]; simp)] at ec
      obtain ⟨f1, f2⟩ := wrapI ec.symm (by omega) (by omega)
      clear ec c0 c1
      skip
      gi_wp2_with ((refine rin_step (fun c e => by cases e) ?_;go_wp2_with (first|go_big_skip|((with_reducible refine at_load ?_);first|(refine wm_load (cs := ?_) (t := ?_) (n := ?_) K rfl _ _ rfl rfl ?_ ?_ ?_ ?_;rotate_left 2;(repeat (first|exact At.hd|refine At.tl ?_));rotate_left;(with_reducible first|exact row26|exact row98);(solve|exact rfl|simp))|(refine wm_own (cs := ?_) (t := ?_) (v := ?_) K rfl _ _ rfl rfl ?_ ?_ ?_ ?_;rotate_left 2;(repeat (first|exact At.hd|refine At.tl ?_));rotate_left;(first|exact rfl|assumption);(with_reducible first|exact one2|exact one3))|(refine wm_cell (v := ?_) rfl _ _ rfl rfl ?_ ?_ ?_;rotate_left;(first|assumption|exact (K.below.cell (by assumption)).trans (by assumption));(with_reducible first|exact one2|exact one3)))|((with_reducible refine at_store ?_);(first|(refine wm_store (L' := ?_) (cs := ?_) (t := ?_) (n := ?_) K rfl _ _ _ rfl rfl rfl rfl ?_ ?_ ?_ ?_ ?_ ?_;rotate_left 3;(repeat (first|exact Put.hd|(refine Put.tl (L' := ?_) ?_;rotate_left)));rotate_left;(with_reducible first|exact row26|exact row98);(solve|exact rfl|simp);(solve|exact rfl|simp);(solve|exact rfl|simp [Ones, Value.oneCell']))|(refine wm_put (L' := ?_) (cs := ?_) (new := ?_) (t := ?_) K rfl _ _ _ rfl rfl rfl rfl ?_ ?_ ?_ ?_ rfl rfl ?_;rotate_left 4;(repeat (first|exact Put.hd|(refine Put.tl (L' := ?_) ?_;rotate_left)));(solve|exact Nat.le_of_ble_eq_true rfl|decide|(simp only [List.size_toArray, nums_length];first|assumption|omega)|(simp only [List.size_toArray, nums_length, List.length_set];first|assumption|omega)|simp|omega|(simp only [List.size_toArray, nums_length];omega)|assumption);(solve|(simp only [List.setIfInBounds_toArray];exact rfl)|exact nums_set _ _ _ _|simp only [List.setIfInBounds_toArray, List.set_cons_zero]|simp only [List.setIfInBounds_toArray, List.set_cons_zero, List.set_cons_succ]|(simp only [List.setIfInBounds_toArray, List.set_cons_zero, List.set_cons_succ];exact rfl)|exact rfl);(with_reducible first|exact one2|exact one3)));(try clear K);(try clear ww);intro ww K;(try simp [go_sem] at K))|((first|((with_reducible refine at_box ?_);refine wm_box K rfl _ _ rfl rfl rfl ?_)|((with_reducible refine at_alloc ?_);refine wm_alloc (v := ?_) (cs := ?_) K rfl _ rfl ?_ ?_ ?_;rotate_left;(with_reducible first|exact zero2|exact zero98);rotate_left;exact rfl));(try clear K);(try clear ww);((fail_if_success (have _h := b4));intro b4 ww K);(try simp [go_sem, Value.cells] at K))));refine qn_out ?_)
      refine hK _ _ K.fact.1 (fun W2 r o o' hr ho hc e => ?_); replace K := K.begun hD firm_any hr ho hc e; clear hr ho hc e hK
      gi_wp2_with ((refine rin_step (fun c e => by cases e) ?_;go_wp2_with (first|go_big_skip|((with_reducible refine at_load ?_);first|(refine wm_load (cs := ?_) (t := ?_) (n := ?_) K rfl _ _ rfl rfl ?_ ?_ ?_ ?_;rotate_left 2;(repeat (first|exact At.hd|refine At.tl ?_));rotate_left;(with_reducible first|exact row26|exact row98);(solve|exact rfl|simp))|(refine wm_own (cs := ?_) (t := ?_) (v := ?_) K rfl _ _ rfl rfl ?_ ?_ ?_ ?_;rotate_left 2;(repeat (first|exact At.hd|refine At.tl ?_));rotate_left;(first|exact rfl|assumption);(with_reducible first|exact one2|exact one3))|(refine wm_cell (v := ?_) rfl _ _ rfl rfl ?_ ?_ ?_;rotate_left;(first|assumption|exact (K.below.cell (by assumption)).trans (by assumption));(with_reducible first|exact one2|exact one3)))|((with_reducible refine at_store ?_);(first|(refine wm_store (L' := ?_) (cs := ?_) (t := ?_) (n := ?_) K rfl _ _ _ rfl rfl rfl rfl ?_ ?_ ?_ ?_ ?_ ?_;rotate_left 3;(repeat (first|exact Put.hd|(refine Put.tl (L' := ?_) ?_;rotate_left)));rotate_left;(with_reducible first|exact row26|exact row98);(solve|exact rfl|simp);(solve|exact rfl|simp);(solve|exact rfl|simp [Ones, Value.oneCell']))|(refine wm_put (L' := ?_) (cs := ?_) (new := ?_) (t := ?_) K rfl _ _ _ rfl rfl rfl rfl ?_ ?_ ?_ ?_ rfl rfl ?_;rotate_left 4;(repeat (first|exact Put.hd|(refine Put.tl (L' := ?_) ?_;rotate_left)));(solve|exact Nat.le_of_ble_eq_true rfl|decide|(simp only [List.size_toArray, nums_length];first|assumption|omega)|(simp only [List.size_toArray, nums_length, List.length_set];first|assumption|omega)|simp|omega|(simp only [List.size_toArray, nums_length];omega)|assumption);(solve|(simp only [List.setIfInBounds_toArray];exact rfl)|exact nums_set _ _ _ _|simp only [List.setIfInBounds_toArray, List.set_cons_zero]|simp only [List.setIfInBounds_toArray, List.set_cons_zero, List.set_cons_succ]|(simp only [List.setIfInBounds_toArray, List.set_cons_zero, List.set_cons_succ];exact rfl)|exact rfl);(with_reducible first|exact one2|exact one3)));(try clear K);(try clear ww);intro ww K;(try simp [go_sem] at K))|((first|((with_reducible refine at_box ?_);refine wm_box K rfl _ _ rfl rfl rfl ?_)|((with_reducible refine at_alloc ?_);refine wm_alloc (v := ?_) (cs := ?_) K rfl _ rfl ?_ ?_ ?_;rotate_left;(with_reducible first|exact zero2|exact zero98);rotate_left;exact rfl));(try clear K);(try clear ww);((fail_if_success (have _h := b4));intro b4 ww K);(try simp [go_sem, Value.cells] at K))));refine qn_out ?_)
      exact ⟨K.fact.1, K.tail.weak fun _ h => h.2⟩
    · have t1 : decide (u = 0) = false := decide_eq_false h1
      have t1n : (u == 0) = false := beq_eq_false_iff_ne.2 h1
      by_cases h2 : v = 0
      · have t2 : decide (v = 0) = true := decide_eq_true h2
        have t2n : (v == 0) = true := beq_iff_eq.2 h2
        rw [if_pos (by rw [t1, t2]; simp)] at ec
        obtain ⟨f1, f2⟩ := wrapI ec.symm (by omega) (by omega)
        clear ec c0 c1
        clear h1
        gi_wp2_with ((refine rin_step (fun c e => by cases e) ?_;go_wp2_with (first|go_big_skip|((with_reducible refine at_load ?_);first|(refine wm_load (cs := ?_) (t := ?_) (n := ?_) K rfl _ _ rfl rfl ?_ ?_ ?_ ?_;rotate_left 2;(repeat (first|exact At.hd|refine At.tl ?_));rotate_left;(with_reducible first|exact row26|exact row98);(solve|exact rfl|simp))|(refine wm_own (cs := ?_) (t := ?_) (v := ?_) K rfl _ _ rfl rfl ?_ ?_ ?_ ?_;rotate_left 2;(repeat (first|exact At.hd|refine At.tl ?_));rotate_left;(first|exact rfl|assumption);(with_reducible first|exact one2|exact one3))|(refine wm_cell (v := ?_) rfl _ _ rfl rfl ?_ ?_ ?_;rotate_left;(first|assumption|exact (K.below.cell (by assumption)).trans (by assumption));(with_reducible first|exact one2|exact one3)))|((with_reducible refine at_store ?_);(first|(refine wm_store (L' := ?_) (cs := ?_) (t := ?_) (n := ?_) K rfl _ _ _ rfl rfl rfl rfl ?_ ?_ ?_ ?_ ?_ ?_;rotate_left 3;(repeat (first|exact Put.hd|(refine Put.tl (L' := ?_) ?_;rotate_left)));rotate_left;(with_reducible first|exact row26|exact row98);(solve|exact rfl|simp);(solve|exact rfl|simp);(solve|exact rfl|simp [Ones, Value.oneCell']))|(refine wm_put (L' := ?_) (cs := ?_) (new := ?_) (t := ?_) K rfl _ _ _ rfl rfl rfl rfl ?_ ?_ ?_ ?_ rfl rfl ?_;rotate_left 4;(repeat (first|exact Put.hd|(refine Put.tl (L' := ?_) ?_;rotate_left)));(solve|exact Nat.le_of_ble_eq_true rfl|decide|(simp only [List.size_toArray, nums_length];first|assumption|omega)|(simp only [List.size_toArray, nums_length, List.length_set];first|assumption|omega)|simp|omega|(simp only [List.size_toArray, nums_length];omega)|assumption);(solve|(simp only [List.setIfInBounds_toArray];exact rfl)|exact nums_set _ _ _ _|simp only [List.setIfInBounds_toArray, List.set_cons_zero]|simp only [List.setIfInBounds_toArray, List.set_cons_zero, List.set_cons_succ]|(simp only [List.setIfInBounds_toArray, List.set_cons_zero, List.set_cons_succ];exact rfl)|exact rfl);(with_reducible first|exact one2|exact one3)));(try clear K);(try clear ww);intro ww K;(try simp [go_sem] at K))|((first|((with_reducible refine at_box ?_);refine wm_box K rfl _ _ rfl rfl rfl ?_)|((with_reducible refine at_alloc ?_);refine wm_alloc (v := ?_) (cs := ?_) K rfl _ rfl ?_ ?_ ?_;rotate_left;(with_reducible first|exact zero2|exact zero98);rotate_left;exact rfl));(try clear K);(try clear ww);((fail_if_success (have _h := b4));intro b4 ww K);(try simp [go_sem, Value.cells] at K))));refine qn_out ?_)
        refine hK _ _ K.fact.1 (fun W2 r o o' hr ho hc e => ?_); replace K := K.begun hD firm_any hr ho hc e; clear hr ho hc e hK
        gi_wp2_with ((refine rin_step (fun c e => by cases e) ?_;go_wp2_with (first|go_big_skip|((with_reducible refine at_load ?_);first|(refine wm_load (cs := ?_) (t := ?_) (n := ?_) K rfl _ _ rfl rfl ?_ ?_ ?_ ?_;rotate_left 2;(repeat (first|exact At.hd|refine At.tl ?_));rotate_left;(with_reducible first|exact row26|exact row98);(solve|exact rfl|simp))|(refine wm_own (cs := ?_) (t := ?_) (v := ?_) K rfl _ _ rfl rfl ?_ ?_ ?_ ?_;rotate_left 2;(repeat (first|exact At.hd|refine At.tl ?_));rotate_left;(first|exact rfl|assumption);(with_reducible first|exact one2|exact one3))|(refine wm_cell (v := ?_) rfl _ _ rfl rfl ?_ ?_ ?_;rotate_left;(first|assumption|exact (K.below.cell (by assumption)).trans (by assumption));(with_reducible first|exact one2|exact one3)))|((with_reducible refine at_store ?_);(first|(refine wm_store (L' := ?_) (cs := ?_) (t := ?_) (n := ?_) K rfl _ _ _ rfl rfl rfl rfl ?_ ?_ ?_ ?_ ?_ ?_;rotate_left 3;(repeat (first|exact Put.hd|(refine Put.tl (L' := ?_) ?_;rotate_left)));rotate_left;(with_reducible first|exact row26|exact row98);(solve|exact rfl|simp);(solve|exact rfl|simp);(solve|exact rfl|simp [Ones, Value.oneCell']))|(refine wm_put (L' := ?_) (cs := ?_) (new := ?_) (t := ?_) K rfl _ _ _ rfl rfl rfl rfl ?_ ?_ ?_ ?_ rfl rfl ?_;rotate_left 4;(repeat (first|exact Put.hd|(refine Put.tl (L' := ?_) ?_;rotate_left)));(solve|exact Nat.le_of_ble_eq_true rfl|decide|(simp only [List.size_toArray, nums_length];first|assumption|omega)|(simp only [List.size_toArray, nums_length, List.length_set];first|assumption|omega)|simp|omega|(simp only [List.size_toArray, nums_length];omega)|assumption);(solve|(simp only [List.setIfInBounds_toArray];exact rfl)|exact nums_set _ _ _ _|simp only [List.setIfInBounds_toArray, List.set_cons_zero]|simp only [List.setIfInBounds_toArray, List.set_cons_zero, List.set_cons_succ]|(simp only [List.setIfInBounds_toArray, List.set_cons_zero, List.set_cons_succ];exact rfl)|exact rfl);(with_reducible first|exact one2|exact one3)));(try clear K);(try clear ww);intro ww K;(try simp [go_sem] at K))|((first|((with_reducible refine at_box ?_);refine wm_box K rfl _ _ rfl rfl rfl ?_)|((with_reducible refine at_alloc ?_);refine wm_alloc (v := ?_) (cs := ?_) K rfl _ rfl ?_ ?_ ?_;rotate_left;(with_reducible first|exact zero2|exact zero98);rotate_left;exact rfl));(try clear K);(try clear ww);((fail_if_success (have _h := b4));intro b4 ww K);(try simp [go_sem, Value.cells] at K))));refine qn_out ?_)
        exact ⟨K.fact.1, K.tail.weak fun _ h => h.2⟩
      · have t2 : decide (v = 0) = false := decide_eq_false h2
        have t2n : (v == 0) = false := beq_eq_false_iff_ne.2 h2
        by_cases h3 : u = p1
        · have t3 : decide (u = p1) = true := decide_eq_true h3
          have t3n : (u == p1) = true := beq_iff_eq.2 h3
          rw [if_pos (by rw [t1, t2, t3]; simp)] at ec
          obtain ⟨f1, f2⟩ := wrapI ec.symm (by omega) (by omega)
          clear ec c0 c1
          clear t3 t3n h1 h2; subst h3
          gi_wp2_with ((refine rin_step (fun c e => by cases e) ?_;go_wp2_with (first|go_big_skip|((with_reducible refine at_load ?_);first|(refine wm_load (cs := ?_) (t := ?_) (n := ?_) K rfl _ _ rfl rfl ?_ ?_ ?_ ?_;rotate_left 2;(repeat (first|exact At.hd|refine At.tl ?_));rotate_left;(with_reducible first|exact row26|exact row98);(solve|exact rfl|simp))|(refine wm_own (cs := ?_) (t := ?_) (v := ?_) K rfl _ _ rfl rfl ?_ ?_ ?_ ?_;rotate_left 2;(repeat (first|exact At.hd|refine At.tl ?_));rotate_left;(first|exact rfl|assumption);(with_reducible first|exact one2|exact one3))|(refine wm_cell (v := ?_) rfl _ _ rfl rfl ?_ ?_ ?_;rotate_left;(first|assumption|exact (K.below.cell (by assumption)).trans (by assumption));(with_reducible first|exact one2|exact one3)))|((with_reducible refine at_store ?_);(first|(refine wm_store (L' := ?_) (cs := ?_) (t := ?_) (n := ?_) K rfl _ _ _ rfl rfl rfl rfl ?_ ?_ ?_ ?_ ?_ ?_;rotate_left 3;(repeat (first|exact Put.hd|(refine Put.tl (L' := ?_) ?_;rotate_left)));rotate_left;(with_reducible first|exact row26|exact row98);(solve|exact rfl|simp);(solve|exact rfl|simp);(solve|exact rfl|simp [Ones, Value.oneCell']))|(refine wm_put (L' := ?_) (cs := ?_) (new := ?_) (t := ?_) K rfl _ _ _ rfl rfl rfl rfl ?_ ?_ ?_ ?_ rfl rfl ?_;rotate_left 4;(repeat (first|exact Put.hd|(refine Put.tl (L' := ?_) ?_;rotate_left)));(solve|exact Nat.le_of_ble_eq_true rfl|decide|(simp only [List.size_toArray, nums_length];first|assumption|omega)|(simp only [List.size_toArray, nums_length, List.length_set];first|assumption|omega)|simp|omega|(simp only [List.size_toArray, nums_length];omega)|assumption);(solve|(simp only [List.setIfInBounds_toArray];exact rfl)|exact nums_set _ _ _ _|simp only [List.setIfInBounds_toArray, List.set_cons_zero]|simp only [List.setIfInBounds_toArray, List.set_cons_zero, List.set_cons_succ]|(simp only [List.setIfInBounds_toArray, List.set_cons_zero, List.set_cons_succ];exact rfl)|exact rfl);(with_reducible first|exact one2|exact one3)));(try clear K);(try clear ww);intro ww K;(try simp [go_sem] at K))|((first|((with_reducible refine at_box ?_);refine wm_box K rfl _ _ rfl rfl rfl ?_)|((with_reducible refine at_alloc ?_);refine wm_alloc (v := ?_) (cs := ?_) K rfl _ rfl ?_ ?_ ?_;rotate_left;(with_reducible first|exact zero2|exact zero98);rotate_left;exact rfl));(try clear K);(try clear ww);((fail_if_success (have _h := b4));intro b4 ww K);(try simp [go_sem, Value.cells] at K))));refine qn_out ?_)
          refine hK _ _ K.fact.1 (fun W2 r o o' hr ho hc e => ?_); replace K := K.begun hD firm_any hr ho hc e; clear hr ho hc e hK
          gi_wp2_with ((refine rin_step (fun c e => by cases e) ?_;go_wp2_with (first|go_big_skip|((with_reducible refine at_load ?_);first|(refine wm_load (cs := ?_) (t := ?_) (n := ?_) K rfl _ _ rfl rfl ?_ ?_ ?_ ?_;rotate_left 2;(repeat (first|exact At.hd|refine At.tl ?_));rotate_left;(with_reducible first|exact row26|exact row98);(solve|exact rfl|simp))|(refine wm_own (cs := ?_) (t := ?_) (v := ?_) K rfl _ _ rfl rfl ?_ ?_ ?_ ?_;rotate_left 2;(repeat (first|exact At.hd|refine At.tl ?_));rotate_left;(first|exact rfl|assumption);(with_reducible first|exact one2|exact one3))|(refine wm_cell (v := ?_) rfl _ _ rfl rfl ?_ ?_ ?_;rotate_left;(first|assumption|exact (K.below.cell (by assumption)).trans (by assumption));(with_reducible first|exact one2|exact one3)))|((with_reducible refine at_store ?_);(first|(refine wm_store (L' := ?_) (cs := ?_) (t := ?_) (n := ?_) K rfl _ _ _ rfl rfl rfl rfl ?_ ?_ ?_ ?_ ?_ ?_;rotate_left 3;(repeat (first|exact Put.hd|(refine Put.tl (L' := ?_) ?_;rotate_left)));rotate_left;(with_reducible first|exact row26|exact row98);(solve|exact rfl|simp);(solve|exact rfl|simp);(solve|exact rfl|simp [Ones, Value.oneCell']))|(refine wm_put (L' := ?_) (cs := ?_) (new := ?_) (t := ?_) K rfl _ _ _ rfl rfl rfl rfl ?_ ?_ ?_ ?_ rfl rfl ?_;rotate_left 4;(repeat (first|exact Put.hd|(refine Put.tl (L' := ?_) ?_;rotate_left)));(solve|exact Nat.le_of_ble_eq_true rfl|decide|(simp only [List.size_toArray, nums_length];first|assumption|omega)|(simp only [List.size_toArray, nums_length, List.length_set];first|assumption|omega)|simp|omega|(simp only [List.size_toArray, nums_length];omega)|assumption);(solve|(simp only [List.setIfInBounds_toArray];exact rfl)|exact nums_set _ _ _ _|simp only [List.setIfInBounds_toArray, List.set_cons_zero]|simp only [List.setIfInBounds_toArray, List.set_cons_zero, List.set_cons_succ]|(simp only [List.setIfInBounds_toArray, List.set_cons_zero, List.set_cons_succ];exact rfl)|exact rfl);(with_reducible first|exact one2|exact one3)));(try clear K);(try clear ww);intro ww K;(try simp [go_sem] at K))|((first|((with_reducible refine at_box ?_);refine wm_box K rfl _ _ rfl rfl rfl ?_)|((with_reducible refine at_alloc ?_);refine wm_alloc (v := ?_) (cs := ?_) K rfl _ rfl ?_ ?_ ?_;rotate_left;(with_reducible first|exact zero2|exact zero98);rotate_left;exact rfl));(try clear K);(try clear ww);((fail_if_success (have _h := b4));intro b4 ww K);(try simp [go_sem, Value.cells] at K))));refine qn_out ?_)
          exact ⟨K.fact.1, K.tail.weak fun _ h => h.2⟩
        · have t3 : decide (u = p1) = false := decide_eq_false h3
          have t3n : (u == p1) = false := beq_eq_false_iff_ne.2 h3
          by_cases h4 : v = q1
          · have t4 : decide (v = q1) = true := decide_eq_true h4
            have t4n : (v == q1) = true := beq_iff_eq.2 h4
            rw [if_pos (by rw [t1, t2, t3, t4]; simp)] at ec
            obtain ⟨f1, f2⟩ := wrapI ec.symm (by omega) (by omega)
            clear ec c0 c1
            clear t4 t4n h1 h2 h3; subst h4
            gi_wp2_with ((refine rin_step (fun c e => by cases e) ?_;go_wp2_with (first|go_big_skip|((with_reducible refine at_load ?_);first|(refine wm_load (cs := ?_) (t := ?_) (n := ?_) K rfl _ _ rfl rfl ?_ ?_ ?_ ?_;rotate_left 2;(repeat (first|exact At.hd|refine At.tl ?_));rotate_left;(with_reducible first|exact row26|exact row98);(solve|exact rfl|simp))|(refine wm_own (cs := ?_) (t := ?_) (v := ?_) K rfl _ _ rfl rfl ?_ ?_ ?_ ?_;rotate_left 2;(repeat (first|exact At.hd|refine At.tl ?_));rotate_left;(first|exact rfl|assumption);(with_reducible first|exact one2|exact one3))|(refine wm_cell (v := ?_) rfl _ _ rfl rfl ?_ ?_ ?_;rotate_left;(first|assumption|exact (K.below.cell (by assumption)).trans (by assumption));(with_reducible first|exact one2|exact one3)))|((with_reducible refine at_store ?_);(first|(refine wm_store (L' := ?_) (cs := ?_) (t := ?_) (n := ?_) K rfl _ _ _ rfl rfl rfl rfl ?_ ?_ ?_ ?_ ?_ ?_;rotate_left 3;(repeat (first|exact Put.hd|(refine Put.tl (L' := ?_) ?_;rotate_left)));rotate_left;(with_reducible first|exact row26|exact row98);(solve|exact rfl|simp);(solve|exact rfl|simp);(solve|exact rfl|simp [Ones, Value.oneCell']))|(refine wm_put (L' := ?_) (cs := ?_) (new := ?_) (t := ?_) K rfl _ _ _ rfl rfl rfl rfl ?_ ?_ ?_ ?_ rfl rfl ?_;rotate_left 4;(repeat (first|exact Put.hd|(refine Put.tl (L' := ?_) ?_;rotate_left)));(solve|exact Nat.le_of_ble_eq_true rfl|decide|(simp only [List.size_toArray, nums_length];first|assumption|omega)|(simp only [List.size_toArray, nums_length, List.length_set];first|assumption|omega)|simp|omega|(simp only [List.size_toArray, nums_length];omega)|assumption);(solve|(simp only [List.setIfInBounds_toArray];exact rfl)|exact nums_set _ _ _ _|simp only [List.setIfInBounds_toArray, List.set_cons_zero]|simp only [List.setIfInBounds_toArray, List.set_cons_zero, List.set_cons_succ]|(simp only [List.setIfInBounds_toArray, List.set_cons_zero, List.set_cons_succ];exact rfl)|exact rfl);(with_reducible first|exact one2|exact one3)));(try clear K);(try clear ww);intro ww K;(try simp [go_sem] at K))|((first|((with_reducible refine at_box ?_);refine wm_box K rfl _ _ rfl rfl rfl ?_)|((with_reducible refine at_alloc ?_);refine wm_alloc (v := ?_) (cs := ?_) K rfl _ rfl ?_ ?_ ?_;rotate_left;(with_reducible first|exact zero2|exact zero98);rotate_left;exact rfl));(try clear K);(try clear ww);((fail_if_success (have _h := b4));intro b4 ww K);(try simp [go_sem, Value.cells] at K))));refine qn_out ?_)
            refine hK _ _ K.fact.1 (fun W2 r o o' hr ho hc e => ?_); replace K := K.begun hD firm_any hr ho hc e; clear hr ho hc e hK
            gi_wp2_with ((refine rin_step (fun c e => by cases e) ?_;go_wp2_with (first|go_big_skip|((with_reducible refine at_load ?_);first|(refine wm_load (cs := ?_) (t := ?_) (n := ?_) K rfl _ _ rfl rfl ?_ ?_ ?_ ?_;rotate_left 2;(repeat (first|exact At.hd|refine At.tl ?_));rotate_left;(with_reducible first|exact row26|exact row98);(solve|exact rfl|simp))|(refine wm_own (cs := ?_) (t := ?_) (v := ?_) K rfl _ _ rfl rfl ?_ ?_ ?_ ?_;rotate_left 2;(repeat (first|exact At.hd|refine At.tl ?_));rotate_left;(first|exact rfl|assumption);(with_reducible first|exact one2|exact one3))|(refine wm_cell (v := ?_) rfl _ _ rfl rfl ?_ ?_ ?_;rotate_left;(first|assumption|exact (K.below.cell (by assumption)).trans (by assumption));(with_reducible first|exact one2|exact one3)))|((with_reducible refine at_store ?_);(first|(refine wm_store (L' := ?_) (cs := ?_) (t := ?_) (n := ?_) K rfl _ _ _ rfl rfl rfl rfl ?_ ?_ ?_ ?_ ?_ ?_;rotate_left 3;(repeat (first|exact Put.hd|(refine Put.tl (L' := ?_) ?_;rotate_left)));rotate_left;(with_reducible first|exact row26|exact row98);(solve|exact rfl|simp);(solve|exact rfl|simp);(solve|exact rfl|simp [Ones, Value.oneCell']))|(refine wm_put (L' := ?_) (cs := ?_) (new := ?_) (t := ?_) K rfl _ _ _ rfl rfl rfl rfl ?_ ?_ ?_ ?_ rfl rfl ?_;rotate_left 4;(repeat (first|exact Put.hd|(refine Put.tl (L' := ?_) ?_;rotate_left)));(solve|exact Nat.le_of_ble_eq_true rfl|decide|(simp only [List.size_toArray, nums_length];first|assumption|omega)|(simp only [List.size_toArray, nums_length, List.length_set];first|assumption|omega)|simp|omega|(simp only [List.size_toArray, nums_length];omega)|assumption);(solve|(simp only [List.setIfInBounds_toArray];exact rfl)|exact nums_set _ _ _ _|simp only [List.setIfInBounds_toArray, List.set_cons_zero]|simp only [List.setIfInBounds_toArray, List.set_cons_zero, List.set_cons_succ]|(simp only [List.setIfInBounds_toArray, List.set_cons_zero, List.set_cons_succ];exact rfl)|exact rfl);(with_reducible first|exact one2|exact one3)));(try clear K);(try clear ww);intro ww K;(try simp [go_sem] at K))|((first|((with_reducible refine at_box ?_);refine wm_box K rfl _ _ rfl rfl rfl ?_)|((with_reducible refine at_alloc ?_);refine wm_alloc (v := ?_) (cs := ?_) K rfl _ rfl ?_ ?_ ?_;rotate_left;(with_reducible first|exact zero2|exact zero98);rotate_left;exact rfl));(try clear K);(try clear ww);((fail_if_success (have _h := b4));intro b4 ww K);(try simp [go_sem, Value.cells] at K))));refine qn_out ?_)
            exact ⟨K.fact.1, K.tail.weak fun _ h => h.2⟩
          · have t4 : decide (v = q1) = false := decide_eq_false h4
            have t4n : (v == q1) = false := beq_eq_false_iff_ne.2 h4
            rw [if_neg (by rw [t1, t2, t3, t4]; simp), Int.add_zero] at ec
            have HE := Lib.hid ec
            clear ec c0 c1 h1 h2 h3 h4
            gi_wp2_with ((refine rin_step (fun c e => by cases e) ?_;go_wp2_with (first|go_big_skip|((with_reducible refine at_load ?_);first|(refine wm_load (cs := ?_) (t := ?_) (n := ?_) K rfl _ _ rfl rfl ?_ ?_ ?_ ?_;rotate_left 2;(repeat (first|exact At.hd|refine At.tl ?_));rotate_left;(with_reducible first|exact row26|exact row98);(solve|exact rfl|simp))|(refine wm_own (cs := ?_) (t := ?_) (v := ?_) K rfl _ _ rfl rfl ?_ ?_ ?_ ?_;rotate_left 2;(repeat (first|exact At.hd|refine At.tl ?_));rotate_left;(first|exact rfl|assumption);(with_reducible first|exact one2|exact one3))|(refine wm_cell (v := ?_) rfl _ _ rfl rfl ?_ ?_ ?_;rotate_left;(first|assumption|exact (K.below.cell (by assumption)).trans (by assumption));(with_reducible first|exact one2|exact one3)))|((with_reducible refine at_store ?_);(first|(refine wm_store (L' := ?_) (cs := ?_) (t := ?_) (n := ?_) K rfl _ _ _ rfl rfl rfl rfl ?_ ?_ ?_ ?_ ?_ ?_;rotate_left 3;(repeat (first|exact Put.hd|(refine Put.tl (L' := ?_) ?_;rotate_left)));rotate_left;(with_reducible first|exact row26|exact row98);(solve|exact rfl|simp);(solve|exact rfl|simp);(solve|exact rfl|simp [Ones, Value.oneCell']))|(refine wm_put (L' := ?_) (cs := ?_) (new := ?_) (t := ?_) K rfl _ _ _ rfl rfl rfl rfl ?_ ?_ ?_ ?_ rfl rfl ?_;rotate_left 4;(repeat (first|exact Put.hd|(refine Put.tl (L' := ?_) ?_;rotate_left)));(solve|exact Nat.le_of_ble_eq_true rfl|decide|(simp only [List.size_toArray, nums_length];first|assumption|omega)|(simp only [List.size_toArray, nums_length, List.length_set];first|assumption|omega)|simp|omega|(simp only [List.size_toArray, nums_length];omega)|assumption);(solve|(simp only [List.setIfInBounds_toArray];exact rfl)|exact nums_set _ _ _ _|simp only [List.setIfInBounds_toArray, List.set_cons_zero]|simp only [List.setIfInBounds_toArray, List.set_cons_zero, List.set_cons_succ]|(simp only [List.setIfInBounds_toArray, List.set_cons_zero, List.set_cons_succ];exact rfl)|exact rfl);(with_reducible first|exact one2|exact one3)));(try clear K);(try clear ww);intro ww K;(try simp [go_sem] at K))|((first|((with_reducible refine at_box ?_);refine wm_box K rfl _ _ rfl rfl rfl ?_)|((with_reducible refine at_alloc ?_);refine wm_alloc (v := ?_) (cs := ?_) K rfl _ rfl ?_ ?_ ?_;rotate_left;(with_reducible first|exact zero2|exact zero98);rotate_left;exact rfl));(try clear K);(try clear ww);((fail_if_success (have _h := b4));intro b4 ww K);(try simp [go_sem, Value.cells] at K))));refine qn_out ?_)
            refine hK _ _ K.fact.1 (fun W2 r o o' hr ho hc e => ?_); replace K := K.begun hD firm_any hr ho hc e; clear hr ho hc e hK
            gi_wp2_with ((refine rin_step (fun c e => by cases e) ?_;go_wp2_with (first|go_big_skip|((with_reducible refine at_load ?_);first|(refine wm_load (cs := ?_) (t := ?_) (n := ?_) K rfl _ _ rfl rfl ?_ ?_ ?_ ?_;rotate_left 2;(repeat (first|exact At.hd|refine At.tl ?_));rotate_left;(with_reducible first|exact row26|exact row98);(solve|exact rfl|simp))|(refine wm_own (cs := ?_) (t := ?_) (v := ?_) K rfl _ _ rfl rfl ?_ ?_ ?_ ?_;rotate_left 2;(repeat (first|exact At.hd|refine At.tl ?_));rotate_left;(first|exact rfl|assumption);(with_reducible first|exact one2|exact one3))|(refine wm_cell (v := ?_) rfl _ _ rfl rfl ?_ ?_ ?_;rotate_left;(first|assumption|exact (K.below.cell (by assumption)).trans (by assumption));(with_reducible first|exact one2|exact one3)))|((with_reducible refine at_store ?_);(first|(refine wm_store (L' := ?_) (cs := ?_) (t := ?_) (n := ?_) K rfl _ _ _ rfl rfl rfl rfl ?_ ?_ ?_ ?_ ?_ ?_;rotate_left 3;(repeat (first|exact Put.hd|(refine Put.tl (L' := ?_) ?_;rotate_left)));rotate_left;(with_reducible first|exact row26|exact row98);(solve|exact rfl|simp);(solve|exact rfl|simp);(solve|exact rfl|simp [Ones, Value.oneCell']))|(refine wm_put (L' := ?_) (cs := ?_) (new := ?_) (t := ?_) K rfl _ _ _ rfl rfl rfl rfl ?_ ?_ ?_ ?_ rfl rfl ?_;rotate_left 4;(repeat (first|exact Put.hd|(refine Put.tl (L' := ?_) ?_;rotate_left)));(solve|exact Nat.le_of_ble_eq_true rfl|decide|(simp only [List.size_toArray, nums_length];first|assumption|omega)|(simp only [List.size_toArray, nums_length, List.length_set];first|assumption|omega)|simp|omega|(simp only [List.size_toArray, nums_length];omega)|assumption);(solve|(simp only [List.setIfInBounds_toArray];exact rfl)|exact nums_set _ _ _ _|simp only [List.setIfInBounds_toArray, List.set_cons_zero]|simp only [List.setIfInBounds_toArray, List.set_cons_zero, List.set_cons_succ]|(simp only [List.setIfInBounds_toArray, List.set_cons_zero, List.set_cons_succ];exact rfl)|exact rfl);(with_reducible first|exact one2|exact one3)));(try clear K);(try clear ww);intro ww K;(try simp [go_sem] at K))|((first|((with_reducible refine at_box ?_);refine wm_box K rfl _ _ rfl rfl rfl ?_)|((with_reducible refine at_alloc ?_);refine wm_alloc (v := ?_) (cs := ?_) K rfl _ rfl ?_ ?_ ?_;rotate_left;(with_reducible first|exact zero2|exact zero98);rotate_left;exact rfl));(try clear K);(try clear ww);((fail_if_success (have _h := b4));intro b4 ww K);(try simp [go_sem, Value.cells] at K))));refine qn_out ?_)
            exact ⟨K.fact.1, by dsimp only; rw [HE.out]; exact K.tail.weak fun _ h => h.2⟩
  case done =>
    intro D V hD K1 hk
    rw [HG.out.edP_end, hr] at K1
    have hB := Nat.le_trans K.size hD
    clear K hD
    have K := K1.mark hk
    clear K1 hk
    revert V
    intro ww K
    go_wp2_with (first|go_big_skip|((with_reducible refine at_load ?_);first|(refine wm_load (cs := ?_) (t := ?_) (n := ?_) K rfl _ _ rfl rfl ?_ ?_ ?_ ?_;rotate_left 2;(repeat (first|exact At.hd|refine At.tl ?_));rotate_left;(with_reducible first|exact row26|exact row98);(solve|exact rfl|simp))|(refine wm_own (cs := ?_) (t := ?_) (v := ?_) K rfl _ _ rfl rfl ?_ ?_ ?_ ?_;rotate_left 2;(repeat (first|exact At.hd|refine At.tl ?_));rotate_left;(first|exact rfl|assumption);(with_reducible first|exact one2|exact one3))|(refine wm_cell (v := ?_) rfl _ _ rfl rfl ?_ ?_ ?_;rotate_left;(first|assumption|exact (K.below.cell (by assumption)).trans (by assumption));(with_reducible first|exact one2|exact one3)))|((with_reducible refine at_store ?_);(first|(refine wm_store (L' := ?_) (cs := ?_) (t := ?_) (n := ?_) K rfl _ _ _ rfl rfl rfl rfl ?_ ?_ ?_ ?_ ?_ ?_;rotate_left 3;(repeat (first|exact Put.hd|(refine Put.tl (L' := ?_) ?_;rotate_left)));rotate_left;(with_reducible first|exact row26|exact row98);(solve|exact rfl|simp);(solve|exact rfl|simp);(solve|exact rfl|simp [Ones, Value.oneCell']))|(refine wm_put (L' := ?_) (cs := ?_) (new := ?_) (t := ?_) K rfl _ _ _ rfl rfl rfl rfl ?_ ?_ ?_ ?_ rfl rfl ?_;rotate_left 4;(repeat (first|exact Put.hd|(refine Put.tl (L' := ?_) ?_;rotate_left)));(solve|exact Nat.le_of_ble_eq_true rfl|decide|(simp only [List.size_toArray, nums_length];first|assumption|omega)|(simp only [List.size_toArray, nums_length, List.length_set];first|assumption|omega)|simp|omega|(simp only [List.size_toArray, nums_length];omega)|assumption);(solve|(simp only [List.setIfInBounds_toArray];exact rfl)|exact nums_set _ _ _ _|simp only [List.setIfInBounds_toArray, List.set_cons_zero]|simp only [List.setIfInBounds_toArray, List.set_cons_zero, List.set_cons_succ]|(simp only [List.setIfInBounds_toArray, List.set_cons_zero, List.set_cons_succ];exact rfl)|exact rfl);(with_reducible first|exact one2|exact one3)));(try clear K);(try clear ww);intro ww K;(try simp [go_sem] at K)))
    exact retM1 (K.weak fun _ h => h.2) firm_any rfl hB K.fact.1 (fun w' K' => ⟨_, results_tmp rfl _ _ _, rfl, K'.below⟩)
  case stop =>
    intro D c W _ h _
    exact h.elim
end Go.Proofs.Ytpejoaefnnbghaa
