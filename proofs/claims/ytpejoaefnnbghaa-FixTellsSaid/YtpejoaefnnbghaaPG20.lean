/-
  Lemmas and walks of this claim (the texts Ma15 Mb15 Rt26 Cp26 Gt26 Fm26 Fp26 Ff26 of the work; what no proof here uses is left out). No claim of their own.
-/
import Derived.Test.YtpejoaefnnbghaaPG15
import Derived.Test.YtpejoaefnnbghaaPG8
import Derived.Test.YtpejoaefnnbghaaPG7
import Derived.Test.YtpejoaefnnbghaaPG5
import Derived.Test.YtpejoaefnnbghaaPG10
import Derived.Test.YtpejoaefnnbghaaPG2
import Derived.Test.YtpejoaefnnbghaaPG17
import Derived.Test.YtpejoaefnnbghaaPG1
import Derived.Test.YtpejoaefnnbghaaPG3
import Derived.Test.YtpejoaefnnbghaaPG6
import Derived.Lib.MinMax
import Derived.Laws.CopyOwn
import Derived.Test.YtpejoaefnnbghaaPG14
import Derived.Test.YtpejoaefnnbghaaPG12
set_option linter.all false
set_option linter.unusedSimpArgs false
set_option linter.unusedVariables false
namespace Go.Proofs.Ytpejoaefnnbghaa
open Go.RowKit
attribute [local irreducible] wpHeld wpTree wpList
attribute [local go_sem] Oper.semAt_some
set_option linter.unusedVariables false
def encP (w : Nat) (x : Nat × Int) : Array Value := #[.agg #[.int .i64 (xv w x), .int .i64 (yv w x)], .int .i64 x.2]
def PlR (b : Nat) (W H X Y S : Int) (A : Option Addr) (n c : Nat) (zs : List Int) (V : World) : Prop := Has V b #[.int .i64 W, .int .i64 H, .int .i64 X, .int .i64 Y, .int .i64 S, .slice A n c] 26 ∧ Rd V A n (ints .i64 zs)
set_option maxRecDepth 100000 in
theorem places15 {B : Nat} {w0 w : World} {F : World → Prop} {L : List Blk} (K : St B w0 L F w) (W H X Y S : Int) (A : Option Addr) (n c : Nat) :
    Calls Try.prog 56 #[.agg #[.int .i64 W, .int .i64 H, .int .i64 X, .int .i64 Y, .int .i64 S, .slice A n c]] w fun e w' => ∃ b, e = .returned (.func (.func 100) #[] #[.pointer (some ⟨b, 0, none⟩)]) ∧ St B w0 ((b, #[.int .i64 W, .int .i64 H, .int .i64 X, .int .i64 Y, .int .i64 S, .slice A n c], 26) :: L) F w' := by
  revert w
  intro ww K
  go_enter Try.func56, Try.ntmps56
  go_wp2_with (first|go_big_skip|((with_reducible refine at_load ?_);first|(refine wm_own (cs := ?_) (t := ?_) (v := ?_) K rfl _ _ rfl rfl ?_ ?_ ?_ ?_;rotate_left 2;(repeat (first|exact At.hd|refine At.tl ?_));rotate_left;(first|exact rfl|assumption);(with_reducible first|exact one2|exact one3|exact one24))|(refine wm_cell (v := ?_) rfl _ _ rfl rfl ?_ ?_ ?_;rotate_left;(first|assumption|exact (K.below.cell (by assumption)).trans (by assumption));(with_reducible first|exact one2|exact one3|exact one24)))|((with_reducible refine at_store ?_);first|(refine wm_put (L' := ?_) (cs := ?_) (new := ?_) (t := ?_) K rfl _ _ _ rfl rfl rfl rfl ?_ ?_ ?_ ?_ rfl rfl ?_;rotate_left 4;(repeat (first|exact Put.hd|(refine Put.tl (L' := ?_) ?_;rotate_left)));(solve|exact Nat.le_of_ble_eq_true rfl|decide|(simp only [List.size_toArray, nums_length];first|assumption|omega)|(simp only [List.size_toArray, nums_length, List.length_set];first|assumption|omega)|simp|omega|(simp only [List.size_toArray, nums_length];omega)|assumption);(solve|(simp only [List.setIfInBounds_toArray];exact rfl)|exact nums_set _ _ _ _|simp only [List.setIfInBounds_toArray, List.set_cons_zero]|simp only [List.setIfInBounds_toArray, List.set_cons_zero, List.set_cons_succ]|(simp only [List.setIfInBounds_toArray, List.set_cons_zero, List.set_cons_succ];exact rfl)|exact rfl);(with_reducible first|exact one2|exact one3|exact one24);(try clear K);(try clear ww);intro ww K;(try simp [go_sem] at K)))|((first|((with_reducible refine at_box ?_);refine wm_box K rfl _ _ rfl rfl rfl ?_)|((with_reducible refine at_alloc ?_);refine wm_alloc (v := ?_) (cs := ?_) K rfl _ rfl ?_ ?_ ?_;rotate_left;(with_reducible first|fail);rotate_left;exact rfl));(try clear K);(try clear ww);((fail_if_success (have _h := bb));intro bb ww K);(try simp [go_sem, Value.cells] at K)))
  go_ret
  exact ⟨bb, rfl, K⟩
set_option maxRecDepth 100000 in
set_option maxHeartbeats 2000000 in
theorem places_gives (b p : Nat) (H X Y S : Int) (A : Option Addr) (n c : Nat) (zs : List Int) (h1 : 1 ≤ p) (hp : p ≤ 64) (hl : zs.length = n) (hn : n ≤ 5000) :
    Gives 8 Try.prog 100 #[.pointer (some ⟨b, 0, none⟩)] (encP p) (pls zs) (PlR b p H X Y S A n c zs) := by
  intro lo J Jx V hJ hJx hJR hY h0
  have hv5 := (hJR 0 V h0).1.cell (i := 5) (v := .slice A n c) rfl
  refine callsIn_of_wp Try.func100 rfl trivial ?_
  simp only [Try.ntmps100, List.size_toArray, List.length_cons, List.length_nil, Nat.reduceAdd, Nat.reduceSub, Array.replicate_succ, Array.replicate_zero, List.push_toArray, List.append_toArray, List.nil_append, List.cons_append]
  gi_wp2
  
  gi_loopw [8] (fun i wr => ∃ k : Nat, k ≤ n ∧ i = .int .i64 k ∧ J (cnt zs k) wr) (fun i _ => n - (intOf i).toNat)
  case atStart => exact ⟨0, Nat.zero_le _, rfl, by rw [cnt_zero]; exact h0⟩
  case round =>
    obtain ⟨k, hk, rfl, hJk⟩ := hrel
    by_cases hlt : k < n
    · have ht : decide ((k : Int) < n) = true := decide_eq_true (by omega)
      obtain ⟨bA, off, rfl, hb, hc⟩ := (hJR _ wr hJk).2.get hlt
      have hv := hc k _ (ints_get .i64 zs k (by omega))
      have hst := cnt_step (A := zs) (i := k) (by omega)
      have hgt := fun h => pls_get (A := zs) (i := k) (by omega) h
      obtain ⟨z, hz⟩ : ∃ z, zs.getD k 0 = z := ⟨_, rfl⟩
      rw [hz] at hv hst hgt
      have hR := hJR (cnt zs k)
      have GW : ∀ V, J (cnt zs k) V → V.cell? ⟨b, 0, none⟩ = some (.int .i64 p) := fun V hV => (hR V hV).1.cell rfl
      have hdr := hJ _ _ _ hJk (Below.refl _ wr).drew
      have hyk := hY (cnt zs k) (k, z) wr.drew
      have e1 : (k : Int).tmod p = xv p (k, z) := by unfold xv; rw [Int.tmod_eq_emod_of_nonneg (by omega)]; exact (Int.natCast_emod k p).symm
      have e2 : IntKind.i64.wrap ((k : Int) / p) = yv p (k, z) := by
        unfold yv
        show _ = ((k / p : Nat) : Int)
        rw [← Int.natCast_ediv]
        have := Nat.div_le_self k p
        generalize k / p = q at *
        exact IntWalk.i64_in _ (by omega)
      have hp0 : ¬((p : Int) = 0) := by omega
      have hp1 : ¬(p = 0) := by omega
      gi_wp2
      by_cases h0 : 0 < z
      · have t0 : decide (0 < z) = true := decide_eq_true h0
        rw [if_pos h0] at hst
        refine wm_head_wide 14 (J (cnt zs k)) [(true, 0), (true, 1), (true, 2), (true, 3), (true, 4), (true, 5), (true, 6), (true, 7), (true, 8), (true, 9), (true, 10), (true, 11), (true, 12), (true, 13)] (by kernel_rfl) (by kernel_rfl) ?hS ?_; rotate_left; simp only [pick, List.getElem?_toArray, List.getElem?_cons_succ, List.getElem?_cons_zero]
        case hS => exact hdr
        repeat (first|((with_reducible refine ht_load ?_);refine hm_cell (v := .int .i64 p) rfl _ _ rfl rfl GW ?_ ?_;focus (with_reducible first|exact one2|exact one3|exact one24))|(refine held_take (fun K' hK' => ?_);go_simp;first|(refine hK' _ ?_;clear hK' K')|(apply Exists.intro;refine ⟨?_, hK' _ ?_⟩;(intro _ _;rfl);clear hK' K')))
        refine heldw_end ?_
        obtain ⟨fn, tmps, assign, body, hy, hRd⟩ := hyk (hgt h0) hdr
        dsimp only [encP] at hy
        gi_wp2
        refine hRd.mono ?_
        rintro e W3 (⟨rfl, hJ3⟩ | ⟨rfl, hJx3⟩)
        · gi_wp2
          refine nopo_out ?_
          gi_wp2
          go_roundw
          case rel => exact ⟨k + 1, by omega, by simp, by rw [hst]; exact hJ3⟩
          case measure => simp [intOf]; omega
        · gi_wp2
          refine nopo_out ?_
          gi_wp2
          refine bodyPost_ret (results_none rfl _ _ _) rfl ?_
          exact ⟨⟨_, rfl⟩, .inr hJx3⟩
      · have t0 : decide (0 < z) = false := decide_eq_false h0
        rw [if_neg h0] at hst
        refine wm_head_wide 14 (J (cnt zs k)) [(true, 0), (true, 1), (true, 2), (true, 3), (true, 4), (true, 5), (true, 6), (true, 7), (true, 8), (true, 9), (true, 10), (true, 11), (true, 12), (true, 13)] (by kernel_rfl) (by kernel_rfl) ?hS ?_; rotate_left; simp only [pick, List.getElem?_toArray, List.getElem?_cons_succ, List.getElem?_cons_zero]
        case hS => exact hdr
        repeat (first | (refine held_take (fun K' hK' => ?_); go_simp; first | (refine hK' _ ?_; clear hK' K') | (apply Exists.intro; refine ⟨?_, hK' _ ?_⟩; (intro _ _; rfl); clear hK' K')))
        refine heldw_end ?_
        gi_wp2
        refine ⟨fun _ _ => trivial, ?_⟩
        gi_wp2
        refine nopo_out ?_
        gi_wp2
        go_roundw
        case rel => exact ⟨k + 1, by omega, by simp, by rw [hst]; exact hdr⟩
        case measure => simp [intOf]; omega
    · obtain rfl : n = k := by omega
      gi_wp2
      go_end0
      exact ⟨⟨_, rfl⟩, .inl (by rw [← cnt_end, hl]; exact hJk)⟩
end Go.Proofs.Ytpejoaefnnbghaa
namespace Go.Proofs.Ytpejoaefnnbghaa
open Go.RowKit
attribute [local irreducible] wpHeld wpTree wpList
attribute [local go_sem] Oper.semAt_some
set_option linter.unusedVariables false
def meanV (X Y S : Int) (p : Nat) (zs : List Int) : Value :=
  if isum zs = 0 then .tuple #[.agg #[.int .i64 0, .int .i64 0], .bool false] else .tuple #[.agg #[.int .i64 (X + mean15 (sm zs p 1 0) S (isum zs)), .int .i64 (Y + mean15 (sm zs p 0 1) S (isum zs))], .bool true]
def sumP (zs : List Int) (k : Nat) : Int := lsum (fun x => x.2) ((pls zs).take k)
def moP (p a b : Nat) (zs : List Int) (k : Nat) : Int := lsum (mo p a b) ((pls zs).take k)
section
variable {p q a b k : Nat} {zs : List Int} {x : Nat × Int}
theorem moP_snoc (hx : (pls zs)[k]? = some x) : moP p a b zs (k + 1) = moP p a b zs k + mo p a b x := by unfold moP; rw [lsum_snoc hx]
theorem sumP_snoc (hx : (pls zs)[k]? = some x) : sumP zs (k + 1) = sumP zs k + x.2 := by unfold sumP; rw [lsum_snoc hx]
theorem Gr.moP_bd (G : Gr p q zs) (hab : a + b ≤ 2) : 0 ≤ moP p a b zs k ∧ moP p a b zs k ≤ 4261681299456 := G.pls_take hab k
theorem Gr.sumP_bd (G : Gr p q zs) : 0 ≤ sumP zs k ∧ sumP zs k ≤ 1073741824 := G.pls_taks k
theorem Gr.moP_end (G : Gr p q zs) : moP p a b zs (pls zs).length = sm zs p a b := by unfold moP; rw [List.take_length]; exact G.pls_all
theorem Gr.sumP_end (G : Gr p q zs) : sumP zs (pls zs).length = isum zs := by unfold sumP; rw [List.take_length]; exact G.pls_isum
theorem Gr.pl_bd (G : Gr p q zs) (hx : (pls zs)[k]? = some x) : (0 ≤ x.2 ∧ x.2 ≤ 1073741824) ∧ (0 ≤ xv p x ∧ xv p x ≤ 63) ∧ (0 ≤ yv p x ∧ yv p x ≤ 63) := by
  have hm := (pls_mem (List.mem_of_getElem? hx)).1
  have := G.nums _ (getD_mem (num15_mem.1 hm).1)
  rw [← (num15_mem.1 hm).2] at this
  exact ⟨this, ⟨(G.x1 x).1, (G.x1 x).2.2⟩, (G.y1 hm).1, (G.y1 hm).2.2⟩
end
theorem wrapI {a b : Int} (h : a = b) (h0 : -9223372036854775808 ≤ b) (h1 : b ≤ 9223372036854775807) : wrap64 a = b ∧ IntKind.i64.wrap a = b := by
  subst h
  exact ⟨by unfold wrap64; omega, IntWalk.i64_in _ ⟨h0, by omega⟩⟩
set_option maxRecDepth 100000 in
set_option maxHeartbeats 4000000 in
theorem Mean15 (p q : Nat) (H X Y S : Int) (A : Option Addr) (n c : Nat) (zs : List Int) (w : World) (hG : Gr p q zs) (hl : zs.length = n) (h : Rd w A n (ints .i64 zs)) (hX : -4503599627370496 ≤ X ∧ X ≤ 4503599627370496) (hY : -4503599627370496 ≤ Y ∧ Y ≤ 4503599627370496) (hS : 0 ≤ S ∧ S ≤ 4096) :
    Calls Try.prog 14 #[.agg #[.int .i64 p, .int .i64 H, .int .i64 X, .int .i64 Y, .int .i64 S, .slice A n c]] w fun e w' => e = .returned (meanV X Y S p zs) ∧ Below w.heap.size w w' := by
  obtain ⟨rv, hrv⟩ : ∃ rv, meanV X Y S p zs = rv := ⟨_, rfl⟩
  rw [hrv]
  have K := St.start w
  have HG := Lib.hid hG
  have HR := Lib.hid h
  have PG := places_gives (A := A) (n := n) (c := c) (H := H) (X := X) (Y := Y) (S := S) (zs := zs) (p := p)
  have PG := fun b => PG b hG.w0 hG.w1 hl (by have := hG.n2; omega)
  have PG := Lib.hid PG
  clear hl h hG
  refine calls_of_wp_marks Try.func14 rfl ?_; simp only [Try.ntmps14, List.size_toArray, List.length_cons, List.length_nil, Nat.reduceAdd, Nat.reduceSub, Array.replicate_succ, Array.replicate_zero, List.push_toArray, List.append_toArray, List.nil_append, List.cons_append]
  
  go_wp2_with (first|go_big_skip|((with_reducible refine at_load ?_);first|(refine wm_load (cs := ?_) (t := ?_) (n := ?_) K rfl _ _ rfl rfl ?_ ?_ ?_ ?_;rotate_left 2;(repeat (first|exact At.hd|refine At.tl ?_));rotate_left;(with_reducible first|exact row26|exact row29|exact row98);(solve|exact rfl|simp))|(refine wm_own (cs := ?_) (t := ?_) (v := ?_) K rfl _ _ rfl rfl ?_ ?_ ?_ ?_;rotate_left 2;(repeat (first|exact At.hd|refine At.tl ?_));rotate_left;(first|exact rfl|assumption);(with_reducible first|exact one2))|(refine wm_cell (v := ?_) rfl _ _ rfl rfl ?_ ?_ ?_;rotate_left;(first|assumption|exact (K.below.cell (by assumption)).trans (by assumption));(with_reducible first|exact one2)))|((with_reducible refine at_store ?_);(first|(refine wm_store (L' := ?_) (cs := ?_) (t := ?_) (n := ?_) K rfl _ _ _ rfl rfl rfl rfl ?_ ?_ ?_ ?_ ?_ ?_;rotate_left 3;(repeat (first|exact Put.hd|(refine Put.tl (L' := ?_) ?_;rotate_left)));rotate_left;(with_reducible first|exact row26|exact row29|exact row98);(solve|exact rfl|simp);(solve|exact rfl|simp);(solve|exact rfl|simp [Ones, Value.oneCell']))|(refine wm_put (L' := ?_) (cs := ?_) (new := ?_) (t := ?_) K rfl _ _ _ rfl rfl rfl rfl ?_ ?_ ?_ ?_ rfl rfl ?_;rotate_left 4;(repeat (first|exact Put.hd|(refine Put.tl (L' := ?_) ?_;rotate_left)));(solve|exact Nat.le_of_ble_eq_true rfl|decide|(simp only [List.size_toArray, nums_length];first|assumption|omega)|(simp only [List.size_toArray, nums_length, List.length_set];first|assumption|omega)|simp|omega|(simp only [List.size_toArray, nums_length];omega)|assumption);(solve|(simp only [List.setIfInBounds_toArray];exact rfl)|exact nums_set _ _ _ _|simp only [List.setIfInBounds_toArray, List.set_cons_zero]|simp only [List.setIfInBounds_toArray, List.set_cons_zero, List.set_cons_succ]|(simp only [List.setIfInBounds_toArray, List.set_cons_zero, List.set_cons_succ];exact rfl)|exact rfl);(with_reducible first|exact one2)));(try clear K);(try clear ww);intro ww K;(try simp [go_sem] at K))|((first|((with_reducible refine at_box ?_);refine wm_box K rfl _ _ rfl rfl rfl ?_)|((with_reducible refine at_alloc ?_);refine wm_alloc (v := ?_) (cs := ?_) K rfl _ rfl ?_ ?_ ?_;rotate_left;(with_reducible first|exact zero2|exact zero29|exact zero98);rotate_left;exact rfl));(try clear K);(try clear ww);(first|((fail_if_success (have _h := b1));intro b1 ww K)|((fail_if_success (have _h := b2));intro b2 ww K)|((fail_if_success (have _h := b4));intro b4 ww K)|((fail_if_success (have _h := b5));intro b5 ww K)|((fail_if_success (have _h := b6));intro b6 ww K));(try simp [go_sem, Value.cells] at K))|(go_at_call 56;have zz := places15 K p H X Y S A n c;(with_reducible refine zz.mono ?_);clear zz;rintro e w2 ⟨bb, rfl, K2⟩;(try dsimp only);replace K := K2;clear K2;(try clear ww);revert w2;intro ww K))
  have h0s : lsum (fun x => x.2) ((pls zs).take 0) = 0 := rfl
  refine wm_range (α := Nat × Int) 9 rfl (enters_of Try.func100 (by kernel_rfl) rfl) (PG.out bb) (fun _ => rfl) (fun k V => St w.heap.size w [(bb, #[.int .i64 p, .int .i64 H, .int .i64 X, .int .i64 Y, .int .i64 S, .slice A n c], 26), (b6, #[.int .i64 (sumP zs k)], 2), (b5, #[.int .i64 (moP p 0 1 zs k)], 2), (b4, #[.int .i64 (moP p 1 0 zs k)], 2), (b2, #[.int .i64 0, .int .i64 0], 29), (b1, #[.int .i64 p, .int .i64 H, .int .i64 X, .int .i64 Y, .int .i64 S, .slice A n c], 26)] Any V) (fun _ _ => False) (fun k => stable_st K.size firm_any) (fun _ => stable_false) (fun k V K => ⟨K.get .hd, HR.out.below K.below⟩) K ?round ?done ?stop
  case round =>
    intro lo0 k x V KK hlo hx K1 hK
    obtain ⟨z0, u0, v0⟩ := HG.out.pl_bd hx
    have ea := moP_snoc (p := p) (a := 1) (b := 0) hx
    have eb := moP_snoc (p := p) (a := 0) (b := 1) hx
    have ec := sumP_snoc hx
    rw [mo10] at ea
    rw [mo01] at eb
    have a0 := HG.out.moP_bd (a := 1) (b := 0) (k := k) (by omega)
    have a1 := HG.out.moP_bd (a := 1) (b := 0) (k := k + 1) (by omega)
    have b0 := HG.out.moP_bd (a := 0) (b := 1) (k := k) (by omega)
    have b1' := HG.out.moP_bd (a := 0) (b := 1) (k := k + 1) (by omega)
    have c0 := HG.out.sumP_bd (k := k)
    have c1 := HG.out.sumP_bd (k := k + 1)
    have hD := K.size
    generalize ww.heap.size = D at *
    clear K hx
    replace K := K1.keepsFrom D
    clear K1
    simp only [encP, List.zip_toArray, List.zip_cons_cons, List.zip_nil_right, List.size_toArray]
    generalize xv p x = u at *
    generalize yv p x = v at *
    generalize x.2 = z at *
    clear x
    obtain ⟨m1, hm1⟩ : ∃ m1, z * u = m1 := ⟨_, rfl⟩
    obtain ⟨m2, hm2⟩ : ∃ m2, z * v = m2 := ⟨_, rfl⟩
    rw [hm1] at ea
    rw [hm2] at eb
    have f1 := wrapI hm1 (by omega) (by omega)
    have f2 := wrapI hm2 (by omega) (by omega)
    have f3 := wrapI ea.symm (by omega) (by omega)
    have f4 := wrapI eb.symm (by omega) (by omega)
    have f5 := wrapI ec.symm (by omega) (by omega)
    clear ea eb ec a0 a1 b0 b1' c0 c1 hm1 hm2 z0 u0 v0
    obtain ⟨f1, g1⟩ := f1
    obtain ⟨f2, g2⟩ := f2
    obtain ⟨f3, g3⟩ := f3
    obtain ⟨f4, g4⟩ := f4
    obtain ⟨f5, g5⟩ := f5
    gi_wp2_with ((refine rin_step (fun c e => by cases e) ?_;go_wp2_with (first|go_big_skip|((with_reducible refine at_load ?_);first|(refine wm_load (cs := ?_) (t := ?_) (n := ?_) K rfl _ _ rfl rfl ?_ ?_ ?_ ?_;rotate_left 2;(repeat (first|exact At.hd|refine At.tl ?_));rotate_left;(with_reducible first|exact row26|exact row29|exact row98);(solve|exact rfl|simp))|(refine wm_own (cs := ?_) (t := ?_) (v := ?_) K rfl _ _ rfl rfl ?_ ?_ ?_ ?_;rotate_left 2;(repeat (first|exact At.hd|refine At.tl ?_));rotate_left;(first|exact rfl|assumption);(with_reducible first|exact one2))|(refine wm_cell (v := ?_) rfl _ _ rfl rfl ?_ ?_ ?_;rotate_left;(first|assumption|exact (K.below.cell (by assumption)).trans (by assumption));(with_reducible first|exact one2)))|((with_reducible refine at_store ?_);(first|(refine wm_store (L' := ?_) (cs := ?_) (t := ?_) (n := ?_) K rfl _ _ _ rfl rfl rfl rfl ?_ ?_ ?_ ?_ ?_ ?_;rotate_left 3;(repeat (first|exact Put.hd|(refine Put.tl (L' := ?_) ?_;rotate_left)));rotate_left;(with_reducible first|exact row26|exact row29|exact row98);(solve|exact rfl|simp);(solve|exact rfl|simp);(solve|exact rfl|simp [Ones, Value.oneCell']))|(refine wm_put (L' := ?_) (cs := ?_) (new := ?_) (t := ?_) K rfl _ _ _ rfl rfl rfl rfl ?_ ?_ ?_ ?_ rfl rfl ?_;rotate_left 4;(repeat (first|exact Put.hd|(refine Put.tl (L' := ?_) ?_;rotate_left)));(solve|exact Nat.le_of_ble_eq_true rfl|decide|(simp only [List.size_toArray, nums_length];first|assumption|omega)|(simp only [List.size_toArray, nums_length, List.length_set];first|assumption|omega)|simp|omega|(simp only [List.size_toArray, nums_length];omega)|assumption);(solve|(simp only [List.setIfInBounds_toArray];exact rfl)|exact nums_set _ _ _ _|simp only [List.setIfInBounds_toArray, List.set_cons_zero]|simp only [List.setIfInBounds_toArray, List.set_cons_zero, List.set_cons_succ]|(simp only [List.setIfInBounds_toArray, List.set_cons_zero, List.set_cons_succ];exact rfl)|exact rfl);(with_reducible first|exact one2)));(try clear K);(try clear ww);intro ww K;(try simp [go_sem] at K))|((first|((with_reducible refine at_box ?_);refine wm_box K rfl _ _ rfl rfl rfl ?_)|((with_reducible refine at_alloc ?_);refine wm_alloc (v := ?_) (cs := ?_) K rfl _ rfl ?_ ?_ ?_;rotate_left;(with_reducible first|exact zero2|exact zero29|exact zero98);rotate_left;exact rfl));(try clear K);(try clear ww);((fail_if_success (have _h := b7));intro b7 ww K);(try simp [go_sem, Value.cells] at K))));refine qn_out ?_)
    refine hK _ _ K.fact.1 (fun W2 r o o' hr ho hc e => ?_); replace K := K.begun hD firm_any hr ho hc e; clear hr ho hc e hK
    gi_wp2_with fail
    refine wm_treeIn _ (.take 1 (.take 2 (.take 3 (.take 4 (.take 7 (.take 8 (.take 9 (.take 10 (.take 13 (.alt 0 (.take 5 (.alt 6 (.take 11 (.alt 12 (.take 14 (.alt 15 (.alt 16 (.alt 17 .done .stop) .stop) .stop)) (.alt 15 (.alt 12 (.take 14 (.alt 16 (.alt 17 .done .stop) .stop)) (.alt 16 (.alt 12 (.take 14 (.alt 17 .done .stop)) .stop) .stop)) .stop))) (.alt 12 (.take 14 (.alt 6 (.take 11 (.alt 15 (.alt 16 (.alt 17 .done .stop) .stop) .stop)) (.alt 15 (.alt 6 (.take 11 (.alt 16 (.alt 17 .done .stop) .stop)) .stop) .stop))) (.alt 15 (.alt 6 (.take 11 (.alt 12 (.take 14 (.alt 16 (.alt 17 .done .stop) .stop)) (.alt 16 (.alt 12 (.take 14 (.alt 17 .done .stop)) .stop) .stop))) (.alt 12 (.take 14 (.alt 6 (.take 11 (.alt 16 (.alt 17 .done .stop) .stop)) .stop)) .stop)) .stop)))) (.alt 6 (.take 11 (.alt 0 (.take 5 (.alt 12 (.take 14 (.alt 15 (.alt 16 (.alt 17 .done .stop) .stop) .stop)) (.alt 15 (.alt 12 (.take 14 (.alt 16 (.alt 17 .done .stop) .stop)) (.alt 16 (.alt 12 (.take 14 (.alt 17 .done .stop)) .stop) .stop)) .stop))) (.alt 12 (.take 14 (.alt 0 (.take 5 (.alt 15 (.alt 16 (.alt 17 .done .stop) .stop) .stop)) .stop)) .stop))) (.alt 12 (.take 14 (.alt 0 (.take 5 (.alt 6 (.take 11 (.alt 15 (.alt 16 (.alt 17 .done .stop) .stop) .stop)) (.alt 15 (.alt 6 (.take 11 (.alt 16 (.alt 17 .done .stop) .stop)) .stop) .stop))) (.alt 6 (.take 11 (.alt 0 (.take 5 (.alt 15 (.alt 16 (.alt 17 .done .stop) .stop) .stop)) .stop)) .stop))) .stop)))))))))))) K sb2s (by kernel_rfl) (by kernel_rfl) (by kernel_rfl) (fun _ _ h => h) ?_; (try clear K); (try clear ww); intro ww K; (try simp [go_sem] at K)
    repeat' (first|exact tree_stop|(refine tm_own (cs := ?_) (t0 := ?_) (v := ?_) rfl rfl _ _ rfl rfl ?_ ?_ ?_ ?_;rotate_left 2;(repeat (first|exact At.hd|refine At.tl ?_));rotate_left;(first|exact rfl|assumption);(with_reducible first|exact one2))|(refine tree_take (fun K' hK' => ?_);simp only [opAt, List.getElem?_toArray, List.getElem?_cons_succ, List.getElem?_cons_zero, Option.getD_some];go_simp;first|(refine hK' _ ?_;clear hK' K')|(apply Exists.intro;refine ⟨?_, hK' _ ?_⟩;(intro _ _;rfl);clear hK' K'))|(refine tm_nowAt (cs := ?_) (t0 := ?_) (v := ?_) K rfl rfl _ _ rfl rfl ?_ ?_ ?_ (by apply via sb2s;first|exact K|exact K.tail|exact K.tail.tail|exact K.tail.tail.tail|exact K.weak wk1|exact K.tail.weak wk1|exact K.tail.tail.weak wk1|exact K.tail.tail.tail.weak wk1|exact K.weak wk2|exact K.tail.weak wk2|exact K.tail.tail.weak wk2|exact K.tail.tail.tail.weak wk2|exact K.weak wk3|exact K.tail.weak wk3|exact K.tail.tail.weak wk3|exact K.tail.tail.tail.weak wk3|exact K.weak wk4|exact K.tail.weak wk4|exact K.tail.tail.weak wk4|exact K.tail.tail.tail.weak wk4|exact K.weak wk5|exact K.tail.weak wk5|exact K.tail.tail.weak wk5|exact K.tail.tail.tail.weak wk5) ?_ ?_;rotate_left 2;(repeat (first|exact At.hd|refine At.tl ?_));rotate_left;(first|exact rfl|assumption);(with_reducible first|exact one2))|(refine tm_put (L' := ?_) (cs := ?_) (new := ?_) (t0 := ?_) K rfl rfl _ _ _ rfl rfl rfl rfl ?_ ?_ ?_ ?_ rfl rfl ?_ ?_;rotate_left 4;(repeat (first|exact Put.hd|(refine Put.tl (L' := ?_) ?_;rotate_left)));(solve|exact Nat.le_of_ble_eq_true rfl|decide|(simp only [List.size_toArray, nums_length];first|assumption|omega)|(simp only [List.size_toArray, nums_length, List.length_set];first|assumption|omega)|simp|omega|(simp only [List.size_toArray, nums_length];omega)|assumption);(solve|(simp only [List.setIfInBounds_toArray];exact rfl)|exact nums_set _ _ _ _|simp only [List.setIfInBounds_toArray, List.set_cons_zero]|simp only [List.setIfInBounds_toArray, List.set_cons_zero, List.set_cons_succ]|(simp only [List.setIfInBounds_toArray, List.set_cons_zero, List.set_cons_succ];exact rfl)|exact rfl);(with_reducible first|exact one2);intro ww2 K2;(try simp [go_sem] at K2);refine ⟨(by apply via sb2s;first|exact K2|exact K2.tail|exact K2.tail.tail|exact K2.tail.tail.tail|exact K2.weak wk1|exact K2.tail.weak wk1|exact K2.tail.tail.weak wk1|exact K2.tail.tail.tail.weak wk1|exact K2.weak wk2|exact K2.tail.weak wk2|exact K2.tail.tail.weak wk2|exact K2.tail.tail.tail.weak wk2|exact K2.weak wk3|exact K2.tail.weak wk3|exact K2.tail.tail.weak wk3|exact K2.tail.tail.tail.weak wk3|exact K2.weak wk4|exact K2.tail.weak wk4|exact K2.tail.tail.weak wk4|exact K2.tail.tail.tail.weak wk4|exact K2.weak wk5|exact K2.tail.weak wk5|exact K2.tail.tail.weak wk5|exact K2.tail.tail.tail.weak wk5), ?_⟩;replace K := K2;clear K2;(try clear ww);revert ww2;intro ww K))
    all_goals refine tree_done ?_
    all_goals (try simp only [opAt, List.getElem?_toArray, List.getElem?_cons_succ, List.getElem?_cons_zero, Option.getD_some])
    all_goals (try go_simp)
    all_goals (try gi_wp2_with fail)
    all_goals exact ⟨K.fact.1, K.tail.weak fun _ h => h.2⟩
  case done =>
    intro D V hD K1 hk
    rw [HG.out.moP_end, HG.out.moP_end, HG.out.sumP_end] at K1
    have hB := Nat.le_trans K.size hD
    clear K hD
    have K := K1.mark hk
    clear K1 hk
    have hs0 := HG.out.s0
    have hs1 := HG.out.top
    have hx := HG.out.mean_x
    have hy := HG.out.mean_y
    have hp := HG.out.w1
    have hp0 := HG.out.w0
    have hq := HG.out.h1
    have hq0 := HG.out.h0
    unfold meanV at hrv
    revert V
    intro ww K
    by_cases hz : isum zs = 0
    · have t0 : decide (isum zs = 0) = true := decide_eq_true hz
      rw [if_pos hz] at hrv
      subst hrv
      clear hx hy hp hp0 hq hq0 hs0 hs1
      rw [hz] at K
      clear t0 hz
      go_wp2_with (first|go_big_skip|((with_reducible refine at_load ?_);first|(refine wm_load (cs := ?_) (t := ?_) (n := ?_) K rfl _ _ rfl rfl ?_ ?_ ?_ ?_;rotate_left 2;(repeat (first|exact At.hd|refine At.tl ?_));rotate_left;(with_reducible first|exact row26|exact row29|exact row98);(solve|exact rfl|simp))|(refine wm_own (cs := ?_) (t := ?_) (v := ?_) K rfl _ _ rfl rfl ?_ ?_ ?_ ?_;rotate_left 2;(repeat (first|exact At.hd|refine At.tl ?_));rotate_left;(first|exact rfl|assumption);(with_reducible first|exact one2))|(refine wm_cell (v := ?_) rfl _ _ rfl rfl ?_ ?_ ?_;rotate_left;(first|assumption|exact (K.below.cell (by assumption)).trans (by assumption));(with_reducible first|exact one2)))|((with_reducible refine at_store ?_);(first|(refine wm_store (L' := ?_) (cs := ?_) (t := ?_) (n := ?_) K rfl _ _ _ rfl rfl rfl rfl ?_ ?_ ?_ ?_ ?_ ?_;rotate_left 3;(repeat (first|exact Put.hd|(refine Put.tl (L' := ?_) ?_;rotate_left)));rotate_left;(with_reducible first|exact row26|exact row29|exact row98);(solve|exact rfl|simp);(solve|exact rfl|simp);(solve|exact rfl|simp [Ones, Value.oneCell']))|(refine wm_put (L' := ?_) (cs := ?_) (new := ?_) (t := ?_) K rfl _ _ _ rfl rfl rfl rfl ?_ ?_ ?_ ?_ rfl rfl ?_;rotate_left 4;(repeat (first|exact Put.hd|(refine Put.tl (L' := ?_) ?_;rotate_left)));(solve|exact Nat.le_of_ble_eq_true rfl|decide|(simp only [List.size_toArray, nums_length];first|assumption|omega)|(simp only [List.size_toArray, nums_length, List.length_set];first|assumption|omega)|simp|omega|(simp only [List.size_toArray, nums_length];omega)|assumption);(solve|(simp only [List.setIfInBounds_toArray];exact rfl)|exact nums_set _ _ _ _|simp only [List.setIfInBounds_toArray, List.set_cons_zero]|simp only [List.setIfInBounds_toArray, List.set_cons_zero, List.set_cons_succ]|(simp only [List.setIfInBounds_toArray, List.set_cons_zero, List.set_cons_succ];exact rfl)|exact rfl);(with_reducible first|exact one2)));(try clear K);(try clear ww);intro ww K;(try simp [go_sem] at K)))
      exact retM1 (K.weak fun _ h => h.2) firm_any rfl hB K.fact.1 (fun w' K' => ⟨_, K'.res2 rfl _ rfl (.tl (.tl (.tl (.tl .hd)))) (by (with_reducible first|exact row26|exact row29|exact row98)) (by (solve|exact rfl|simp)) rfl, rfl, K'.below⟩)
    · have t0 : decide (isum zs = 0) = false := decide_eq_false hz
      have hs : 0 < isum zs := by omega
      have ex := mean_div (m := p - 1) hs hx.1 hx.2 hS.1 hS.2 (by omega) (by omega)
      have ey := mean_div (m := q - 1) hs hy.1 hy.2 hS.1 hS.2 (by omega) (by omega)
      have ix := mean_in hs hx.1 hx.2 hS.1
      have iy := mean_in hs hy.1 hy.2 hS.1
      have bx := HG.out.sm_bd' (a := 1) (b := 0) (by omega)
      have by' := HG.out.sm_bd' (a := 0) (b := 1) (by omega)
      have mx := Int.mul_le_mul (show (p : Int) - 1 ≤ 63 by omega) hS.2 hS.1 (by omega)
      have my := Int.mul_le_mul (show (q : Int) - 1 ≤ 63 by omega) hS.2 hS.1 (by omega)
      generalize sm zs p 1 0 = sx at *
      generalize sm zs p 0 1 = sy at *
      generalize isum zs = s at *
      have MX : Hid (∀ w, Calls Try.prog 57 #[.int .i64 sx, .int .i64 S, .int .i64 s, .int .i64 2] w fun e w' => e = .returned (.tuple #[.int .i64 (mean15 sx S s), .int .i64 (divM (sx * S) s 2).2]) ∧ Below w.heap.size w w') := Lib.hid (fun w => by
        have := MulDiv_any sx S s 2 w (by omega) (by omega) (by omega) (by omega) (by omega) (by omega)
        rwa [ex] at this)
      have MY : Hid (∀ w, Calls Try.prog 57 #[.int .i64 sy, .int .i64 S, .int .i64 s, .int .i64 2] w fun e w' => e = .returned (.tuple #[.int .i64 (mean15 sy S s), .int .i64 (divM (sy * S) s 2).2]) ∧ Below w.heap.size w w') := Lib.hid (fun w => by
        have := MulDiv_any sy S s 2 w (by omega) (by omega) (by omega) (by omega) (by omega) (by omega)
        rwa [ey] at this)
      generalize (divM (sx * S) s 2).2 = cx at *
      generalize (divM (sy * S) s 2).2 = cy at *
      rw [if_neg hz] at hrv
      generalize mean15 sx S s = ax at *
      generalize mean15 sy S s = ay at *
      obtain ⟨X2, hX2⟩ : ∃ X2, X + ax = X2 := ⟨_, rfl⟩
      obtain ⟨Y2, hY2⟩ : ∃ Y2, Y + ay = Y2 := ⟨_, rfl⟩
      have wx := wrapI hX2 (by omega) (by omega)
      have wy := wrapI hY2 (by omega) (by omega)
      rw [hX2, hY2] at hrv
      subst hrv
      clear hX2 hY2 hX hY hS hs ex ey ix iy bx by' mx my hx hy hp hp0 hq hq0 hs0 hs1
      obtain ⟨wx, wx2⟩ := wx
      obtain ⟨wy, wy2⟩ := wy
      go_wp2_with (first|go_big_skip|((with_reducible refine at_load ?_);first|(refine wm_load (cs := ?_) (t := ?_) (n := ?_) K rfl _ _ rfl rfl ?_ ?_ ?_ ?_;rotate_left 2;(repeat (first|exact At.hd|refine At.tl ?_));rotate_left;(with_reducible first|exact row26|exact row29|exact row98);(solve|exact rfl|simp))|(refine wm_own (cs := ?_) (t := ?_) (v := ?_) K rfl _ _ rfl rfl ?_ ?_ ?_ ?_;rotate_left 2;(repeat (first|exact At.hd|refine At.tl ?_));rotate_left;(first|exact rfl|assumption);(with_reducible first|exact one2))|(refine wm_cell (v := ?_) rfl _ _ rfl rfl ?_ ?_ ?_;rotate_left;(first|assumption|exact (K.below.cell (by assumption)).trans (by assumption));(with_reducible first|exact one2)))|((with_reducible refine at_store ?_);(first|(refine wm_store (L' := ?_) (cs := ?_) (t := ?_) (n := ?_) K rfl _ _ _ rfl rfl rfl rfl ?_ ?_ ?_ ?_ ?_ ?_;rotate_left 3;(repeat (first|exact Put.hd|(refine Put.tl (L' := ?_) ?_;rotate_left)));rotate_left;(with_reducible first|exact row26|exact row29|exact row98);(solve|exact rfl|simp);(solve|exact rfl|simp);(solve|exact rfl|simp [Ones, Value.oneCell']))|(refine wm_put (L' := ?_) (cs := ?_) (new := ?_) (t := ?_) K rfl _ _ _ rfl rfl rfl rfl ?_ ?_ ?_ ?_ rfl rfl ?_;rotate_left 4;(repeat (first|exact Put.hd|(refine Put.tl (L' := ?_) ?_;rotate_left)));(solve|exact Nat.le_of_ble_eq_true rfl|decide|(simp only [List.size_toArray, nums_length];first|assumption|omega)|(simp only [List.size_toArray, nums_length, List.length_set];first|assumption|omega)|simp|omega|(simp only [List.size_toArray, nums_length];omega)|assumption);(solve|(simp only [List.setIfInBounds_toArray];exact rfl)|exact nums_set _ _ _ _|simp only [List.setIfInBounds_toArray, List.set_cons_zero]|simp only [List.setIfInBounds_toArray, List.set_cons_zero, List.set_cons_succ]|(simp only [List.setIfInBounds_toArray, List.set_cons_zero, List.set_cons_succ];exact rfl)|exact rfl);(with_reducible first|exact one2)));(try clear K);(try clear ww);intro ww K;(try simp [go_sem] at K))|(go_at_call 57;(with_reducible refine (MX.out _).mono ?_);rintro e w2 ⟨rfl, k1⟩;replace K := K.step k1;clear k1;(try clear ww);revert w2;intro ww K)|(go_at_call 57;(with_reducible refine (MY.out _).mono ?_);rintro e w2 ⟨rfl, k1⟩;replace K := K.step k1;clear k1;(try clear ww);revert w2;intro ww K))
      exact retM1 (K.weak fun _ h => h.2) firm_any rfl hB K.fact.1 (fun w' K' => ⟨_, K'.res2 rfl _ rfl (.tl (.tl (.tl (.tl .hd)))) (by (with_reducible first|exact row26|exact row29|exact row98)) (by (solve|exact rfl|simp)) rfl, rfl, K'.below⟩)
  case stop =>
    intro D c W _ h _
    exact h.elim
end Go.Proofs.Ytpejoaefnnbghaa
namespace Go.Proofs.Ytpejoaefnnbghaa
open Go.RowKit
attribute [local irreducible] wpHeld wpTree wpList
set_option linter.unusedVariables false
theorem len_lt (x : Nat) (hx : x < 1152921504606846976) : ∃ n : Nat, Lib.bitLen x = n ∧ n ≤ 60 ∧ x < 2 ^ n := by
  by_cases h0 : x = 0
  · subst h0; exact ⟨0, by decide, by omega, by omega⟩
  · refine ⟨Nat.log2 x + 1, bitLen_log2 x h0 (Nat.lt_of_lt_of_le hx (by decide)), ?_, Nat.lt_log2_self⟩
    have := (Nat.log2_lt (k := 60) h0).2 hx
    omega
theorem root_start {x n : Nat} (hx : x < 2 ^ n) (hn : n ≤ 60) : RootAt x ((n + 1) / 2 + 1) 0 := by
  refine ⟨rfl, by omega, by omega, ?_⟩
  rw [Nat.zero_add, ← Nat.pow_add]
  exact Nat.lt_of_lt_of_le hx (Nat.pow_le_pow_right (by omega) (by omega))
theorem root_small {x k r : Nat} (h : RootAt x k r) (hx : x < 1152921504606846976) : r < 1073741824 := by
  have h3 := h.2.2.1
  rcases Nat.lt_or_ge r 1073741824 with h | h
  · exact h
  · have := Nat.mul_le_mul h h; omega
theorem isq_of {x r : Nat} (h : RootAt x 0 r) (hx : x < 1152921504606846976) : r = isq x :=
  root_unique h.2.2.1 (by simpa using h.2.2.2) (isq_spec (Nat.lt_of_lt_of_le hx (by decide))).1 (isq_spec (Nat.lt_of_lt_of_le hx (by decide))).2.1
theorem pow_small {j : Nat} (hj : j ≤ 30) : 1 ≤ 2 ^ j ∧ 2 ^ j ≤ 1073741824 := ⟨Nat.pow_pos (by omega), Nat.pow_le_pow_right (n := 2) (by omega) hj⟩
set_option maxRecDepth 100000 in
set_option maxHeartbeats 2000000 in
theorem Floor26 (x : Nat) (w : World) (hx : x < 1152921504606846976) :
    Calls Try.prog 112 #[.int .u64 x] w fun e w' => e = .returned (.int .u64 (isq x)) ∧ Below w.heap.size w w' := by
  have K := St.start w
  obtain ⟨n, hn, hn60, hxn⟩ := len_lt x hx
  have hs := Lib.hid (root_start hxn hn60)
  have HX := Lib.hid hx
  have HQ := Lib.hid (fun r h => isq_of (x := x) (r := r) h hx)
  have BB : Hid (∀ w, Calls Try.prog 123 #[.int .u64 x] w fun e w' => e = .returned (.int .i64 n) ∧ Below w.heap.size w w') := Lib.hid (fun w => (Bits_any x n w (Nat.lt_of_lt_of_le hx (by decide)) hn).mono fun e w' h => ⟨h.1, below_of_eq h.2⟩)
  obtain ⟨a, ha⟩ : ∃ a : Nat, (n + 1) / 2 = a := ⟨_, rfl⟩
  have ha30 : a ≤ 30 := by clear hs HX HQ BB; omega
  have e1 := wrapI (a := (n : Int) + 1) (b := n + 1) rfl (by omega) (by omega)
  have d1 : ((n : Int) + 1).tdiv 2 = a := by rw [Int.tdiv_eq_ediv_of_nonneg (by omega)]; omega
  have e2 := wrapI d1 (by omega) (by omega)
  have e3 := wrapI (a := (a : Int)) (b := a) rfl (by omega) (by omega)
  obtain ⟨e1, f1⟩ := e1
  obtain ⟨e2, f2⟩ := e2
  obtain ⟨e3, f3⟩ := e3
  rw [ha] at hs
  clear hx hn hn60 hxn ha
  go_enter Try.func112, Try.ntmps112
  go_wp2_with (first|go_big_skip|((with_reducible refine at_load ?_);fail)|((with_reducible refine at_store ?_);fail)|((first|((with_reducible refine at_box ?_);refine wm_box K rfl _ _ rfl rfl rfl ?_)|((with_reducible refine at_alloc ?_);refine wm_alloc (v := ?_) (cs := ?_) K rfl _ rfl ?_ ?_ ?_;rotate_left;(with_reducible first|fail);rotate_left;exact rfl));(try clear K);(try clear ww);((fail_if_success (have _h := b9));intro b9 ww K);(try simp [go_sem, Value.cells] at K))|(go_at_call 123;(with_reducible refine (BB.out _).mono ?_);rintro e w2 ⟨rfl, k1⟩;replace K := K.step k1;clear k1;(try clear ww);revert w2;intro ww K))
  go_loopw [3, 4] (fun v i wr => ∃ (j : Nat) (z : Int) (r : Nat), j ≤ a + 1 ∧ z = (j : Int) - 1 ∧ i = .int .i64 z ∧ v = .int .u64 r ∧ Hid (RootAt x j r) ∧ St w.heap.size w [] Any wr) (fun _ i _ => (intOf i + 1).toNat)
  case atStart => exact ⟨a + 1, a, 0, by omega, by omega, rfl, rfl, hs, K⟩
  case round =>
    clear K hs e1 f1 e2 f2 e3 f3 d1
    obtain ⟨j, z, r, hj, hz, rfl, rfl, G, K⟩ := hrel
    rcases j with _ | j
    · have E := Lib.hid (HQ.out r G.out)
      obtain rfl : z = -1 := by omega
      clear hz G
      go_wp2_with (first|go_big_skip|((with_reducible refine at_load ?_);fail)|((with_reducible refine at_store ?_);fail)|((first|((with_reducible refine at_box ?_);refine wm_box K rfl _ _ rfl rfl rfl ?_)|((with_reducible refine at_alloc ?_);refine wm_alloc (v := ?_) (cs := ?_) K rfl _ rfl ?_ ?_ ?_;rotate_left;(with_reducible first|fail);rotate_left;exact rfl));(try clear K);(try clear ww);((fail_if_success (have _h := b9));intro b9 ww K);(try simp [go_sem, Value.cells] at K)))
      go_ret
      exact ⟨by rw [← E.out]; rfl, K.below⟩
    · obtain rfl : z = (j : Int) := by omega
      clear hz
      have hp := pow_small (j := j) (by omega)
      have hr := root_small G.out HX.out
      obtain ⟨nx, hnx⟩ : ∃ nx : Nat, nx = r + 2 ^ j := ⟨_, rfl⟩
      have hfit : nx ≤ 2147483648 := by omega
      have hsq := Nat.mul_le_mul hfit hfit
      have eo : bits .or .u64 (r : Int) (IntKind.u64.wrap (2 ^ j)) = (nx : Int) := by
        have h2 : 2 ^ j < 18446744073709551616 := by omega
        have e2 : IntKind.u64.wrap (2 ^ j) = ((2 ^ j : Nat) : Int) := by
          rw [show ((2 : Int) ^ j) = ((2 ^ j : Nat) : Int) by simp]
          generalize 2 ^ j = p at *
          exact IntWalk.u64_in _ (by omega)
        rw [e2, bits_or_u64_nat r (2 ^ j) (by omega) h2, root_or G.out.1, hnx]
      have G' : Hid (RootAt x j (if nx * nx ≤ x then nx else r)) := Lib.hid (by rw [hnx]; exact RootAt_succ G.out (by omega))
      have t1 : decide ((nx : Int) < 4294967296) = true := decide_eq_true (by omega)
      have t1b : decide (nx < 4294967296) = true := decide_eq_true (by omega)
      have e5 : IntKind.u64.wrap ((nx : Int) * nx) = ((nx * nx : Nat) : Int) := by rw [← Int.natCast_mul]; exact IntWalk.u64_in _ (by omega)
      obtain ⟨sq, hsq2⟩ : ∃ sq, nx * nx = sq := ⟨_, rfl⟩
      rw [hsq2] at e5 G'
      clear G hnx hp hr hsq
      have hj64 : j ≤ 64 := by omega
      by_cases hle : sq ≤ x
      · have t2 : decide ((sq : Int) ≤ x) = true := decide_eq_true (by omega)
        have t2b : decide (sq ≤ x) = true := decide_eq_true hle
        rw [if_pos hle] at G'
        clear hsq2
        go_wp2_with (first|go_big_skip|((with_reducible refine at_load ?_);fail)|((with_reducible refine at_store ?_);fail)|((first|((with_reducible refine at_box ?_);refine wm_box K rfl _ _ rfl rfl rfl ?_)|((with_reducible refine at_alloc ?_);refine wm_alloc (v := ?_) (cs := ?_) K rfl _ rfl ?_ ?_ ?_;rotate_left;(with_reducible first|fail);rotate_left;exact rfl));(try clear K);(try clear ww);((fail_if_success (have _h := b9));intro b9 ww K);(try simp [go_sem, Value.cells] at K)))
        exact ⟨⟨j, _, nx, by omega, rfl, by simp, rfl, G', K⟩, by simp [intOf]⟩
      · have t2 : decide ((sq : Int) ≤ x) = false := decide_eq_false (by omega)
        have t2b : decide (sq ≤ x) = false := decide_eq_false hle
        rw [if_neg hle] at G'
        clear hsq2
        go_wp2_with (first|go_big_skip|((with_reducible refine at_load ?_);fail)|((with_reducible refine at_store ?_);fail)|((first|((with_reducible refine at_box ?_);refine wm_box K rfl _ _ rfl rfl rfl ?_)|((with_reducible refine at_alloc ?_);refine wm_alloc (v := ?_) (cs := ?_) K rfl _ rfl ?_ ?_ ?_;rotate_left;(with_reducible first|fail);rotate_left;exact rfl));(try clear K);(try clear ww);((fail_if_success (have _h := b9));intro b9 ww K);(try simp [go_sem, Value.cells] at K)))
        exact ⟨⟨j, _, r, by omega, rfl, by simp, rfl, G', K⟩, by simp [intOf]⟩
def csq (x : Nat) : Nat := if isq x * isq x < x then isq x + 1 else isq x
theorem isq_small {x : Nat} (hx : x < 1152921504606846976) : isq x < 1073741824 := by
  have h3 := (isq_spec (A := x) (Nat.lt_of_lt_of_le hx (by decide))).1
  rcases Nat.lt_or_ge (isq x) 1073741824 with h | h
  · exact h
  · have := Nat.mul_le_mul h h; omega
set_option maxRecDepth 100000 in
set_option maxHeartbeats 2000000 in
theorem Ceil26 (x : Nat) (w : World) (hx : x < 1152921504606846976) :
    Calls Try.prog 87 #[.int .u64 x] w fun e w' => e = .returned (.int .u64 (csq x)) ∧ Below w.heap.size w w' := by
  have K := St.start w
  have FF := Lib.hid (fun w => Floor26 x w hx)
  have hr := isq_small hx
  obtain ⟨rv, hrv⟩ : ∃ rv, csq x = rv := ⟨_, rfl⟩
  rw [hrv]
  unfold csq at hrv
  generalize isq x = r at *
  have hsq := Nat.mul_le_mul (Nat.le_of_lt hr) (Nat.le_of_lt hr)
  have e5 : IntKind.u64.wrap ((r : Int) * r) = ((r * r : Nat) : Int) := by rw [← Int.natCast_mul]; exact IntWalk.u64_in _ (by omega)
  obtain ⟨sq, hsq2⟩ : ∃ sq, r * r = sq := ⟨_, rfl⟩
  rw [hsq2] at e5 hrv
  have e6 : IntKind.u64.wrap ((r : Int) + 1) = ((r + 1 : Nat) : Int) := by rw [show (r : Int) + 1 = ((r + 1 : Nat) : Int) from rfl]; exact IntWalk.u64_in _ (by omega)
  clear hsq hsq2 hr hx
  by_cases h : sq < x
  · rw [if_pos h] at hrv
    have t1 : decide ((sq : Int) < x) = true := decide_eq_true (by omega)
    have t1b : decide (sq < x) = true := decide_eq_true h
    subst hrv
    go_enter Try.func87, Try.ntmps87
    go_wp2_with (first|go_big_skip|((with_reducible refine at_load ?_);fail)|((with_reducible refine at_store ?_);fail)|((first|((with_reducible refine at_box ?_);refine wm_box K rfl _ _ rfl rfl rfl ?_)|((with_reducible refine at_alloc ?_);refine wm_alloc (v := ?_) (cs := ?_) K rfl _ rfl ?_ ?_ ?_;rotate_left;(with_reducible first|fail);rotate_left;exact rfl));(try clear K);(try clear ww);((fail_if_success (have _h := b9));intro b9 ww K);(try simp [go_sem, Value.cells] at K))|(go_at_call 112;(with_reducible refine (FF.out _).mono ?_);rintro e w2 ⟨rfl, k1⟩;replace K := K.step k1;clear k1;(try clear ww);revert w2;intro ww K))
    go_ret
    exact ⟨rfl, K.below⟩
  · rw [if_neg h] at hrv
    have t1 : decide ((sq : Int) < x) = false := decide_eq_false (by omega)
    have t1b : decide (sq < x) = false := decide_eq_false h
    subst hrv
    go_enter Try.func87, Try.ntmps87
    go_wp2_with (first|go_big_skip|((with_reducible refine at_load ?_);fail)|((with_reducible refine at_store ?_);fail)|((first|((with_reducible refine at_box ?_);refine wm_box K rfl _ _ rfl rfl rfl ?_)|((with_reducible refine at_alloc ?_);refine wm_alloc (v := ?_) (cs := ?_) K rfl _ rfl ?_ ?_ ?_;rotate_left;(with_reducible first|fail);rotate_left;exact rfl));(try clear K);(try clear ww);((fail_if_success (have _h := b9));intro b9 ww K);(try simp [go_sem, Value.cells] at K))|(go_at_call 112;(with_reducible refine (FF.out _).mono ?_);rintro e w2 ⟨rfl, k1⟩;replace K := K.step k1;clear k1;(try clear ww);revert w2;intro ww K))
    go_ret
    exact ⟨rfl, K.below⟩
end Go.Proofs.Ytpejoaefnnbghaa
namespace Go.Proofs.Ytpejoaefnnbghaa
open Go.RowKit
attribute [local irreducible] wpHeld wpTree wpList
set_option linter.unusedVariables false
set_option linter.unusedSimpArgs false
theorem leB4 (s : Nat) : nums .u8 (leB 4 s) = ints .u8 [(s : Int) % 256, (s : Int) / 256 % 256, (s : Int) / 65536 % 256, (s : Int) / 16777216 % 256] := by
  simp [nums, ints, leB, List.range_succ]
set_option maxRecDepth 100000 in
set_option maxHeartbeats 2000000 in
theorem CPut26_any (A : Option Addr) (n c : Nat) (l : List Nat) (w : World) (h : Rd w A n (nums .u8 l)) (hn0 : 0 < n) (hn : n ≤ 1000) (hl : ∀ x ∈ l, x < 256) :
    Calls Try.prog 95 #[.slice A n c] w fun e w' => ∃ A2 c2, e = .returned (.slice A2 (n + 4) c2) ∧ (Rd w' A2 (n + 4) (nums .u8 (l ++ leB 4 (crcN l))) ∧ Nw w.heap.size A2) ∧ n + 4 ≤ c2 ∧ Below w.heap.size w w' := by
  have K := St.start w
  have H := Lib.hid h
  have HN : Hid (l.length = n) := Lib.hid (by rw [← h.1, nums_length])
  have SM := Lib.hid (fun w2 (g : Below w.heap.size w w2) => Sum26_any A n c l w2 (h.below g) hn hl)
  generalize crcN l = s at *
  have H4 := Lib.hid (leB4 s)
  clear h hl
  go_enter Try.func95, Try.ntmps95
  go_wp2_with (first|go_big_skip|((with_reducible refine at_load ?_);first|(refine wm_own (cs := ?_) (t := ?_) (v := ?_) K rfl _ _ rfl rfl ?_ ?_ ?_ ?_;rotate_left 2;(repeat (first|exact At.hd|refine At.tl ?_));rotate_left;(first|exact rfl|assumption);(with_reducible first|exact one5))|(refine wm_cell (v := ?_) rfl _ _ rfl rfl ?_ ?_ ?_;rotate_left;(first|assumption|exact (K.below.cell (by assumption)).trans (by assumption));(with_reducible first|exact one5)))|((with_reducible refine at_store ?_);first|(refine wm_put (L' := ?_) (cs := ?_) (new := ?_) (t := ?_) K rfl _ _ _ rfl rfl rfl rfl ?_ ?_ ?_ ?_ rfl rfl ?_;rotate_left 4;(repeat (first|exact Put.hd|(refine Put.tl (L' := ?_) ?_;rotate_left)));(solve|exact Nat.le_of_ble_eq_true rfl|decide|(simp only [List.size_toArray, nums_length];first|assumption|omega)|(simp only [List.size_toArray, nums_length, List.length_set];first|assumption|omega)|simp|omega|(simp only [List.size_toArray, nums_length];omega)|assumption);(solve|(simp only [List.setIfInBounds_toArray];exact rfl)|exact nums_set _ _ _ _|simp only [List.setIfInBounds_toArray, List.set_cons_zero]|simp only [List.setIfInBounds_toArray, List.set_cons_zero, List.set_cons_succ]|(simp only [List.setIfInBounds_toArray, List.set_cons_zero, List.set_cons_succ];exact rfl)|exact rfl);(with_reducible first|exact one5);(try clear K);(try clear ww);intro ww K;(try simp [go_sem] at K)))|(go_at_call 118;(with_reducible refine (SM.out _ K.below).mono ?_);rintro e w2 ⟨rfl, k1⟩;replace K := K.step k1;clear k1;(try clear ww);revert w2;intro ww K)|((with_reducible refine at_bsl ?_);refine wm_noneT K rfl _ rfl Try.underlying80 num5 ?_;(try clear K);(try clear ww);intro v ww Lo hO K)|((with_reducible refine at_bsl ?_);refine wm_ints4 K rfl _ _ _ rfl Try.underlying80 [(s : Int) % 256, (s : Int) / 256 % 256, (s : Int) / 65536 % 256, (s : Int) / 16777216 % 256] num5 rfl rfl ⟨Nat.zero_lt_succ _, Nat.le_refl _⟩ ?_;(try clear K);(try clear ww);intro bi1 ww K;replace K := K.weak (G := fun w => Rd w (some ⟨bi1, 0, none⟩) 4 (nums .u8 (leB 4 s)) ∧ Any w) (fun w h => ⟨by rw [H4.out];exact h.1, h.2⟩))|((with_reducible refine at_app ?_);refine wm_appST (L0 := ?_) K ?_ rfl _ _ _ rfl Try.underlying80 num5 rfl hO rfl (H.out.below K.below) hn0 (nums_ones _ _) (by simp;omega) (by simp;unfold maxLen;omega) ?_;rotate_left;(repeat (first|exact Tl.nil|(refine Tl.cons (L0 := ?_) ?_;rotate_left)));(try clear K hO);(try clear ww);intro v ww Lo hO K)|((with_reducible refine at_app ?_);refine wm_appST (L0 := ?_) K ?_ rfl _ _ _ rfl Try.underlying80 num5 rfl hO rfl K.fact.1 (by decide) (nums_ones _ _) (by rw [List.nil_append, nums_length, HN.out];omega) (by rw [List.nil_append, nums_length, HN.out];unfold maxLen;omega) ?_;rotate_left;(repeat (first|exact Tl.nil|(refine Tl.cons (L0 := ?_) ?_;rotate_left)));(try clear K hO);(try clear ww);intro v ww Lo hO K))
  have hO2 : OwnT v 5 (nums .u8 (l ++ leB 4 s)) Lo := by
    rw [← nums_append]; simpa using hO
  obtain ⟨A2, c2, rfl, hc1, hc2, hA, K2⟩ := hO2.fix (L0 := []) K
  have hlen : (nums .u8 (l ++ leB 4 s)).length = n + 4 := by rw [nums_length, List.length_append, HN.out, leB_len]
  rw [hlen] at K2 hc1 ⊢
  have HA := Lib.hid (And.intro hA hc1)
  clear K hO hO2 hA hc1 hc2 hlen
  revert ww
  intro ww K
  go_wp2_with (first|go_big_skip|((with_reducible refine at_load ?_);first|(refine wm_own (cs := ?_) (t := ?_) (v := ?_) K rfl _ _ rfl rfl ?_ ?_ ?_ ?_;rotate_left 2;(repeat (first|exact At.hd|refine At.tl ?_));rotate_left;(first|exact rfl|assumption);(with_reducible first|exact one5))|(refine wm_cell (v := ?_) rfl _ _ rfl rfl ?_ ?_ ?_;rotate_left;(first|assumption|exact (K.below.cell (by assumption)).trans (by assumption));(with_reducible first|exact one5)))|((with_reducible refine at_store ?_);first|(refine wm_put (L' := ?_) (cs := ?_) (new := ?_) (t := ?_) K rfl _ _ _ rfl rfl rfl rfl ?_ ?_ ?_ ?_ rfl rfl ?_;rotate_left 4;(repeat (first|exact Put.hd|(refine Put.tl (L' := ?_) ?_;rotate_left)));(solve|exact Nat.le_of_ble_eq_true rfl|decide|(simp only [List.size_toArray, nums_length];first|assumption|omega)|(simp only [List.size_toArray, nums_length, List.length_set];first|assumption|omega)|simp|omega|(simp only [List.size_toArray, nums_length];omega)|assumption);(solve|(simp only [List.setIfInBounds_toArray];exact rfl)|exact nums_set _ _ _ _|simp only [List.setIfInBounds_toArray, List.set_cons_zero]|simp only [List.setIfInBounds_toArray, List.set_cons_zero, List.set_cons_succ]|(simp only [List.setIfInBounds_toArray, List.set_cons_zero, List.set_cons_succ];exact rfl)|exact rfl);(with_reducible first|exact one5);(try clear K);(try clear ww);intro ww K;(try simp [go_sem] at K))))
  go_ret
  exact ⟨A2, c2, rfl, ⟨K.fact.1, HA.out.1⟩, HA.out.2, K.below⟩
theorem Rd.first {w : World} {A : Option Addr} {n m : Nat} {xs : List Value} (h : Rd w A n xs) (hm : m ≤ n) (hm0 : 0 < m) : Rd w A m (xs.take m) := by
  refine ⟨by rw [List.length_take, h.1]; omega, fun _ => ?_⟩
  obtain ⟨b, off, e, hb, hc⟩ := h.2 (by omega)
  refine ⟨b, off, e, hb, fun j u hj => hc j u ?_⟩
  rw [List.getElem?_take] at hj
  split at hj
  · exact hj
  · cases hj
theorem sum_at (l : List Nat) (s i : Nat) (hi : i < 4) : (nums .u8 (l ++ leB 4 s))[l.length + i]? = some (.int .u8 ((s : Int) / 2 ^ (8 * i) % 256)) := by
  rw [byteAt]
  simp [nums, leB, hi]
set_option maxRecDepth 100000 in
set_option maxHeartbeats 2000000 in
theorem CGet26_any (A : Option Addr) (m N c : Nat) (l : List Nat) (w : World) (hN : m + 4 = N) (h : Rd w A N (nums .u8 (l ++ leB 4 (crcN l)))) (hm0 : 0 < m) (hm : m ≤ 1000) (hc : N ≤ c) (hlm : l.length = m) (hl : ∀ x ∈ l, x < 256) :
    Calls Try.prog 97 #[.slice A N c] w fun e w' => ∃ v, e = .returned (.tuple #[v, .bool true]) ∧ Below w.heap.size w w' := by
  have K := St.start w
  have h1 : Rd w A m (nums .u8 l) := by
    have := h.first (m := m) (by omega) hm0
    rwa [nums_take, List.take_left' hlm] at this
  have H := Lib.hid h1
  have HC := fun i (hi : i < 4) => sum_at l (crcN l) i hi
  rw [hlm] at HC
  obtain ⟨b, off, rfl, hb, hcell⟩ := h.get (show 0 < N by omega)
  have HV := Lib.hid (fun i (hi : i < 4) => hcell (m + i) _ (HC i hi))
  have SM := Lib.hid (fun w2 (g : Below w.heap.size w w2) => Sum26_any (some ⟨b, off, none⟩) m c l w2 (h1.below g) hm hl)
  generalize crcN l = s at *
  have t1 : decide ((m : Int) < 0) = false := decide_eq_false (by omega)
  have t2 : decide (m ≤ c) = true := decide_eq_true (by omega)
  have t3 : m ≤ c := by omega
  have e1 := wrapI (a := (N : Int) - 4) (b := m) (by omega) (by omega) (by omega)
  obtain ⟨e1, f1⟩ := e1
  clear h h1 hl hlm HC hcell
  go_enter Try.func97, Try.ntmps97
  go_wp2_with (first|go_big_skip|((with_reducible refine at_load ?_);first|(refine wm_own (cs := ?_) (t := ?_) (v := ?_) K rfl _ _ rfl rfl ?_ ?_ ?_ ?_;rotate_left 2;(repeat (first|exact At.hd|refine At.tl ?_));rotate_left;(first|exact rfl|assumption);(with_reducible first|exact one5))|(refine wm_cell (v := ?_) rfl _ _ rfl rfl ?_ ?_ ?_;rotate_left;(first|assumption|exact (K.below.cell (by assumption)).trans (by assumption));(with_reducible first|exact one5)))|((with_reducible refine at_store ?_);first|(refine wm_put (L' := ?_) (cs := ?_) (new := ?_) (t := ?_) K rfl _ _ _ rfl rfl rfl rfl ?_ ?_ ?_ ?_ rfl rfl ?_;rotate_left 4;(repeat (first|exact Put.hd|(refine Put.tl (L' := ?_) ?_;rotate_left)));(solve|exact Nat.le_of_ble_eq_true rfl|decide|(simp only [List.size_toArray, nums_length];first|assumption|omega)|(simp only [List.size_toArray, nums_length, List.length_set];first|assumption|omega)|simp|omega|(simp only [List.size_toArray, nums_length];omega)|assumption);(solve|(simp only [List.setIfInBounds_toArray];exact rfl)|exact nums_set _ _ _ _|simp only [List.setIfInBounds_toArray, List.set_cons_zero]|simp only [List.setIfInBounds_toArray, List.set_cons_zero, List.set_cons_succ]|(simp only [List.setIfInBounds_toArray, List.set_cons_zero, List.set_cons_succ];exact rfl)|exact rfl);(with_reducible first|exact one5);(try clear K);(try clear ww);intro ww K;(try simp [go_sem] at K)))|(go_at_call 118;(with_reducible refine (SM.out _ K.below).mono ?_);rintro e w2 ⟨rfl, k1⟩;replace K := K.step k1;clear k1;(try clear ww);revert w2;intro ww K))
  go_loopw [16] (fun j wr => ∃ (i : Nat), i ≤ 4 ∧ j = .int .i64 i ∧ St w.heap.size w [] Any wr) (fun j _ => 4 - (intOf j).toNat)
  case atStart => exact ⟨0, by omega, rfl, K⟩
  case round =>
    clear K
    obtain ⟨i, hi, rfl, K⟩ := hrel
    by_cases hlt : i < 4
    · have ht : decide ((i : Int) < 4) = true := decide_eq_true (by omega)
      have hv := HV.out i hlt
      obtain ⟨q, hq⟩ : ∃ q, m + i = q := ⟨_, rfl⟩
      rw [hq] at hv
      have e2 := wrapI (a := (m : Int) + i) (b := (q : Int)) (by omega) (by omega) (by omega)
      obtain ⟨e2, f2⟩ := e2
      obtain ⟨d, hd⟩ : ∃ d, 8 * i = d := ⟨_, rfl⟩
      rw [hd] at hv
      have e4 := wrapI (a := 8 * (i : Int)) (b := (d : Int)) (by omega) (by omega) (by omega)
      obtain ⟨e4, f4⟩ := e4
      have hd64 : min d 64 = d := by omega
      have e5 : IntKind.u8.wrap ((s : Int) / 2 ^ d) = (s : Int) / 2 ^ d % 256 := by unfold IntKind.wrap; simp [IntKind.bits, IntKind.signed]
      have hd32 : d ≤ 24 := by omega
      have hmi : q < N := by omega
      have hmt : decide ((q : Int) < N) = true := decide_eq_true (by omega)
      clear hq hd
      go_wp2_with (first|go_big_skip|((with_reducible refine at_load ?_);first|(refine wm_own (cs := ?_) (t := ?_) (v := ?_) K rfl _ _ rfl rfl ?_ ?_ ?_ ?_;rotate_left 2;(repeat (first|exact At.hd|refine At.tl ?_));rotate_left;(first|exact rfl|assumption);(with_reducible first|exact one5))|(refine wm_cell (v := ?_) rfl _ _ rfl rfl ?_ ?_ ?_;rotate_left;(first|assumption|exact (K.below.cell (by assumption)).trans (by assumption));(with_reducible first|exact one5)))|((with_reducible refine at_store ?_);first|(refine wm_put (L' := ?_) (cs := ?_) (new := ?_) (t := ?_) K rfl _ _ _ rfl rfl rfl rfl ?_ ?_ ?_ ?_ rfl rfl ?_;rotate_left 4;(repeat (first|exact Put.hd|(refine Put.tl (L' := ?_) ?_;rotate_left)));(solve|exact Nat.le_of_ble_eq_true rfl|decide|(simp only [List.size_toArray, nums_length];first|assumption|omega)|(simp only [List.size_toArray, nums_length, List.length_set];first|assumption|omega)|simp|omega|(simp only [List.size_toArray, nums_length];omega)|assumption);(solve|(simp only [List.setIfInBounds_toArray];exact rfl)|exact nums_set _ _ _ _|simp only [List.setIfInBounds_toArray, List.set_cons_zero]|simp only [List.setIfInBounds_toArray, List.set_cons_zero, List.set_cons_succ]|(simp only [List.setIfInBounds_toArray, List.set_cons_zero, List.set_cons_succ];exact rfl)|exact rfl);(with_reducible first|exact one5);(try clear K);(try clear ww);intro ww K;(try simp [go_sem] at K))))
      refine wm_held _ [(true, 0), (true, 1), (true, 2), (true, 3), (true, 4), (true, 5), (true, 6), (true, 7), (true, 8), (true, 9), (true, 10), (true, 11)] K sbr (by kernel_rfl) (by kernel_rfl) ?_; (try clear K); (try clear ww); intro ww K; (try simp [go_sem] at K); simp only [pick, List.getElem?_toArray, List.getElem?_cons_succ, List.getElem?_cons_zero]
      repeat (first|(((with_reducible refine ht_load ?_);first|(refine hm_own (cs := ?_) (t := ?_) (v := ?_) rfl _ _ rfl rfl ?_ ?_ ?_ ?_;rotate_left 2;(repeat (first|exact At.hd|refine At.tl ?_));rotate_left;(first|exact rfl|assumption);(with_reducible first|exact one5))|(refine hm_cell (v := ?_) rfl _ _ rfl rfl (fun ww K => ?_) ?_ ?_;rotate_left;(first|assumption|exact (K.below.cell (by assumption)).trans (by assumption));(with_reducible first|exact one5)));(try simp only [Act.put]);(try go_simp))|(refine held_take (fun K' hK' => ?_);go_simp;first|(refine hK' _ ?_;clear hK' K')|(apply Exists.intro;refine ⟨?_, hK' _ ?_⟩;(intro _ _;rfl);clear hK' K'))|((with_reducible refine ht_store ?_);first|(refine hm_put (L' := ?_) (cs := ?_) (new := ?_) (t := ?_) K rfl _ _ _ rfl rfl rfl rfl ?_ ?_ ?_ ?_ rfl rfl ?_;rotate_left 4;(repeat (first|exact Put.hd|(refine Put.tl (L' := ?_) ?_;rotate_left)));(solve|exact Nat.le_of_ble_eq_true rfl|decide|(simp only [List.size_toArray, nums_length];first|assumption|omega)|(simp only [List.size_toArray, nums_length, List.length_set];first|assumption|omega)|simp|omega|(simp only [List.size_toArray, nums_length];omega)|assumption);(solve|(simp only [List.setIfInBounds_toArray];exact rfl)|exact nums_set _ _ _ _|simp only [List.setIfInBounds_toArray, List.set_cons_zero]|simp only [List.setIfInBounds_toArray, List.set_cons_zero, List.set_cons_succ]|(simp only [List.setIfInBounds_toArray, List.set_cons_zero, List.set_cons_succ];exact rfl)|exact rfl);(with_reducible first|exact one5);(try clear K);(try clear ww);intro ww K;(try simp [go_sem] at K);refine ⟨(by apply via sbr;first|exact K|exact K.weak wk1|exact K.weak wk2|exact K.weak wk3|exact K.weak wk4|exact K.weak wk5), ?_⟩)))
      refine held_nil ?_
      go_wp2_with (first|go_big_skip|((with_reducible refine at_load ?_);first|(refine wm_own (cs := ?_) (t := ?_) (v := ?_) K rfl _ _ rfl rfl ?_ ?_ ?_ ?_;rotate_left 2;(repeat (first|exact At.hd|refine At.tl ?_));rotate_left;(first|exact rfl|assumption);(with_reducible first|exact one5))|(refine wm_cell (v := ?_) rfl _ _ rfl rfl ?_ ?_ ?_;rotate_left;(first|assumption|exact (K.below.cell (by assumption)).trans (by assumption));(with_reducible first|exact one5)))|((with_reducible refine at_store ?_);first|(refine wm_put (L' := ?_) (cs := ?_) (new := ?_) (t := ?_) K rfl _ _ _ rfl rfl rfl rfl ?_ ?_ ?_ ?_ rfl rfl ?_;rotate_left 4;(repeat (first|exact Put.hd|(refine Put.tl (L' := ?_) ?_;rotate_left)));(solve|exact Nat.le_of_ble_eq_true rfl|decide|(simp only [List.size_toArray, nums_length];first|assumption|omega)|(simp only [List.size_toArray, nums_length, List.length_set];first|assumption|omega)|simp|omega|(simp only [List.size_toArray, nums_length];omega)|assumption);(solve|(simp only [List.setIfInBounds_toArray];exact rfl)|exact nums_set _ _ _ _|simp only [List.setIfInBounds_toArray, List.set_cons_zero]|simp only [List.setIfInBounds_toArray, List.set_cons_zero, List.set_cons_succ]|(simp only [List.setIfInBounds_toArray, List.set_cons_zero, List.set_cons_succ];exact rfl)|exact rfl);(with_reducible first|exact one5);(try clear K);(try clear ww);intro ww K;(try simp [go_sem] at K))))
      exact ⟨⟨i + 1, by omega, by go_num, K⟩, by simp [intOf]; omega⟩
    · obtain rfl : i = 4 := by omega
      have ht : decide (((4 : Nat) : Int) < 4) = false := by decide
      clear e1 f1 t1
      go_wp2_with (first|go_big_skip|((with_reducible refine at_load ?_);first|(refine wm_own (cs := ?_) (t := ?_) (v := ?_) K rfl _ _ rfl rfl ?_ ?_ ?_ ?_;rotate_left 2;(repeat (first|exact At.hd|refine At.tl ?_));rotate_left;(first|exact rfl|assumption);(with_reducible first|exact one5))|(refine wm_cell (v := ?_) rfl _ _ rfl rfl ?_ ?_ ?_;rotate_left;(first|assumption|exact (K.below.cell (by assumption)).trans (by assumption));(with_reducible first|exact one5)))|((with_reducible refine at_store ?_);first|(refine wm_put (L' := ?_) (cs := ?_) (new := ?_) (t := ?_) K rfl _ _ _ rfl rfl rfl rfl ?_ ?_ ?_ ?_ rfl rfl ?_;rotate_left 4;(repeat (first|exact Put.hd|(refine Put.tl (L' := ?_) ?_;rotate_left)));(solve|exact Nat.le_of_ble_eq_true rfl|decide|(simp only [List.size_toArray, nums_length];first|assumption|omega)|(simp only [List.size_toArray, nums_length, List.length_set];first|assumption|omega)|simp|omega|(simp only [List.size_toArray, nums_length];omega)|assumption);(solve|(simp only [List.setIfInBounds_toArray];exact rfl)|exact nums_set _ _ _ _|simp only [List.setIfInBounds_toArray, List.set_cons_zero]|simp only [List.setIfInBounds_toArray, List.set_cons_zero, List.set_cons_succ]|(simp only [List.setIfInBounds_toArray, List.set_cons_zero, List.set_cons_succ];exact rfl)|exact rfl);(with_reducible first|exact one5);(try clear K);(try clear ww);intro ww K;(try simp [go_sem] at K)))|((with_reducible refine at_bsl ?_);refine wm_noneT K rfl _ rfl Try.underlying80 num5 ?_;(try clear K);(try clear ww);intro v ww Lo hO K)|((with_reducible refine at_app ?_);refine wm_appST (L0 := ?_) K ?_ rfl _ _ _ rfl Try.underlying80 num5 rfl hO rfl (H.out.below K.below) hm0 (nums_ones _ _) (by simp;omega) (by simp;unfold maxLen;omega) ?_;rotate_left;(repeat (first|exact Tl.nil|(refine Tl.cons (L0 := ?_) ?_;rotate_left)));(try clear K hO);(try clear ww);intro v ww Lo hO K))
      go_ret2
      exact ⟨_, rfl, K.below⟩
end Go.Proofs.Ytpejoaefnnbghaa
namespace Go.Proofs.Ytpejoaefnnbghaa
open Go.RowKit
attribute [local irreducible] wpHeld wpTree wpList
set_option linter.unusedVariables false
set_option linter.unusedSimpArgs false
theorem le_step (x i : Nat) (hi : i < 8) (hx : x < 18446744073709551616) : bits .or .u64 ((x % 256 ^ i : Nat) : Int) (IntKind.u64.wrap (((x / 256 ^ i % 256 : Nat) : Int) * 2 ^ (8 * i))) = ((x % 256 ^ (i + 1) : Nat) : Int) := by
  have e1 : (256 : Nat) ^ i = 2 ^ (8 * i) := by rw [Nat.pow_mul]
  have hp : 2 ^ (8 * i) ≤ 72057594037927936 := Nat.pow_le_pow_right (n := 2) (by omega) (show 8 * i ≤ 56 by omega)
  have hp0 : 0 < 2 ^ (8 * i) := Nat.pow_pos (by omega)
  have h1 : x % 256 ^ i < 2 ^ (8 * i) := by rw [e1]; exact Nat.mod_lt _ hp0
  have h2 : x / 256 ^ i % 256 < 256 := Nat.mod_lt _ (by omega)
  rw [Nat.mod_pow_succ]
  rw [show ((2 : Int) ^ (8 * i)) = ((2 ^ (8 * i) : Nat) : Int) by simp, e1]
  rw [e1] at h1 h2
  have hor : (x % 2 ^ (8 * i)) ||| (x / 2 ^ (8 * i) % 256 * 2 ^ (8 * i)) = x % 2 ^ (8 * i) + 2 ^ (8 * i) * (x / 2 ^ (8 * i) % 256) := by
    rw [Nat.or_comm, Nat.mul_comm, ← Nat.two_pow_add_eq_or_of_lt h1, Nat.add_comm]
  generalize 2 ^ (8 * i) = p at *
  have h3 : x / p % 256 * p ≤ 255 * 72057594037927936 := Nat.mul_le_mul (by omega) hp
  rw [← Int.natCast_mul, IntWalk.u64_in _ (by omega), bits_or_u64_nat _ _ (by omega) (by omega)]
  rw [hor]
set_option maxRecDepth 100000 in
set_option maxHeartbeats 2000000 in
theorem Get26_any (A : Option Addr) (n c a k x : Nat) (az kz : Int) (l : List Nat) (w : World) (haz : az = a) (hkz : kz = k) (h : Rd w A n (nums .u8 l)) (hn : n ≤ 1000) (hak : a + k ≤ n) (hk : k ≤ 8) (hk0 : 0 < k) (hx : x < 18446744073709551616) (hl : ∀ i, i < k → l[a + i]? = some (x / 256 ^ i % 256)) :
    Calls Try.prog 99 #[.slice A n c, .int .i64 az, .int .i64 kz] w fun e w' => e = .returned (.tuple #[.int .u64 ((x % 256 ^ k : Nat) : Int), .int .i64 0]) ∧ Below w.heap.size w w' := by
  subst haz hkz
  have K := St.start w
  obtain ⟨b, off, rfl, hb, hcell⟩ := h.get (show 0 < n by omega)
  have HV0 : ∀ i, i < k → w.cell? ⟨b, off + (a + i), none⟩ = some (.int .u8 ((x / 256 ^ i % 256 : Nat) : Int)) := fun i hi => hcell (a + i) _ (by unfold nums; rw [List.getElem?_map, hl i hi]; rfl)
  have HV := Lib.hid HV0
  have LS := Lib.hid (fun i (hi : i < 8) => le_step x i hi hx)
  have M0 : x % 256 ^ 0 = 0 := by simp [Nat.mod_one]
  obtain ⟨r, hr⟩ : ∃ r : Nat, n - a = r := ⟨_, rfl⟩
  have e1 := wrapI (a := (n : Int) - a) (b := (r : Int)) (by omega) (by omega) (by omega)
  obtain ⟨e1, f1⟩ := e1
  have t1 : decide ((a : Int) < 0) = false := decide_eq_false (by omega)
  have t2 : decide ((k : Int) < 0) = false := decide_eq_false (by omega)
  have t3 : decide (8 < (k : Int)) = false := decide_eq_false (by omega)
  have t4 : decide ((n : Int) < a) = false := decide_eq_false (by omega)
  have t5 : decide ((r : Int) < k) = false := decide_eq_false (by omega)
  have t3n : decide (8 < k) = false := decide_eq_false (by omega)
  have t4n : decide (n < a) = false := decide_eq_false (by omega)
  have t5n : decide (r < k) = false := decide_eq_false (by omega)
  clear h hcell HV0 hl hr
  go_enter Try.func99, Try.ntmps99
  go_wp2_with (first|go_big_skip|((with_reducible refine at_load ?_);first|(refine wm_own (cs := ?_) (t := ?_) (v := ?_) K rfl _ _ rfl rfl ?_ ?_ ?_ ?_;rotate_left 2;(repeat (first|exact At.hd|refine At.tl ?_));rotate_left;(first|exact rfl|assumption);(with_reducible first|exact one5))|(refine wm_cell (v := ?_) rfl _ _ rfl rfl ?_ ?_ ?_;rotate_left;(first|assumption|exact (K.below.cell (by assumption)).trans (by assumption));(with_reducible first|exact one5)))|((with_reducible refine at_store ?_);first|(refine wm_put (L' := ?_) (cs := ?_) (new := ?_) (t := ?_) K rfl _ _ _ rfl rfl rfl rfl ?_ ?_ ?_ ?_ rfl rfl ?_;rotate_left 4;(repeat (first|exact Put.hd|(refine Put.tl (L' := ?_) ?_;rotate_left)));(solve|exact Nat.le_of_ble_eq_true rfl|decide|(simp only [List.size_toArray, nums_length];first|assumption|omega)|(simp only [List.size_toArray, nums_length, List.length_set];first|assumption|omega)|simp|omega|(simp only [List.size_toArray, nums_length];omega)|assumption);(solve|(simp only [List.setIfInBounds_toArray];exact rfl)|exact nums_set _ _ _ _|simp only [List.setIfInBounds_toArray, List.set_cons_zero]|simp only [List.setIfInBounds_toArray, List.set_cons_zero, List.set_cons_succ]|(simp only [List.setIfInBounds_toArray, List.set_cons_zero, List.set_cons_succ];exact rfl)|exact rfl);(with_reducible first|exact one5);(try clear K);(try clear ww);intro ww K;(try simp [go_sem] at K))))
  clear t1 t2 t3 t4 t5 t3n t4n t5n e1 f1
  go_loopw [8, 35] (fun v j wr => ∃ (i : Nat), i ≤ k ∧ j = .int .i64 i ∧ v = .int .u64 ((x % 256 ^ i : Nat) : Int) ∧ St w.heap.size w [] Any wr) (fun _ j _ => k - (intOf j).toNat)
  case atStart => exact ⟨0, Nat.zero_le _, rfl, by rw [M0]; rfl, K⟩
  case round =>
    clear K M0
    obtain ⟨i, hi, rfl, rfl, K⟩ := hrel
    by_cases hlt : i < k
    · have ht : decide ((i : Int) < k) = true := decide_eq_true (by omega)
      have hv := HV.out i hlt
      have ls := LS.out i (by omega)
      obtain ⟨q, hq⟩ : ∃ q, a + i = q := ⟨_, rfl⟩
      rw [hq] at hv
      have e2 := wrapI (a := (a : Int) + i) (b := (q : Int)) (by omega) (by omega) (by omega)
      obtain ⟨e2, f2⟩ := e2
      obtain ⟨d, hd⟩ : ∃ d, 8 * i = d := ⟨_, rfl⟩
      rw [hd] at ls
      have e4 := wrapI (a := 8 * (i : Int)) (b := (d : Int)) (by omega) (by omega) (by omega)
      obtain ⟨e4, f4⟩ := e4
      have hd64 : min d 64 = d := by omega
      have hmi : q < n := by omega
      have hmt : decide ((q : Int) < n) = true := decide_eq_true (by omega)
      have hy : x / 256 ^ i % 256 < 256 := Nat.mod_lt _ (by omega)
      obtain ⟨z, hz⟩ : ∃ z, x % 256 ^ (i + 1) = z := ⟨_, rfl⟩
      rw [hz] at ls
      have HZ := Lib.hid hz
      generalize x % 256 ^ i = u at *
      generalize x / 256 ^ i % 256 = y at *
      have ey : IntKind.u64.wrap (y : Int) = y := IntWalk.u64_in _ (by omega)
      clear hq hd hz
      go_wp2_with (first|go_big_skip|((with_reducible refine at_load ?_);first|(refine wm_own (cs := ?_) (t := ?_) (v := ?_) K rfl _ _ rfl rfl ?_ ?_ ?_ ?_;rotate_left 2;(repeat (first|exact At.hd|refine At.tl ?_));rotate_left;(first|exact rfl|assumption);(with_reducible first|exact one5))|(refine wm_cell (v := ?_) rfl _ _ rfl rfl ?_ ?_ ?_;rotate_left;(first|assumption|exact (K.below.cell (by assumption)).trans (by assumption));(with_reducible first|exact one5)))|((with_reducible refine at_store ?_);first|(refine wm_put (L' := ?_) (cs := ?_) (new := ?_) (t := ?_) K rfl _ _ _ rfl rfl rfl rfl ?_ ?_ ?_ ?_ rfl rfl ?_;rotate_left 4;(repeat (first|exact Put.hd|(refine Put.tl (L' := ?_) ?_;rotate_left)));(solve|exact Nat.le_of_ble_eq_true rfl|decide|(simp only [List.size_toArray, nums_length];first|assumption|omega)|(simp only [List.size_toArray, nums_length, List.length_set];first|assumption|omega)|simp|omega|(simp only [List.size_toArray, nums_length];omega)|assumption);(solve|(simp only [List.setIfInBounds_toArray];exact rfl)|exact nums_set _ _ _ _|simp only [List.setIfInBounds_toArray, List.set_cons_zero]|simp only [List.setIfInBounds_toArray, List.set_cons_zero, List.set_cons_succ]|(simp only [List.setIfInBounds_toArray, List.set_cons_zero, List.set_cons_succ];exact rfl)|exact rfl);(with_reducible first|exact one5);(try clear K);(try clear ww);intro ww K;(try simp [go_sem] at K))))
      refine ⟨⟨i + 1, by omega, by go_num, ?_, K⟩, by simp [intOf]; omega⟩
      rw [HZ.out]
    · obtain rfl : k = i := by omega
      have ht : decide ((k : Int) < k) = false := decide_eq_false (by omega)
      go_wp2_with (first|go_big_skip|((with_reducible refine at_load ?_);first|(refine wm_own (cs := ?_) (t := ?_) (v := ?_) K rfl _ _ rfl rfl ?_ ?_ ?_ ?_;rotate_left 2;(repeat (first|exact At.hd|refine At.tl ?_));rotate_left;(first|exact rfl|assumption);(with_reducible first|exact one5))|(refine wm_cell (v := ?_) rfl _ _ rfl rfl ?_ ?_ ?_;rotate_left;(first|assumption|exact (K.below.cell (by assumption)).trans (by assumption));(with_reducible first|exact one5)))|((with_reducible refine at_store ?_);first|(refine wm_put (L' := ?_) (cs := ?_) (new := ?_) (t := ?_) K rfl _ _ _ rfl rfl rfl rfl ?_ ?_ ?_ ?_ rfl rfl ?_;rotate_left 4;(repeat (first|exact Put.hd|(refine Put.tl (L' := ?_) ?_;rotate_left)));(solve|exact Nat.le_of_ble_eq_true rfl|decide|(simp only [List.size_toArray, nums_length];first|assumption|omega)|(simp only [List.size_toArray, nums_length, List.length_set];first|assumption|omega)|simp|omega|(simp only [List.size_toArray, nums_length];omega)|assumption);(solve|(simp only [List.setIfInBounds_toArray];exact rfl)|exact nums_set _ _ _ _|simp only [List.setIfInBounds_toArray, List.set_cons_zero]|simp only [List.setIfInBounds_toArray, List.set_cons_zero, List.set_cons_succ]|(simp only [List.setIfInBounds_toArray, List.set_cons_zero, List.set_cons_succ];exact rfl)|exact rfl);(with_reducible first|exact one5);(try clear K);(try clear ww);intro ww K;(try simp [go_sem] at K))))
      go_ret2
      exact ⟨rfl, K.below⟩
end Go.Proofs.Ytpejoaefnnbghaa
namespace Go.Proofs.Ytpejoaefnnbghaa
open Go.RowKit
attribute [local irreducible] wpHeld wpTree wpList
set_option linter.unusedVariables false
set_option linter.unusedSimpArgs false
theorem cnt_ix6 (w : World) : (Instr.index 159 (.agg #[.int .i64 0, .int .i64 3, .int .i64 2, .int .i64 2, .int .i64 0, .int .i64 1, .int .i64 3, .int .i64 2]) (.int .i64 6)).run Try.prog w = .ok (.int .i64 3) w := by kernel_rfl
theorem cnt_ix7 (w : World) : (Instr.index 159 (.agg #[.int .i64 0, .int .i64 3, .int .i64 2, .int .i64 2, .int .i64 0, .int .i64 1, .int .i64 3, .int .i64 2]) (.int .i64 7)).run Try.prog w = .ok (.int .i64 2) w := by kernel_rfl
set_option maxRecDepth 100000 in
set_option maxHeartbeats 1000000 in
theorem counts26 (w : World) :
    Calls Try.prog 117 #[] w fun e w' => e = .returned (.agg #[.int .i64 0, .int .i64 3, .int .i64 2, .int .i64 2, .int .i64 0, .int .i64 1, .int .i64 3, .int .i64 2]) ∧ Below w.heap.size w w' := by
  have K := St.start w
  go_enter Try.func117, Try.ntmps117
  go_wp2_with (first|go_big_skip|((with_reducible refine at_load ?_);first|(refine wm_load (cs := ?_) (t := ?_) (n := ?_) K rfl _ _ rfl rfl ?_ ?_ ?_ ?_;rotate_left 2;(repeat (first|exact At.hd|refine At.tl ?_));rotate_left;(with_reducible first|exact row159);(solve|exact rfl|simp))|(refine wm_own (cs := ?_) (t := ?_) (v := ?_) K rfl _ _ rfl rfl ?_ ?_ ?_ ?_;rotate_left 2;(repeat (first|exact At.hd|refine At.tl ?_));rotate_left;(first|exact rfl|assumption);(with_reducible first|exact one80))|(refine wm_cell (v := ?_) rfl _ _ rfl rfl ?_ ?_ ?_;rotate_left;(first|assumption|exact (K.below.cell (by assumption)).trans (by assumption));(with_reducible first|exact one80)))|((with_reducible refine at_store ?_);(first|(refine wm_store (L' := ?_) (cs := ?_) (t := ?_) (n := ?_) K rfl _ _ _ rfl rfl rfl rfl ?_ ?_ ?_ ?_ ?_ ?_;rotate_left 3;(repeat (first|exact Put.hd|(refine Put.tl (L' := ?_) ?_;rotate_left)));rotate_left;(with_reducible first|exact row159);(solve|exact rfl|simp);(solve|exact rfl|simp);(solve|exact rfl|simp [Ones, Value.oneCell']))|(refine wm_put (L' := ?_) (cs := ?_) (new := ?_) (t := ?_) K rfl _ _ _ rfl rfl rfl rfl ?_ ?_ ?_ ?_ rfl rfl ?_;rotate_left 4;(repeat (first|exact Put.hd|(refine Put.tl (L' := ?_) ?_;rotate_left)));(solve|exact Nat.le_of_ble_eq_true rfl|decide|(simp only [List.size_toArray, nums_length];first|assumption|omega)|(simp only [List.size_toArray, nums_length, List.length_set];first|assumption|omega)|simp|omega|(simp only [List.size_toArray, nums_length];omega)|assumption);(solve|(simp only [List.setIfInBounds_toArray];exact rfl)|exact nums_set _ _ _ _|simp only [List.setIfInBounds_toArray, List.set_cons_zero]|simp only [List.setIfInBounds_toArray, List.set_cons_zero, List.set_cons_succ]|(simp only [List.setIfInBounds_toArray, List.set_cons_zero, List.set_cons_succ];exact rfl)|exact rfl);(with_reducible first|exact one80)));(try clear K);(try clear ww);intro ww K;(try simp [go_sem] at K))|((first|((with_reducible refine at_box ?_);refine wm_box K rfl _ _ rfl rfl rfl ?_)|((with_reducible refine at_alloc ?_);refine wm_alloc (v := ?_) (cs := ?_) K rfl _ rfl ?_ ?_ ?_;rotate_left;(with_reducible first|exact zero159);rotate_left;exact rfl));(try clear K);(try clear ww);((fail_if_success (have _h := b0));intro b0 ww K);(try simp [go_sem, Value.cells] at K)))
  refine bodyPost_ret (K.res (cs := ?_) (t := ?_) (n := ?_) rfl _ rfl ?_ ?_ ?_) rfl ?_;rotate_left 2;(repeat (first|exact At.hd|refine At.tl ?_));rotate_left;(with_reducible first|exact row159);(solve|exact rfl|simp)
  exact ⟨rfl, K.below⟩
set_option maxRecDepth 100000 in
set_option maxHeartbeats 1000000 in
theorem Numb26 (kz m : Int) (w : World) (h : (kz = 6 ∧ m = 3) ∨ (kz = 7 ∧ m = 2)) :
    Calls Try.prog 93 #[.int .i64 kz] w fun e w' => e = .returned (.int .i64 m) ∧ Below w.heap.size w w' := by
  have K := St.start w
  have CC := Lib.hid counts26
  rcases h with ⟨rfl, rfl⟩ | ⟨rfl, rfl⟩
  · have ix := cnt_ix6
    go_enter Try.func93, Try.ntmps93
    go_wp2_with (first|go_big_skip|((with_reducible refine at_load ?_);first|(refine wm_load (cs := ?_) (t := ?_) (n := ?_) K rfl _ _ rfl rfl ?_ ?_ ?_ ?_;rotate_left 2;(repeat (first|exact At.hd|refine At.tl ?_));rotate_left;(with_reducible first|exact row159);(solve|exact rfl|simp))|(refine wm_own (cs := ?_) (t := ?_) (v := ?_) K rfl _ _ rfl rfl ?_ ?_ ?_ ?_;rotate_left 2;(repeat (first|exact At.hd|refine At.tl ?_));rotate_left;(first|exact rfl|assumption);(with_reducible first|exact one80))|(refine wm_cell (v := ?_) rfl _ _ rfl rfl ?_ ?_ ?_;rotate_left;(first|assumption|exact (K.below.cell (by assumption)).trans (by assumption));(with_reducible first|exact one80)))|((with_reducible refine at_store ?_);(first|(refine wm_store (L' := ?_) (cs := ?_) (t := ?_) (n := ?_) K rfl _ _ _ rfl rfl rfl rfl ?_ ?_ ?_ ?_ ?_ ?_;rotate_left 3;(repeat (first|exact Put.hd|(refine Put.tl (L' := ?_) ?_;rotate_left)));rotate_left;(with_reducible first|exact row159);(solve|exact rfl|simp);(solve|exact rfl|simp);(solve|exact rfl|simp [Ones, Value.oneCell']))|(refine wm_put (L' := ?_) (cs := ?_) (new := ?_) (t := ?_) K rfl _ _ _ rfl rfl rfl rfl ?_ ?_ ?_ ?_ rfl rfl ?_;rotate_left 4;(repeat (first|exact Put.hd|(refine Put.tl (L' := ?_) ?_;rotate_left)));(solve|exact Nat.le_of_ble_eq_true rfl|decide|(simp only [List.size_toArray, nums_length];first|assumption|omega)|(simp only [List.size_toArray, nums_length, List.length_set];first|assumption|omega)|simp|omega|(simp only [List.size_toArray, nums_length];omega)|assumption);(solve|(simp only [List.setIfInBounds_toArray];exact rfl)|exact nums_set _ _ _ _|simp only [List.setIfInBounds_toArray, List.set_cons_zero]|simp only [List.setIfInBounds_toArray, List.set_cons_zero, List.set_cons_succ]|(simp only [List.setIfInBounds_toArray, List.set_cons_zero, List.set_cons_succ];exact rfl)|exact rfl);(with_reducible first|exact one80)));(try clear K);(try clear ww);intro ww K;(try simp [go_sem] at K))|(go_at_call 117;(with_reducible refine (CC.out _).mono ?_);rintro e w2 ⟨rfl, k1⟩;replace K := K.step k1;clear k1;(try clear ww);revert w2;intro ww K))
    go_ret
    exact ⟨rfl, K.below⟩
  · have ix := cnt_ix7
    go_enter Try.func93, Try.ntmps93
    go_wp2_with (first|go_big_skip|((with_reducible refine at_load ?_);first|(refine wm_load (cs := ?_) (t := ?_) (n := ?_) K rfl _ _ rfl rfl ?_ ?_ ?_ ?_;rotate_left 2;(repeat (first|exact At.hd|refine At.tl ?_));rotate_left;(with_reducible first|exact row159);(solve|exact rfl|simp))|(refine wm_own (cs := ?_) (t := ?_) (v := ?_) K rfl _ _ rfl rfl ?_ ?_ ?_ ?_;rotate_left 2;(repeat (first|exact At.hd|refine At.tl ?_));rotate_left;(first|exact rfl|assumption);(with_reducible first|exact one80))|(refine wm_cell (v := ?_) rfl _ _ rfl rfl ?_ ?_ ?_;rotate_left;(first|assumption|exact (K.below.cell (by assumption)).trans (by assumption));(with_reducible first|exact one80)))|((with_reducible refine at_store ?_);(first|(refine wm_store (L' := ?_) (cs := ?_) (t := ?_) (n := ?_) K rfl _ _ _ rfl rfl rfl rfl ?_ ?_ ?_ ?_ ?_ ?_;rotate_left 3;(repeat (first|exact Put.hd|(refine Put.tl (L' := ?_) ?_;rotate_left)));rotate_left;(with_reducible first|exact row159);(solve|exact rfl|simp);(solve|exact rfl|simp);(solve|exact rfl|simp [Ones, Value.oneCell']))|(refine wm_put (L' := ?_) (cs := ?_) (new := ?_) (t := ?_) K rfl _ _ _ rfl rfl rfl rfl ?_ ?_ ?_ ?_ rfl rfl ?_;rotate_left 4;(repeat (first|exact Put.hd|(refine Put.tl (L' := ?_) ?_;rotate_left)));(solve|exact Nat.le_of_ble_eq_true rfl|decide|(simp only [List.size_toArray, nums_length];first|assumption|omega)|(simp only [List.size_toArray, nums_length, List.length_set];first|assumption|omega)|simp|omega|(simp only [List.size_toArray, nums_length];omega)|assumption);(solve|(simp only [List.setIfInBounds_toArray];exact rfl)|exact nums_set _ _ _ _|simp only [List.setIfInBounds_toArray, List.set_cons_zero]|simp only [List.setIfInBounds_toArray, List.set_cons_zero, List.set_cons_succ]|(simp only [List.setIfInBounds_toArray, List.set_cons_zero, List.set_cons_succ];exact rfl)|exact rfl);(with_reducible first|exact one80)));(try clear K);(try clear ww);intro ww K;(try simp [go_sem] at K))|(go_at_call 117;(with_reducible refine (CC.out _).mono ?_);rintro e w2 ⟨rfl, k1⟩;replace K := K.step k1;clear k1;(try clear ww);revert w2;intro ww K))
    go_ret
    exact ⟨rfl, K.below⟩
set_option maxRecDepth 100000 in
set_option maxHeartbeats 1000000 in
theorem Size26 (kz m r : Int) (w : World) (h : (kz = 6 ∧ m = 3 ∧ r = 24) ∨ (kz = 7 ∧ m = 2 ∧ r = 20)) :
    Calls Try.prog 96 #[.int .i64 kz] w fun e w' => e = .returned (.int .i64 r) ∧ Below w.heap.size w w' := by
  have K := St.start w
  have NN := Lib.hid (fun w => Numb26 kz m w (by omega))
  rcases h with ⟨rfl, rfl, rfl⟩ | ⟨rfl, rfl, rfl⟩ <;> (
  go_enter Try.func96, Try.ntmps96
  go_wp2_with (first|go_big_skip|((with_reducible refine at_load ?_);first|(refine wm_load (cs := ?_) (t := ?_) (n := ?_) K rfl _ _ rfl rfl ?_ ?_ ?_ ?_;rotate_left 2;(repeat (first|exact At.hd|refine At.tl ?_));rotate_left;(with_reducible first|exact row159);(solve|exact rfl|simp))|(refine wm_own (cs := ?_) (t := ?_) (v := ?_) K rfl _ _ rfl rfl ?_ ?_ ?_ ?_;rotate_left 2;(repeat (first|exact At.hd|refine At.tl ?_));rotate_left;(first|exact rfl|assumption);(with_reducible first|exact one80))|(refine wm_cell (v := ?_) rfl _ _ rfl rfl ?_ ?_ ?_;rotate_left;(first|assumption|exact (K.below.cell (by assumption)).trans (by assumption));(with_reducible first|exact one80)))|((with_reducible refine at_store ?_);(first|(refine wm_store (L' := ?_) (cs := ?_) (t := ?_) (n := ?_) K rfl _ _ _ rfl rfl rfl rfl ?_ ?_ ?_ ?_ ?_ ?_;rotate_left 3;(repeat (first|exact Put.hd|(refine Put.tl (L' := ?_) ?_;rotate_left)));rotate_left;(with_reducible first|exact row159);(solve|exact rfl|simp);(solve|exact rfl|simp);(solve|exact rfl|simp [Ones, Value.oneCell']))|(refine wm_put (L' := ?_) (cs := ?_) (new := ?_) (t := ?_) K rfl _ _ _ rfl rfl rfl rfl ?_ ?_ ?_ ?_ rfl rfl ?_;rotate_left 4;(repeat (first|exact Put.hd|(refine Put.tl (L' := ?_) ?_;rotate_left)));(solve|exact Nat.le_of_ble_eq_true rfl|decide|(simp only [List.size_toArray, nums_length];first|assumption|omega)|(simp only [List.size_toArray, nums_length, List.length_set];first|assumption|omega)|simp|omega|(simp only [List.size_toArray, nums_length];omega)|assumption);(solve|(simp only [List.setIfInBounds_toArray];exact rfl)|exact nums_set _ _ _ _|simp only [List.setIfInBounds_toArray, List.set_cons_zero]|simp only [List.setIfInBounds_toArray, List.set_cons_zero, List.set_cons_succ]|(simp only [List.setIfInBounds_toArray, List.set_cons_zero, List.set_cons_succ];exact rfl)|exact rfl);(with_reducible first|exact one80)));(try clear K);(try clear ww);intro ww K;(try simp [go_sem] at K))|(go_at_call 93;(with_reducible refine (NN.out _).mono ?_);rintro e w2 ⟨rfl, k1⟩;replace K := K.step k1;clear k1;(try clear ww);revert w2;intro ww K))
  go_ret
  exact ⟨rfl, K.below⟩)
theorem num26 (b1 n c a k x : Nat) (az kz : Int) (A : Option Addr) (l : List Nat) (w : World) (haz : az = a) (hkz : kz = k) (hb : w.cell? ⟨b1, 0, none⟩ = some (.slice A n c)) (h : Rd w A n (nums .u8 l)) (hn : n ≤ 1000) (hak : a + k ≤ n) (hk : k ≤ 8) (hk0 : 0 < k) (hx : x < 256 ^ k) (hx64 : x < 18446744073709551616) (hl : ∀ i, i < k → l[a + i]? = some (x / 256 ^ i % 256)) :
    Calls Try.prog 98 #[.int .i64 az, .int .i64 kz, .pointer (some ⟨b1, 0, none⟩)] w fun e w' => e = .returned (.int .u64 x) ∧ Below w.heap.size w w' := by
  have K := St.start w
  subst haz hkz
  have GG := Lib.hid (fun w2 (g : Below w.heap.size w w2) => Get26_any A n c a k x a k l w2 rfl rfl (h.below g) hn hak hk hk0 hx64 hl)
  rw [Nat.mod_eq_of_lt hx] at GG
  have hlt : b1 < w.heap.size := (cell_some hb).2
  clear h hl hx
  go_enter Try.func98, Try.ntmps98
  go_wp2_with (first|go_big_skip|((with_reducible refine at_load ?_);first|(refine wm_load (cs := ?_) (t := ?_) (n := ?_) K rfl _ _ rfl rfl ?_ ?_ ?_ ?_;rotate_left 2;(repeat (first|exact At.hd|refine At.tl ?_));rotate_left;(with_reducible first|exact row159);(solve|exact rfl|simp))|(refine wm_own (cs := ?_) (t := ?_) (v := ?_) K rfl _ _ rfl rfl ?_ ?_ ?_ ?_;rotate_left 2;(repeat (first|exact At.hd|refine At.tl ?_));rotate_left;(first|exact rfl|assumption);(with_reducible first|exact one80))|(refine wm_cell (v := ?_) rfl _ _ rfl rfl ?_ ?_ ?_;rotate_left;(first|assumption|exact (K.below.cell (by assumption)).trans (by assumption));(with_reducible first|exact one80)))|((with_reducible refine at_store ?_);(first|(refine wm_store (L' := ?_) (cs := ?_) (t := ?_) (n := ?_) K rfl _ _ _ rfl rfl rfl rfl ?_ ?_ ?_ ?_ ?_ ?_;rotate_left 3;(repeat (first|exact Put.hd|(refine Put.tl (L' := ?_) ?_;rotate_left)));rotate_left;(with_reducible first|exact row159);(solve|exact rfl|simp);(solve|exact rfl|simp);(solve|exact rfl|simp [Ones, Value.oneCell']))|(refine wm_put (L' := ?_) (cs := ?_) (new := ?_) (t := ?_) K rfl _ _ _ rfl rfl rfl rfl ?_ ?_ ?_ ?_ rfl rfl ?_;rotate_left 4;(repeat (first|exact Put.hd|(refine Put.tl (L' := ?_) ?_;rotate_left)));(solve|exact Nat.le_of_ble_eq_true rfl|decide|(simp only [List.size_toArray, nums_length];first|assumption|omega)|(simp only [List.size_toArray, nums_length, List.length_set];first|assumption|omega)|simp|omega|(simp only [List.size_toArray, nums_length];omega)|assumption);(solve|(simp only [List.setIfInBounds_toArray];exact rfl)|exact nums_set _ _ _ _|simp only [List.setIfInBounds_toArray, List.set_cons_zero]|simp only [List.setIfInBounds_toArray, List.set_cons_zero, List.set_cons_succ]|(simp only [List.setIfInBounds_toArray, List.set_cons_zero, List.set_cons_succ];exact rfl)|exact rfl);(with_reducible first|exact one80)));(try clear K);(try clear ww);intro ww K;(try simp [go_sem] at K))|(go_at_call 99;(with_reducible refine (GG.out _ K.below).mono ?_);rintro e w2 ⟨rfl, k1⟩;replace K := K.step k1;clear k1;(try clear ww);revert w2;intro ww K))
  go_ret
  exact ⟨rfl, K.below⟩
end Go.Proofs.Ytpejoaefnnbghaa
namespace Go.Proofs.Ytpejoaefnnbghaa
open Go.RowKit
attribute [local irreducible] wpHeld wpTree wpList
set_option linter.unusedVariables false
set_option linter.unusedSimpArgs false
def bod26 (k s t : Nat) (ns : List Nat) : Nat → List Nat
  | 0 => [126, k] ++ leB 2 s ++ leB 4 t
  | i + 1 => bod26 k s t ns i ++ leB 4 (ns.getD i 0)
theorem bod_len (k s t : Nat) (ns : List Nat) : ∀ i, (bod26 k s t ns i).length = 8 + 4 * i
  | 0 => by simp [bod26, leB_len]
  | i + 1 => by rw [bod26, List.length_append, bod_len k s t ns i, leB_len]; omega
theorem bod_lt {k s t : Nat} {ns : List Nat} (hk : k < 256) : ∀ i, ∀ x ∈ bod26 k s t ns i, x < 256
  | 0, x, h => by
    simp only [bod26, List.mem_append, List.mem_cons, List.not_mem_nil, or_false] at h
    rcases h with ((rfl | rfl) | h) | h
    · omega
    · omega
    · exact leB_lt _ _ _ h
    · exact leB_lt _ _ _ h
  | i + 1, x, h => by
    rw [bod26, List.mem_append] at h
    rcases h with h | h
    · exact bod_lt hk i x h
    · exact leB_lt _ _ _ h
def u32N (a : Int) : Nat := (IntKind.u32.wrap a).toNat
theorem u32N_is (a : Int) : IntKind.u32.wrap a = (u32N a : Int) ∧ u32N a < 4294967296 := by
  obtain ⟨n, hn, e⟩ := wrap_u32 a
  unfold u32N; rw [e]; exact ⟨rfl, hn⟩
def byt26 (k s t : Nat) (ns : List Nat) (m : Nat) : List Nat := bod26 k s t ns m ++ leB 4 (crcN (bod26 k s t ns m))
set_option maxRecDepth 100000 in
set_option maxHeartbeats 4000000 in
theorem FPut7 (s t : Nat) (a b c : Int) (w : World) (hs : s < 65536) (ht : t < 4294967296) :
    Calls Try.prog 49 #[.agg #[.int .i64 7, .int .u16 s, .int .u32 t, .int .i32 a, .int .i32 b, .int .i32 0]] w fun e w' => ∃ A2 c2, e = .returned (.tuple #[.slice A2 20 c2, .int .i64 0]) ∧ (Rd w' A2 20 (nums .u8 (byt26 7 s t [u32N a, u32N b] 2)) ∧ Nw w.heap.size A2) ∧ 20 ≤ c2 ∧ Below w.heap.size w w' := by
  have K := St.start w
  have NN := Lib.hid (fun w => Numb26 7 2 w (by omega))
  have P0 : Hid (∀ (A : Option Addr) (c0 : Nat) (w : World), Rd w A 2 (ints .u8 [126, 7]) → Calls Try.prog 94 #[.slice A 2 c0, .int .u64 s, .int .i64 2] w fun e w' => ∃ A2 c2, e = .returned (.slice A2 4 c2) ∧ (Rd w' A2 4 (nums .u8 ([126, 7] ++ leB 2 s)) ∧ Nw w.heap.size A2) ∧ 4 ≤ c2 ∧ Below w.heap.size w w') := Lib.hid (fun A c0 w h => Put26_any A 2 c0 [126, 7] s 2 2 w rfl h (by omega) (by omega) (by omega) (by omega))
  have P1 : Hid (∀ (A : Option Addr) (c0 : Nat) (w : World), Rd w A 4 (nums .u8 ([126, 7] ++ leB 2 s)) → Calls Try.prog 94 #[.slice A 4 c0, .int .u64 t, .int .i64 4] w fun e w' => ∃ A2 c2, e = .returned (.slice A2 8 c2) ∧ (Rd w' A2 8 (nums .u8 (bod26 7 s t [u32N a, u32N b] 0)) ∧ Nw w.heap.size A2) ∧ 8 ≤ c2 ∧ Below w.heap.size w w') := Lib.hid (fun A c0 w h => Put26_any A 4 c0 _ t 4 4 w rfl h (by omega) (by omega) (by omega) (by omega))
  have Q0 : Hid (∀ (A : Option Addr) (c0 : Nat) (w : World), Rd w A 8 (nums .u8 (bod26 7 s t [u32N a, u32N b] 0)) → Calls Try.prog 94 #[.slice A 8 c0, .int .u64 (u32N a), .int .i64 4] w fun e w' => ∃ A2 c2, e = .returned (.slice A2 12 c2) ∧ (Rd w' A2 12 (nums .u8 (bod26 7 s t [u32N a, u32N b] 1)) ∧ Nw w.heap.size A2) ∧ 12 ≤ c2 ∧ Below w.heap.size w w') := Lib.hid (fun A c0 w h => Put26_any A 8 c0 _ (u32N a) 4 4 w rfl h (by omega) (by omega) (by have := (u32N_is a).2; omega) (by omega))
  have Q1 : Hid (∀ (A : Option Addr) (c0 : Nat) (w : World), Rd w A 12 (nums .u8 (bod26 7 s t [u32N a, u32N b] 1)) → Calls Try.prog 94 #[.slice A 12 c0, .int .u64 (u32N b), .int .i64 4] w fun e w' => ∃ A2 c2, e = .returned (.slice A2 16 c2) ∧ (Rd w' A2 16 (nums .u8 (bod26 7 s t [u32N a, u32N b] 2)) ∧ Nw w.heap.size A2) ∧ 16 ≤ c2 ∧ Below w.heap.size w w') := Lib.hid (fun A c0 w h => Put26_any A 12 c0 _ (u32N b) 4 4 w rfl h (by omega) (by omega) (by have := (u32N_is b).2; omega) (by omega))
  have PP : Hid (∀ (A : Option Addr) (c0 : Nat) (w : World), Rd w A 16 (nums .u8 (bod26 7 s t [u32N a, u32N b] 2)) → Calls Try.prog 95 #[.slice A 16 c0] w fun e w' => ∃ A2 c2, e = .returned (.slice A2 20 c2) ∧ (Rd w' A2 20 (nums .u8 (byt26 7 s t [u32N a, u32N b] 2)) ∧ Nw w.heap.size A2) ∧ 20 ≤ c2 ∧ Below w.heap.size w w') := Lib.hid (fun A c0 w h => CPut26_any A 16 c0 _ w h (by omega) (by omega) (bod_lt (by omega) _))
  have es : IntKind.u64.wrap (s : Int) = s := IntWalk.u64_in _ (by omega)
  have et : IntKind.u64.wrap (t : Int) = t := IntWalk.u64_in _ (by omega)
  have ea := (u32N_is a).1
  have ea2 : IntKind.u64.wrap (u32N a : Int) = u32N a := IntWalk.u64_in _ (by have := (u32N_is a).2; omega)
  have eb := (u32N_is b).1
  have eb2 : IntKind.u64.wrap (u32N b : Int) = u32N b := IntWalk.u64_in _ (by have := (u32N_is b).2; omega)
  generalize byt26 7 s t [u32N a, u32N b] 2 = fin at *
  generalize bod26 7 s t [u32N a, u32N b] = bo at *
  generalize u32N a = na at *
  generalize u32N b = nb at *
  clear hs ht
  go_enter Try.func49, Try.ntmps49
  go_wp2_with (first|go_big_skip|((with_reducible refine at_load ?_);first|(refine wm_load (cs := ?_) (t := ?_) (n := ?_) K rfl _ _ rfl rfl ?_ ?_ ?_ ?_;rotate_left 2;(repeat (first|exact At.hd|refine At.tl ?_));rotate_left;(with_reducible first|exact row128);(solve|exact rfl|simp))|(refine wm_own (cs := ?_) (t := ?_) (v := ?_) K rfl _ _ rfl rfl ?_ ?_ ?_ ?_;rotate_left 2;(repeat (first|exact At.hd|refine At.tl ?_));rotate_left;(first|exact rfl|assumption);(with_reducible first|exact one3|exact one21|exact one72|exact one73))|(refine wm_cell (v := ?_) rfl _ _ rfl rfl ?_ ?_ ?_;rotate_left;(first|assumption|exact (K.below.cell (by assumption)).trans (by assumption));(with_reducible first|exact one3|exact one21|exact one72|exact one73)))|((with_reducible refine at_store ?_);(first|(refine wm_store (L' := ?_) (cs := ?_) (t := ?_) (n := ?_) K rfl _ _ _ rfl rfl rfl rfl ?_ ?_ ?_ ?_ ?_ ?_;rotate_left 3;(repeat (first|exact Put.hd|(refine Put.tl (L' := ?_) ?_;rotate_left)));rotate_left;(with_reducible first|exact row128);(solve|exact rfl|simp);(solve|exact rfl|simp);(solve|exact rfl|simp [Ones, Value.oneCell']))|(refine wm_put (L' := ?_) (cs := ?_) (new := ?_) (t := ?_) K rfl _ _ _ rfl rfl rfl rfl ?_ ?_ ?_ ?_ rfl rfl ?_;rotate_left 4;(repeat (first|exact Put.hd|(refine Put.tl (L' := ?_) ?_;rotate_left)));(solve|exact Nat.le_of_ble_eq_true rfl|decide|(simp only [List.size_toArray, nums_length];first|assumption|omega)|(simp only [List.size_toArray, nums_length, List.length_set];first|assumption|omega)|simp|omega|(simp only [List.size_toArray, nums_length];omega)|assumption);(solve|(simp only [List.setIfInBounds_toArray];exact rfl)|exact nums_set _ _ _ _|simp only [List.setIfInBounds_toArray, List.set_cons_zero]|simp only [List.setIfInBounds_toArray, List.set_cons_zero, List.set_cons_succ]|(simp only [List.setIfInBounds_toArray, List.set_cons_zero, List.set_cons_succ];exact rfl)|exact rfl);(with_reducible first|exact one3|exact one21|exact one72|exact one73)));(try clear K);(try clear ww);intro ww K;(try simp [go_sem] at K))|((first|((with_reducible refine at_box ?_);refine wm_box K rfl _ _ rfl rfl rfl ?_)|((with_reducible refine at_alloc ?_);refine wm_alloc (v := ?_) (cs := ?_) K rfl _ rfl ?_ ?_ ?_;rotate_left;(with_reducible first|exact zero128);rotate_left;exact rfl));(try clear K);(try clear ww);(first|((fail_if_success (have _h := b1));intro b1 ww K)|((fail_if_success (have _h := b5));intro b5 ww K));(try simp [go_sem, Value.cells] at K))|(go_at_call 93;(with_reducible refine (NN.out _).mono ?_);rintro e w2 ⟨rfl, k1⟩;replace K := K.step k1;clear k1;(try clear ww);revert w2;intro ww K))
  go_loopw [26] (fun j wr => ∃ (i : Nat), i ≤ 1 ∧ j = .int .i64 i ∧ St w.heap.size w [(b5, #[.int .i32 a, .int .i32 b, .int .i32 0], 128), (b1, #[.int .i64 7, .int .u16 s, .int .u32 t, .int .i32 a, .int .i32 b, .int .i32 0], 76)] Any wr) (fun j _ => 1 - (intOf j).toNat)
  case atStart => exact ⟨0, by omega, rfl, K⟩
  case round =>
    clear K
    obtain ⟨i, hi, rfl, K⟩ := hrel
    rcases i with _ | _ | i
    · go_wp2_with (first|go_big_skip|((with_reducible refine at_load ?_);first|(refine wm_load (cs := ?_) (t := ?_) (n := ?_) K rfl _ _ rfl rfl ?_ ?_ ?_ ?_;rotate_left 2;(repeat (first|exact At.hd|refine At.tl ?_));rotate_left;(with_reducible first|exact row128);(solve|exact rfl|simp))|(refine wm_own (cs := ?_) (t := ?_) (v := ?_) K rfl _ _ rfl rfl ?_ ?_ ?_ ?_;rotate_left 2;(repeat (first|exact At.hd|refine At.tl ?_));rotate_left;(first|exact rfl|assumption);(with_reducible first|exact one3|exact one21|exact one72|exact one73))|(refine wm_cell (v := ?_) rfl _ _ rfl rfl ?_ ?_ ?_;rotate_left;(first|assumption|exact (K.below.cell (by assumption)).trans (by assumption));(with_reducible first|exact one3|exact one21|exact one72|exact one73)))|((with_reducible refine at_store ?_);(first|(refine wm_store (L' := ?_) (cs := ?_) (t := ?_) (n := ?_) K rfl _ _ _ rfl rfl rfl rfl ?_ ?_ ?_ ?_ ?_ ?_;rotate_left 3;(repeat (first|exact Put.hd|(refine Put.tl (L' := ?_) ?_;rotate_left)));rotate_left;(with_reducible first|exact row128);(solve|exact rfl|simp);(solve|exact rfl|simp);(solve|exact rfl|simp [Ones, Value.oneCell']))|(refine wm_put (L' := ?_) (cs := ?_) (new := ?_) (t := ?_) K rfl _ _ _ rfl rfl rfl rfl ?_ ?_ ?_ ?_ rfl rfl ?_;rotate_left 4;(repeat (first|exact Put.hd|(refine Put.tl (L' := ?_) ?_;rotate_left)));(solve|exact Nat.le_of_ble_eq_true rfl|decide|(simp only [List.size_toArray, nums_length];first|assumption|omega)|(simp only [List.size_toArray, nums_length, List.length_set];first|assumption|omega)|simp|omega|(simp only [List.size_toArray, nums_length];omega)|assumption);(solve|(simp only [List.setIfInBounds_toArray];exact rfl)|exact nums_set _ _ _ _|simp only [List.setIfInBounds_toArray, List.set_cons_zero]|simp only [List.setIfInBounds_toArray, List.set_cons_zero, List.set_cons_succ]|(simp only [List.setIfInBounds_toArray, List.set_cons_zero, List.set_cons_succ];exact rfl)|exact rfl);(with_reducible first|exact one3|exact one21|exact one72|exact one73)));(try clear K);(try clear ww);intro ww K;(try simp [go_sem] at K)))
      exact ⟨⟨1, by omega, by go_num, K⟩, by simp [intOf]⟩
    · skip
      go_wp2_with (first|go_big_skip|((with_reducible refine at_load ?_);first|(refine wm_load (cs := ?_) (t := ?_) (n := ?_) K rfl _ _ rfl rfl ?_ ?_ ?_ ?_;rotate_left 2;(repeat (first|exact At.hd|refine At.tl ?_));rotate_left;(with_reducible first|exact row128);(solve|exact rfl|simp))|(refine wm_own (cs := ?_) (t := ?_) (v := ?_) K rfl _ _ rfl rfl ?_ ?_ ?_ ?_;rotate_left 2;(repeat (first|exact At.hd|refine At.tl ?_));rotate_left;(first|exact rfl|assumption);(with_reducible first|exact one3|exact one21|exact one72|exact one73))|(refine wm_cell (v := ?_) rfl _ _ rfl rfl ?_ ?_ ?_;rotate_left;(first|assumption|exact (K.below.cell (by assumption)).trans (by assumption));(with_reducible first|exact one3|exact one21|exact one72|exact one73)))|((with_reducible refine at_store ?_);(first|(refine wm_store (L' := ?_) (cs := ?_) (t := ?_) (n := ?_) K rfl _ _ _ rfl rfl rfl rfl ?_ ?_ ?_ ?_ ?_ ?_;rotate_left 3;(repeat (first|exact Put.hd|(refine Put.tl (L' := ?_) ?_;rotate_left)));rotate_left;(with_reducible first|exact row128);(solve|exact rfl|simp);(solve|exact rfl|simp);(solve|exact rfl|simp [Ones, Value.oneCell']))|(refine wm_put (L' := ?_) (cs := ?_) (new := ?_) (t := ?_) K rfl _ _ _ rfl rfl rfl rfl ?_ ?_ ?_ ?_ rfl rfl ?_;rotate_left 4;(repeat (first|exact Put.hd|(refine Put.tl (L' := ?_) ?_;rotate_left)));(solve|exact Nat.le_of_ble_eq_true rfl|decide|(simp only [List.size_toArray, nums_length];first|assumption|omega)|(simp only [List.size_toArray, nums_length, List.length_set];first|assumption|omega)|simp|omega|(simp only [List.size_toArray, nums_length];omega)|assumption);(solve|(simp only [List.setIfInBounds_toArray];exact rfl)|exact nums_set _ _ _ _|simp only [List.setIfInBounds_toArray, List.set_cons_zero]|simp only [List.setIfInBounds_toArray, List.set_cons_zero, List.set_cons_succ]|(simp only [List.setIfInBounds_toArray, List.set_cons_zero, List.set_cons_succ];exact rfl)|exact rfl);(with_reducible first|exact one3|exact one21|exact one72|exact one73)));(try clear K);(try clear ww);intro ww K;(try simp [go_sem] at K))|((with_reducible refine at_bsl4 ?_);refine wm_ints4 K rfl _ _ _ rfl Try.underlying80 [126, 7] num5 rfl rfl (by decide) ?_;(try clear K);(try clear ww);intro bi1 ww K)|(go_at_call 94;(with_reducible refine (P0.out _ _ _ (by first|exact K.fact.1.1|exact K.fact.2.1.1|exact K.fact.2.2.1.1|exact K.fact.2.2.2.1.1|exact K.fact.2.2.2.2.1.1|exact K.fact.2.2.2.2.2.1.1|exact K.fact.2.2.2.2.2.2.1.1|exact K.fact.2.2.2.2.2.2.2.1.1|exact K.fact.2.2.2.2.2.2.2.2.1.1|exact K.fact.2.2.2.2.2.2.2.2.2.1.1|exact K.fact.2.2.2.2.2.2.2.2.2.2.1.1|exact K.fact.2.2.2.2.2.2.2.2.2.2.2.1.1|exact K.fact.1|exact K.fact.2.1|exact K.fact.2.2.1|exact K.fact.2.2.2.1|exact K.fact.2.2.2.2.1|exact K.fact.2.2.2.2.2.1|exact K.fact.2.2.2.2.2.2.1|exact K.fact.2.2.2.2.2.2.2.1|exact K.fact.2.2.2.2.2.2.2.2.1|exact K.fact.2.2.2.2.2.2.2.2.2.1|exact K.fact.2.2.2.2.2.2.2.2.2.2.1|exact K.fact.2.2.2.2.2.2.2.2.2.2.2.1|exact K.fact|exact K.fact.2|exact K.fact.2.2|exact K.fact.2.2.2|exact K.fact.2.2.2.2|exact K.fact.2.2.2.2.2|exact K.fact.2.2.2.2.2.2|exact K.fact.2.2.2.2.2.2.2|exact K.fact.2.2.2.2.2.2.2.2|exact K.fact.2.2.2.2.2.2.2.2.2|exact K.fact.2.2.2.2.2.2.2.2.2.2|exact K.fact.2.2.2.2.2.2.2.2.2.2.2)).mono ?_);rintro e w2 ⟨A1, x1, rfl, ⟨h2, hA⟩, hcc, hbel⟩;(try dsimp only);replace K := K.madeRd hbel h2 hA;have hcc := Lib.hid hcc;clear hbel h2 hA;(try clear ww);revert w2;intro ww K)|(go_at_call 94;(with_reducible refine (P1.out _ _ _ (by first|exact K.fact.1.1|exact K.fact.2.1.1|exact K.fact.2.2.1.1|exact K.fact.2.2.2.1.1|exact K.fact.2.2.2.2.1.1|exact K.fact.2.2.2.2.2.1.1|exact K.fact.2.2.2.2.2.2.1.1|exact K.fact.2.2.2.2.2.2.2.1.1|exact K.fact.2.2.2.2.2.2.2.2.1.1|exact K.fact.2.2.2.2.2.2.2.2.2.1.1|exact K.fact.2.2.2.2.2.2.2.2.2.2.1.1|exact K.fact.2.2.2.2.2.2.2.2.2.2.2.1.1|exact K.fact.1|exact K.fact.2.1|exact K.fact.2.2.1|exact K.fact.2.2.2.1|exact K.fact.2.2.2.2.1|exact K.fact.2.2.2.2.2.1|exact K.fact.2.2.2.2.2.2.1|exact K.fact.2.2.2.2.2.2.2.1|exact K.fact.2.2.2.2.2.2.2.2.1|exact K.fact.2.2.2.2.2.2.2.2.2.1|exact K.fact.2.2.2.2.2.2.2.2.2.2.1|exact K.fact.2.2.2.2.2.2.2.2.2.2.2.1|exact K.fact|exact K.fact.2|exact K.fact.2.2|exact K.fact.2.2.2|exact K.fact.2.2.2.2|exact K.fact.2.2.2.2.2|exact K.fact.2.2.2.2.2.2|exact K.fact.2.2.2.2.2.2.2|exact K.fact.2.2.2.2.2.2.2.2|exact K.fact.2.2.2.2.2.2.2.2.2|exact K.fact.2.2.2.2.2.2.2.2.2.2|exact K.fact.2.2.2.2.2.2.2.2.2.2.2)).mono ?_);rintro e w2 ⟨A1, x1, rfl, ⟨h2, hA⟩, hcc, hbel⟩;(try dsimp only);replace K := K.madeRd hbel h2 hA;have hcc := Lib.hid hcc;clear hbel h2 hA;(try clear ww);revert w2;intro ww K))
      go_loopw [8, 49] (fun v j wr => ∃ (i n : Nat) (A : Option Addr) (cq : Nat), i ≤ 2 ∧ n = 8 + 4 * i ∧ j = .int .i64 i ∧ v = .slice A n cq ∧ St w.heap.size w [(b5, #[.int .i32 a, .int .i32 b, .int .i32 0], 128), (b1, #[.int .i64 7, .int .u16 s, .int .u32 t, .int .i32 a, .int .i32 b, .int .i32 0], 76)] (fun w => Rd w A n (nums .u8 (bo i))) wr) (fun _ j _ => 2 - (intOf j).toNat)
      case atStart => exact ⟨0, 8, _, _, by omega, by omega, rfl, rfl, K.weak fun w h => h.1⟩
      case round =>
        clear K
        obtain ⟨i, n, A, cq, hi, hn, rfl, rfl, K⟩ := hrel
        rcases i with _ | _ | _ | i
        · obtain rfl : n = 8 := by omega
          skip
          clear hi hn
          go_wp2_with (first|go_big_skip|((with_reducible refine at_load ?_);first|(refine wm_load (cs := ?_) (t := ?_) (n := ?_) K rfl _ _ rfl rfl ?_ ?_ ?_ ?_;rotate_left 2;(repeat (first|exact At.hd|refine At.tl ?_));rotate_left;(with_reducible first|exact row128);(solve|exact rfl|simp))|(refine wm_own (cs := ?_) (t := ?_) (v := ?_) K rfl _ _ rfl rfl ?_ ?_ ?_ ?_;rotate_left 2;(repeat (first|exact At.hd|refine At.tl ?_));rotate_left;(first|exact rfl|assumption);(with_reducible first|exact one3|exact one21|exact one72|exact one73))|(refine wm_cell (v := ?_) rfl _ _ rfl rfl ?_ ?_ ?_;rotate_left;(first|assumption|exact (K.below.cell (by assumption)).trans (by assumption));(with_reducible first|exact one3|exact one21|exact one72|exact one73)))|((with_reducible refine at_store ?_);(first|(refine wm_store (L' := ?_) (cs := ?_) (t := ?_) (n := ?_) K rfl _ _ _ rfl rfl rfl rfl ?_ ?_ ?_ ?_ ?_ ?_;rotate_left 3;(repeat (first|exact Put.hd|(refine Put.tl (L' := ?_) ?_;rotate_left)));rotate_left;(with_reducible first|exact row128);(solve|exact rfl|simp);(solve|exact rfl|simp);(solve|exact rfl|simp [Ones, Value.oneCell']))|(refine wm_put (L' := ?_) (cs := ?_) (new := ?_) (t := ?_) K rfl _ _ _ rfl rfl rfl rfl ?_ ?_ ?_ ?_ rfl rfl ?_;rotate_left 4;(repeat (first|exact Put.hd|(refine Put.tl (L' := ?_) ?_;rotate_left)));(solve|exact Nat.le_of_ble_eq_true rfl|decide|(simp only [List.size_toArray, nums_length];first|assumption|omega)|(simp only [List.size_toArray, nums_length, List.length_set];first|assumption|omega)|simp|omega|(simp only [List.size_toArray, nums_length];omega)|assumption);(solve|(simp only [List.setIfInBounds_toArray];exact rfl)|exact nums_set _ _ _ _|simp only [List.setIfInBounds_toArray, List.set_cons_zero]|simp only [List.setIfInBounds_toArray, List.set_cons_zero, List.set_cons_succ]|(simp only [List.setIfInBounds_toArray, List.set_cons_zero, List.set_cons_succ];exact rfl)|exact rfl);(with_reducible first|exact one3|exact one21|exact one72|exact one73)));(try clear K);(try clear ww);intro ww K;(try simp [go_sem] at K))|(go_at_call 94;(with_reducible refine (Q0.out _ _ _ (by first|exact K.fact.1.1|exact K.fact.2.1.1|exact K.fact.2.2.1.1|exact K.fact.2.2.2.1.1|exact K.fact.2.2.2.2.1.1|exact K.fact.2.2.2.2.2.1.1|exact K.fact.2.2.2.2.2.2.1.1|exact K.fact.2.2.2.2.2.2.2.1.1|exact K.fact.2.2.2.2.2.2.2.2.1.1|exact K.fact.2.2.2.2.2.2.2.2.2.1.1|exact K.fact.2.2.2.2.2.2.2.2.2.2.1.1|exact K.fact.2.2.2.2.2.2.2.2.2.2.2.1.1|exact K.fact.1|exact K.fact.2.1|exact K.fact.2.2.1|exact K.fact.2.2.2.1|exact K.fact.2.2.2.2.1|exact K.fact.2.2.2.2.2.1|exact K.fact.2.2.2.2.2.2.1|exact K.fact.2.2.2.2.2.2.2.1|exact K.fact.2.2.2.2.2.2.2.2.1|exact K.fact.2.2.2.2.2.2.2.2.2.1|exact K.fact.2.2.2.2.2.2.2.2.2.2.1|exact K.fact.2.2.2.2.2.2.2.2.2.2.2.1|exact K.fact|exact K.fact.2|exact K.fact.2.2|exact K.fact.2.2.2|exact K.fact.2.2.2.2|exact K.fact.2.2.2.2.2|exact K.fact.2.2.2.2.2.2|exact K.fact.2.2.2.2.2.2.2|exact K.fact.2.2.2.2.2.2.2.2|exact K.fact.2.2.2.2.2.2.2.2.2|exact K.fact.2.2.2.2.2.2.2.2.2.2|exact K.fact.2.2.2.2.2.2.2.2.2.2.2)).mono ?_);rintro e w2 ⟨A1, x1, rfl, ⟨h2, hA⟩, hcc, hbel⟩;(try dsimp only);replace K := K.madeRd hbel h2 hA;have hcc := Lib.hid hcc;clear hbel h2 hA;(try clear ww);revert w2;intro ww K))
          exact ⟨⟨1, 12, _, _, by omega, by omega, by go_num, rfl, K.weak fun w h => h.1⟩, by simp [intOf]⟩
        · obtain rfl : n = 12 := by omega
          simp only [Nat.zero_add, Nat.reduceAdd] at K ⊢
          clear hi hn
          go_wp2_with (first|go_big_skip|((with_reducible refine at_load ?_);first|(refine wm_load (cs := ?_) (t := ?_) (n := ?_) K rfl _ _ rfl rfl ?_ ?_ ?_ ?_;rotate_left 2;(repeat (first|exact At.hd|refine At.tl ?_));rotate_left;(with_reducible first|exact row128);(solve|exact rfl|simp))|(refine wm_own (cs := ?_) (t := ?_) (v := ?_) K rfl _ _ rfl rfl ?_ ?_ ?_ ?_;rotate_left 2;(repeat (first|exact At.hd|refine At.tl ?_));rotate_left;(first|exact rfl|assumption);(with_reducible first|exact one3|exact one21|exact one72|exact one73))|(refine wm_cell (v := ?_) rfl _ _ rfl rfl ?_ ?_ ?_;rotate_left;(first|assumption|exact (K.below.cell (by assumption)).trans (by assumption));(with_reducible first|exact one3|exact one21|exact one72|exact one73)))|((with_reducible refine at_store ?_);(first|(refine wm_store (L' := ?_) (cs := ?_) (t := ?_) (n := ?_) K rfl _ _ _ rfl rfl rfl rfl ?_ ?_ ?_ ?_ ?_ ?_;rotate_left 3;(repeat (first|exact Put.hd|(refine Put.tl (L' := ?_) ?_;rotate_left)));rotate_left;(with_reducible first|exact row128);(solve|exact rfl|simp);(solve|exact rfl|simp);(solve|exact rfl|simp [Ones, Value.oneCell']))|(refine wm_put (L' := ?_) (cs := ?_) (new := ?_) (t := ?_) K rfl _ _ _ rfl rfl rfl rfl ?_ ?_ ?_ ?_ rfl rfl ?_;rotate_left 4;(repeat (first|exact Put.hd|(refine Put.tl (L' := ?_) ?_;rotate_left)));(solve|exact Nat.le_of_ble_eq_true rfl|decide|(simp only [List.size_toArray, nums_length];first|assumption|omega)|(simp only [List.size_toArray, nums_length, List.length_set];first|assumption|omega)|simp|omega|(simp only [List.size_toArray, nums_length];omega)|assumption);(solve|(simp only [List.setIfInBounds_toArray];exact rfl)|exact nums_set _ _ _ _|simp only [List.setIfInBounds_toArray, List.set_cons_zero]|simp only [List.setIfInBounds_toArray, List.set_cons_zero, List.set_cons_succ]|(simp only [List.setIfInBounds_toArray, List.set_cons_zero, List.set_cons_succ];exact rfl)|exact rfl);(with_reducible first|exact one3|exact one21|exact one72|exact one73)));(try clear K);(try clear ww);intro ww K;(try simp [go_sem] at K))|(go_at_call 94;(with_reducible refine (Q1.out _ _ _ (by first|exact K.fact.1.1|exact K.fact.2.1.1|exact K.fact.2.2.1.1|exact K.fact.2.2.2.1.1|exact K.fact.2.2.2.2.1.1|exact K.fact.2.2.2.2.2.1.1|exact K.fact.2.2.2.2.2.2.1.1|exact K.fact.2.2.2.2.2.2.2.1.1|exact K.fact.2.2.2.2.2.2.2.2.1.1|exact K.fact.2.2.2.2.2.2.2.2.2.1.1|exact K.fact.2.2.2.2.2.2.2.2.2.2.1.1|exact K.fact.2.2.2.2.2.2.2.2.2.2.2.1.1|exact K.fact.1|exact K.fact.2.1|exact K.fact.2.2.1|exact K.fact.2.2.2.1|exact K.fact.2.2.2.2.1|exact K.fact.2.2.2.2.2.1|exact K.fact.2.2.2.2.2.2.1|exact K.fact.2.2.2.2.2.2.2.1|exact K.fact.2.2.2.2.2.2.2.2.1|exact K.fact.2.2.2.2.2.2.2.2.2.1|exact K.fact.2.2.2.2.2.2.2.2.2.2.1|exact K.fact.2.2.2.2.2.2.2.2.2.2.2.1|exact K.fact|exact K.fact.2|exact K.fact.2.2|exact K.fact.2.2.2|exact K.fact.2.2.2.2|exact K.fact.2.2.2.2.2|exact K.fact.2.2.2.2.2.2|exact K.fact.2.2.2.2.2.2.2|exact K.fact.2.2.2.2.2.2.2.2|exact K.fact.2.2.2.2.2.2.2.2.2|exact K.fact.2.2.2.2.2.2.2.2.2.2|exact K.fact.2.2.2.2.2.2.2.2.2.2.2)).mono ?_);rintro e w2 ⟨A1, x1, rfl, ⟨h2, hA⟩, hcc, hbel⟩;(try dsimp only);replace K := K.madeRd hbel h2 hA;have hcc := Lib.hid hcc;clear hbel h2 hA;(try clear ww);revert w2;intro ww K))
          exact ⟨⟨2, 16, _, _, by omega, by omega, by go_num, rfl, K.weak fun w h => h.1⟩, by simp [intOf]⟩
        · obtain rfl : n = 16 := by omega
          simp only [Nat.zero_add, Nat.reduceAdd] at K ⊢
          go_wp2_with (first|go_big_skip|((with_reducible refine at_load ?_);first|(refine wm_load (cs := ?_) (t := ?_) (n := ?_) K rfl _ _ rfl rfl ?_ ?_ ?_ ?_;rotate_left 2;(repeat (first|exact At.hd|refine At.tl ?_));rotate_left;(with_reducible first|exact row128);(solve|exact rfl|simp))|(refine wm_own (cs := ?_) (t := ?_) (v := ?_) K rfl _ _ rfl rfl ?_ ?_ ?_ ?_;rotate_left 2;(repeat (first|exact At.hd|refine At.tl ?_));rotate_left;(first|exact rfl|assumption);(with_reducible first|exact one3|exact one21|exact one72|exact one73))|(refine wm_cell (v := ?_) rfl _ _ rfl rfl ?_ ?_ ?_;rotate_left;(first|assumption|exact (K.below.cell (by assumption)).trans (by assumption));(with_reducible first|exact one3|exact one21|exact one72|exact one73)))|((with_reducible refine at_store ?_);(first|(refine wm_store (L' := ?_) (cs := ?_) (t := ?_) (n := ?_) K rfl _ _ _ rfl rfl rfl rfl ?_ ?_ ?_ ?_ ?_ ?_;rotate_left 3;(repeat (first|exact Put.hd|(refine Put.tl (L' := ?_) ?_;rotate_left)));rotate_left;(with_reducible first|exact row128);(solve|exact rfl|simp);(solve|exact rfl|simp);(solve|exact rfl|simp [Ones, Value.oneCell']))|(refine wm_put (L' := ?_) (cs := ?_) (new := ?_) (t := ?_) K rfl _ _ _ rfl rfl rfl rfl ?_ ?_ ?_ ?_ rfl rfl ?_;rotate_left 4;(repeat (first|exact Put.hd|(refine Put.tl (L' := ?_) ?_;rotate_left)));(solve|exact Nat.le_of_ble_eq_true rfl|decide|(simp only [List.size_toArray, nums_length];first|assumption|omega)|(simp only [List.size_toArray, nums_length, List.length_set];first|assumption|omega)|simp|omega|(simp only [List.size_toArray, nums_length];omega)|assumption);(solve|(simp only [List.setIfInBounds_toArray];exact rfl)|exact nums_set _ _ _ _|simp only [List.setIfInBounds_toArray, List.set_cons_zero]|simp only [List.setIfInBounds_toArray, List.set_cons_zero, List.set_cons_succ]|(simp only [List.setIfInBounds_toArray, List.set_cons_zero, List.set_cons_succ];exact rfl)|exact rfl);(with_reducible first|exact one3|exact one21|exact one72|exact one73)));(try clear K);(try clear ww);intro ww K;(try simp [go_sem] at K))|(go_at_call 95;(with_reducible refine (PP.out _ _ _ (by first|exact K.fact.1.1|exact K.fact.2.1.1|exact K.fact.2.2.1.1|exact K.fact.2.2.2.1.1|exact K.fact.2.2.2.2.1.1|exact K.fact.2.2.2.2.2.1.1|exact K.fact.2.2.2.2.2.2.1.1|exact K.fact.2.2.2.2.2.2.2.1.1|exact K.fact.2.2.2.2.2.2.2.2.1.1|exact K.fact.2.2.2.2.2.2.2.2.2.1.1|exact K.fact.2.2.2.2.2.2.2.2.2.2.1.1|exact K.fact.2.2.2.2.2.2.2.2.2.2.2.1.1|exact K.fact.1|exact K.fact.2.1|exact K.fact.2.2.1|exact K.fact.2.2.2.1|exact K.fact.2.2.2.2.1|exact K.fact.2.2.2.2.2.1|exact K.fact.2.2.2.2.2.2.1|exact K.fact.2.2.2.2.2.2.2.1|exact K.fact.2.2.2.2.2.2.2.2.1|exact K.fact.2.2.2.2.2.2.2.2.2.1|exact K.fact.2.2.2.2.2.2.2.2.2.2.1|exact K.fact.2.2.2.2.2.2.2.2.2.2.2.1|exact K.fact|exact K.fact.2|exact K.fact.2.2|exact K.fact.2.2.2|exact K.fact.2.2.2.2|exact K.fact.2.2.2.2.2|exact K.fact.2.2.2.2.2.2|exact K.fact.2.2.2.2.2.2.2|exact K.fact.2.2.2.2.2.2.2.2|exact K.fact.2.2.2.2.2.2.2.2.2|exact K.fact.2.2.2.2.2.2.2.2.2.2|exact K.fact.2.2.2.2.2.2.2.2.2.2.2)).mono ?_);rintro e w2 ⟨A1, x1, rfl, ⟨h2, hA⟩, hcc, hbel⟩;(try dsimp only);have hnw := Lib.hid (hA.mono K.size);replace K := K.madeRd hbel h2 hA;have hcc := Lib.hid hcc;clear hbel h2 hA;(try clear ww);revert w2;intro ww K))
          go_ret2
          exact ⟨_, _, rfl, ⟨K.fact.1, hnw.out⟩, hcc.out, K.below⟩
        · omega
    · omega
end Go.Proofs.Ytpejoaefnnbghaa
namespace Go.Proofs.Ytpejoaefnnbghaa
open Go.RowKit
attribute [local irreducible] wpHeld wpTree wpList
set_option linter.unusedVariables false
set_option linter.unusedSimpArgs false
theorem results_has3 {P : Program} {w : World} {cs : Array Value} {t : TypeId} {fn : Func} {p q r : Tmp} {ty : TypeId} (h : fn.results = #[.cell p ty, .tmp q, .tmp r]) (tmps : Array Value) {g : Nat} {d : TypeDesc} (hp : tmps.getD p undef = .pointer (some ⟨g, 0, none⟩)) (hg : Has w g cs t)
    (hu : P.underlying ty = some d) (hd : (match d with | .struct _ | .array _ _ => true | _ => false) = true) {n : Nat} (hi : (P.info? ty).map (·.size) = some n) (hn : cs.size = n) :
    (results fn tmps).run P w = .ok (.tuple #[.agg cs, tmps.getD q undef, tmps.getD r undef]) w := by
  have hp' : tmps[p]?.getD undef = .pointer (some ⟨g, 0, none⟩) := by simpa using hp
  simp [results, h, hp', asAddr, run_loadVar_row w g t ty cs (0, 0) d hg hu hd (by rw [hn]; exact hi)]
theorem St.res3 {P : Program} {B : Nat} {w0 w : World} {L : List Blk} {F : World → Prop} (K : St B w0 L F w) {fn : Func} {p q r : Tmp} {ty : TypeId} (h : fn.results = #[.cell p ty, .tmp q, .tmp r]) (tmps : Array Value) {g : Nat} {cs : Array Value} {t : TypeId} (hp : tmps.getD p undef = .pointer (some ⟨g, 0, none⟩)) (ha : At L g cs t)
    {n : Nat} (hu : RowTy P ty n) (hn : cs.size = n) {v1 v2 : Value} (hq : tmps.getD q undef = v1) (hr : tmps.getD r undef = v2) : (results fn tmps).run P w = .ok (.tuple #[.agg cs, v1, v2]) w := by
  obtain ⟨d, h1, h2, h3⟩ := hu
  subst hq hr
  exact results_has3 h tmps hp (K.get ha) h1 (by cases d <;> simp_all) h3 hn
theorem mid_at (L1 L2 : List Nat) (n x i : Nat) (hi : i < n) {L : List Nat} {m : Nat} (hL : L = L1 ++ (leB n x ++ L2)) (hm : L1.length = m) : L[m + i]? = some (x / 256 ^ i % 256) := by
  subst hL hm
  rw [List.getElem?_append_right (by omega), show L1.length + i - L1.length = i by omega, List.getElem?_append_left (by rw [leB_len]; exact hi)]
  simp [leB, hi]
theorem i32_back (a : Int) (h : -2147483648 ≤ a ∧ a ≤ 2147483647) : IntKind.i32.wrap (u32N a : Int) = a := by
  rw [← (u32N_is a).1]
  unfold IntKind.wrap; simp [IntKind.bits, IntKind.signed]; omega
theorem ptr_ix0 (x y z : Value) (w : World) : (Instr.index 138 (.agg #[x, y, z]) (.int .i64 0)).run Try.prog w = .ok x w := by kernel_rfl
theorem ptr_ix1 (x y z : Value) (w : World) : (Instr.index 138 (.agg #[x, y, z]) (.int .i64 1)).run Try.prog w = .ok y w := by kernel_rfl
theorem ptr_ix2 (x y z : Value) (w : World) : (Instr.index 138 (.agg #[x, y, z]) (.int .i64 2)).run Try.prog w = .ok z w := by kernel_rfl
set_option maxRecDepth 100000 in
set_option maxHeartbeats 4000000 in
theorem First7 (s t : Nat) (a b c : Int) (A : Option Addr) (cp : Nat) (w : World) (hs : s < 65536) (ht : t < 4294967296) (ha : -2147483648 ≤ a ∧ a ≤ 2147483647) (hb : -2147483648 ≤ b ∧ b ≤ 2147483647) (hc : -2147483648 ≤ c ∧ c ≤ 2147483647) (hcp : 20 ≤ cp) (h : Rd w A 20 (nums .u8 (byt26 7 s t [u32N a, u32N b] 2))) :
    Calls Try.prog 50 #[.slice A 20 cp] w fun e w' => e = .returned (.tuple #[.agg #[.int .i64 7, .int .u16 s, .int .u32 t, .int .i32 a, .int .i32 b, .int .i32 0], .int .i64 20, .int .i64 0]) ∧ Below w.heap.size w w' := by
  have K := St.start w
  have H := Lib.hid h
  obtain ⟨bs, off, rfl, hbs, hcell⟩ := h.get (show 0 < 20 by omega)
  have hW : byt26 7 s t [u32N a, u32N b] 2 = [126, 7] ++ (leB 2 s ++ (leB 4 t ++ (leB 4 (u32N a) ++ (leB 4 (u32N b) ++ (leB 4 (crcN (bod26 7 s t [u32N a, u32N b] 2))))))) := by simp only [byt26, bod26, List.append_assoc] <;> rfl
  have hv0 : w.cell? ⟨bs, off, none⟩ = some (.int .u8 126) := hcell 0 _ (by rw [hW]; rfl)
  have hv1 : w.cell? ⟨bs, off + 1, none⟩ = some (.int .u8 7) := hcell 1 _ (by rw [hW]; rfl)
  have MS := fun i (hi : i < 2) => mid_at [126, 7] (leB 4 t ++ (leB 4 (u32N a) ++ (leB 4 (u32N b) ++ (leB 4 (crcN (bod26 7 s t [u32N a, u32N b] 2)))))) 2 (s) i hi (L := byt26 7 s t [u32N a, u32N b] 2) (m := 2) (by rw [hW] <;> simp only [List.append_assoc]) (by simp [leB_len])
  have MT := fun i (hi : i < 4) => mid_at ([126, 7] ++ leB 2 s) (leB 4 (u32N a) ++ (leB 4 (u32N b) ++ (leB 4 (crcN (bod26 7 s t [u32N a, u32N b] 2))))) 4 (t) i hi (L := byt26 7 s t [u32N a, u32N b] 2) (m := 4) (by rw [hW] <;> simp only [List.append_assoc]) (by simp [leB_len])
  have MA := fun i (hi : i < 4) => mid_at ([126, 7] ++ leB 2 s ++ leB 4 t) (leB 4 (u32N b) ++ (leB 4 (crcN (bod26 7 s t [u32N a, u32N b] 2)))) 4 (u32N a) i hi (L := byt26 7 s t [u32N a, u32N b] 2) (m := 8) (by rw [hW] <;> simp only [List.append_assoc]) (by simp [leB_len])
  have MB := fun i (hi : i < 4) => mid_at ([126, 7] ++ leB 2 s ++ leB 4 t ++ leB 4 (u32N a)) (leB 4 (crcN (bod26 7 s t [u32N a, u32N b] 2))) 4 (u32N b) i hi (L := byt26 7 s t [u32N a, u32N b] 2) (m := 12) (by rw [hW] <;> simp only [List.append_assoc]) (by simp [leB_len])
  have GS := Lib.hid (fun (b1 : Nat) (w2 : World) (hb1 : w2.cell? ⟨b1, 0, none⟩ = some (.slice (some ⟨bs, off, none⟩) 20 cp)) (g : Below w.heap.size w w2) => num26 b1 20 cp 2 2 (s) 2 2 (some ⟨bs, off, none⟩) (byt26 7 s t [u32N a, u32N b] 2) w2 rfl rfl hb1 (h.below g) (by omega) (by omega) (by omega) (by omega) (by have : (256:Nat)^2 = 65536 := rfl; omega) (by omega) MS)
  have GT := Lib.hid (fun (b1 : Nat) (w2 : World) (hb1 : w2.cell? ⟨b1, 0, none⟩ = some (.slice (some ⟨bs, off, none⟩) 20 cp)) (g : Below w.heap.size w w2) => num26 b1 20 cp 4 4 (t) 4 4 (some ⟨bs, off, none⟩) (byt26 7 s t [u32N a, u32N b] 2) w2 rfl rfl hb1 (h.below g) (by omega) (by omega) (by omega) (by omega) (by have : (256:Nat)^4 = 4294967296 := rfl; omega) (by omega) MT)
  have GA := Lib.hid (fun (b1 : Nat) (w2 : World) (hb1 : w2.cell? ⟨b1, 0, none⟩ = some (.slice (some ⟨bs, off, none⟩) 20 cp)) (g : Below w.heap.size w w2) => num26 b1 20 cp 8 4 (u32N a) 8 4 (some ⟨bs, off, none⟩) (byt26 7 s t [u32N a, u32N b] 2) w2 rfl rfl hb1 (h.below g) (by omega) (by omega) (by omega) (by omega) (by have := (u32N_is a).2; have : (256:Nat)^4 = 4294967296 := rfl; omega) (by have := (u32N_is a).2; omega) MA)
  have GB := Lib.hid (fun (b1 : Nat) (w2 : World) (hb1 : w2.cell? ⟨b1, 0, none⟩ = some (.slice (some ⟨bs, off, none⟩) 20 cp)) (g : Below w.heap.size w w2) => num26 b1 20 cp 12 4 (u32N b) 12 4 (some ⟨bs, off, none⟩) (byt26 7 s t [u32N a, u32N b] 2) w2 rfl rfl hb1 (h.below g) (by omega) (by omega) (by omega) (by omega) (by have := (u32N_is b).2; have : (256:Nat)^4 = 4294967296 := rfl; omega) (by have := (u32N_is b).2; omega) MB)
  have CG : Hid (∀ w2, Below w.heap.size w w2 → Calls Try.prog 97 #[.slice (some ⟨bs, off, none⟩) 20 cp] w2 fun e w' => ∃ v, e = .returned (.tuple #[v, .bool true]) ∧ Below w2.heap.size w2 w') := Lib.hid (fun w2 g => CGet26_any (some ⟨bs, off, none⟩) 16 20 cp (bod26 7 s t [u32N a, u32N b] 2) w2 (by omega) (h.below g) (by omega) (by omega) hcp (by rw [bod_len]) (bod_lt (by omega) _))
  have NN := Lib.hid (fun w => Numb26 7 2 w (by omega))
  have ZZ := Lib.hid (fun w => Size26 7 2 20 w (by omega))
  have ba := i32_back a ha
  have ea : IntKind.u32.wrap (u32N a : Int) = u32N a := IntWalk.u32_in _ (by have := (u32N_is a).2; omega)
  have bb := i32_back b hb
  have eb : IntKind.u32.wrap (u32N b : Int) = u32N b := IntWalk.u32_in _ (by have := (u32N_is b).2; omega)
  have es : IntKind.u16.wrap (s : Int) = s := IntWalk.u16_in _ (by omega)
  have et : IntKind.u32.wrap (t : Int) = t := IntWalk.u32_in _ (by omega)
  have q1 : decide (20 ≤ cp) = true := decide_eq_true hcp
  generalize u32N a = na at *
  generalize u32N b = nb at *
  clear h hcell hW MS MT MA MB ha hb hc hs ht
  go_enter Try.func50, Try.ntmps50
  go_upto_region 16 with (first|go_big_skip|((with_reducible refine at_load ?_);first|(refine wm_load (cs := ?_) (t := ?_) (n := ?_) K rfl _ _ rfl rfl ?_ ?_ ?_ ?_;rotate_left 2;(repeat (first|exact At.hd|refine At.tl ?_));rotate_left;(with_reducible first|exact row76);(solve|exact rfl|simp))|(refine wm_own (cs := ?_) (t := ?_) (v := ?_) K rfl _ _ rfl rfl ?_ ?_ ?_ ?_;rotate_left 2;(repeat (first|exact At.hd|refine At.tl ?_));rotate_left;(first|exact rfl|assumption);(with_reducible first|exact one3|exact one5|exact one21|exact one80))|(refine wm_cell (v := ?_) rfl _ _ rfl rfl ?_ ?_ ?_;rotate_left;(first|assumption|exact (K.below.cell (by assumption)).trans (by assumption));(with_reducible first|exact one3|exact one5|exact one21|exact one80)))|((with_reducible refine at_store ?_);(first|(refine wm_store (L' := ?_) (cs := ?_) (t := ?_) (n := ?_) K rfl _ _ _ rfl rfl rfl rfl ?_ ?_ ?_ ?_ ?_ ?_;rotate_left 3;(repeat (first|exact Put.hd|(refine Put.tl (L' := ?_) ?_;rotate_left)));rotate_left;(with_reducible first|exact row76);(solve|exact rfl|simp);(solve|exact rfl|simp);(solve|exact rfl|simp [Ones, Value.oneCell']))|(refine wm_put (L' := ?_) (cs := ?_) (new := ?_) (t := ?_) K rfl _ _ _ rfl rfl rfl rfl ?_ ?_ ?_ ?_ rfl rfl ?_;rotate_left 4;(repeat (first|exact Put.hd|(refine Put.tl (L' := ?_) ?_;rotate_left)));(solve|exact Nat.le_of_ble_eq_true rfl|decide|(simp only [List.size_toArray, nums_length];first|assumption|omega)|(simp only [List.size_toArray, nums_length, List.length_set];first|assumption|omega)|simp|omega|(simp only [List.size_toArray, nums_length];omega)|assumption);(solve|(simp only [List.setIfInBounds_toArray];exact rfl)|exact nums_set _ _ _ _|simp only [List.setIfInBounds_toArray, List.set_cons_zero]|simp only [List.setIfInBounds_toArray, List.set_cons_zero, List.set_cons_succ]|(simp only [List.setIfInBounds_toArray, List.set_cons_zero, List.set_cons_succ];exact rfl)|exact rfl);(with_reducible first|exact one3|exact one5|exact one21|exact one80)));(try clear K);(try clear ww);intro ww K;(try simp [go_sem] at K))|((first|((with_reducible refine at_box ?_);refine wm_box K rfl _ _ rfl rfl rfl ?_)|((with_reducible refine at_alloc ?_);refine wm_alloc (v := ?_) (cs := ?_) K rfl _ rfl ?_ ?_ ?_;rotate_left;(with_reducible first|exact zero76);rotate_left;exact rfl));(try clear K);(try clear ww);(first|((fail_if_success (have _h := b1));intro b1 ww K)|((fail_if_success (have _h := b2));intro b2 ww K));(try simp [go_sem, Value.cells] at K))|(go_at_call 96;(with_reducible refine (ZZ.out _).mono ?_);rintro e w2 ⟨rfl, k1⟩;replace K := K.step k1;clear k1;(try clear ww);revert w2;intro ww K)|(go_at_call 97;(with_reducible refine (CG.out _ K.below).mono ?_);rintro e w2 ⟨gv, rfl, k1⟩;(try dsimp only);replace K := K.step k1;clear k1;(try clear ww);revert w2;intro ww K))
  (try simp only [Act.put]); (try go_simp)
  go_cut [9] from 54 to 65 (fun x wc => ∃ (b9 : Nat), x = .pointer (some ⟨b9, 0, none⟩) ∧ St w.heap.size w [(b9, #[.int .i64 7, .int .u16 s, .int .u32 t, .int .i32 0, .int .i32 0, .int .i32 0], 76), (b2, #[.int .i64 0, .int .u16 0, .int .u32 0, .int .i32 0, .int .i32 0, .int .i32 0], 76), (b1, #[.slice (some ⟨bs, off, none⟩) 20 cp], 80)] Any wc)
  case first =>
    refine wm_tree _ (.take 0 (.take 1 (.take 2 (.take 3 (.take 4 (.take 7 (.alt 5 (.take 6 (.alt 8 (.take 9 (.take 10 (.alt 11 (.alt 12 .done .stop) .stop))) (.alt 11 (.alt 8 (.take 9 (.take 10 (.alt 12 .done .stop))) .stop) .stop))) (.alt 11 (.alt 5 (.take 6 (.alt 8 (.take 9 (.take 10 (.alt 12 .done .stop))) .stop)) .stop) .stop)))))))) K sbr (by kernel_rfl) (by kernel_rfl) ?_; (try clear K); (try clear ww); intro ww K; (try simp [go_sem] at K)
    repeat' (first|exact tree_stop|(refine tm_load (cs := ?_) (t0 := ?_) (n := ?_) rfl rfl _ _ rfl rfl ?_ ?_ ?_ ?_;rotate_left 2;(repeat (first|exact At.hd|refine At.tl ?_));rotate_left;(with_reducible first|exact row76);(solve|exact rfl|simp))|(refine tm_own (cs := ?_) (t0 := ?_) (v := ?_) rfl rfl _ _ rfl rfl ?_ ?_ ?_ ?_;rotate_left 2;(repeat (first|exact At.hd|refine At.tl ?_));rotate_left;(first|exact rfl|assumption);(with_reducible first|exact one3|exact one5|exact one21|exact one80))|(refine tm_farD (v := ?_) rfl rfl _ _ rfl rfl (fun ww K => ?_) ?_ ?_;rotate_left;(first|assumption|exact (K.below.cell (by assumption)).trans (by assumption));(with_reducible first|exact one3|exact one5|exact one21|exact one80))|(refine tree_take (fun K' hK' => ?_);simp only [opAt, List.getElem?_toArray, List.getElem?_cons_succ, List.getElem?_cons_zero, Option.getD_some];go_simp;first|(refine hK' _ ?_;clear hK' K')|(apply Exists.intro;refine ⟨?_, hK' _ ?_⟩;(intro _ _;rfl);clear hK' K'))|(first|((fail_if_success (have _h := b9));refine tm_alloc (v := ?_) (cs := ?_) K rfl rfl _ rfl ?_ ?_ ?_ ?_;rotate_left;(with_reducible first|exact zero76);rotate_left;exact rfl;intro b9 ww2 K2;(try simp [go_sem, Value.cells] at K2);refine ⟨(by apply via sbr;first|exact K2|exact K2.tail|exact K2.tail.tail|exact K2.tail.tail.tail|exact K2.weak wk1|exact K2.tail.weak wk1|exact K2.tail.tail.weak wk1|exact K2.tail.tail.tail.weak wk1|exact K2.weak wk2|exact K2.tail.weak wk2|exact K2.tail.tail.weak wk2|exact K2.tail.tail.tail.weak wk2|exact K2.weak wk3|exact K2.tail.weak wk3|exact K2.tail.tail.weak wk3|exact K2.tail.tail.tail.weak wk3|exact K2.weak wk4|exact K2.tail.weak wk4|exact K2.tail.tail.weak wk4|exact K2.tail.tail.tail.weak wk4|exact K2.weak wk5|exact K2.tail.weak wk5|exact K2.tail.tail.weak wk5|exact K2.tail.tail.tail.weak wk5), ?_⟩;replace K := K2;clear K2;(try clear ww);revert ww2;intro ww K))|(refine tree_alt (fun K' hK' => ?_) ?_;simp only [opAt, List.getElem?_toArray, List.getElem?_cons_succ, List.getElem?_cons_zero, Option.getD_some];go_simp;go_at_call 98;(with_reducible refine (GS.out _ _ ((K.get (.tl .hd)).cell rfl) K.below).mono ?_);rintro e w2 ⟨rfl, k1⟩;replace K := K.step k1;clear k1;(try clear ww);revert w2;intro ww K;(try dsimp only);refine hK' _ _ (by apply via sbr;first|exact K|exact K.tail|exact K.tail.tail|exact K.tail.tail.tail|exact K.weak wk1|exact K.tail.weak wk1|exact K.tail.tail.weak wk1|exact K.tail.tail.tail.weak wk1|exact K.weak wk2|exact K.tail.weak wk2|exact K.tail.tail.weak wk2|exact K.tail.tail.tail.weak wk2|exact K.weak wk3|exact K.tail.weak wk3|exact K.tail.tail.weak wk3|exact K.tail.tail.tail.weak wk3|exact K.weak wk4|exact K.tail.weak wk4|exact K.tail.tail.weak wk4|exact K.tail.tail.tail.weak wk4|exact K.weak wk5|exact K.tail.weak wk5|exact K.tail.tail.weak wk5|exact K.tail.tail.tail.weak wk5) ?_;clear hK' K')|(refine tree_alt (fun K' hK' => ?_) ?_;simp only [opAt, List.getElem?_toArray, List.getElem?_cons_succ, List.getElem?_cons_zero, Option.getD_some];go_simp;go_at_call 98;(with_reducible refine (GS.out _ _ ((K.get (.tl (.tl .hd))).cell rfl) K.below).mono ?_);rintro e w2 ⟨rfl, k1⟩;replace K := K.step k1;clear k1;(try clear ww);revert w2;intro ww K;(try dsimp only);refine hK' _ _ (by apply via sbr;first|exact K|exact K.tail|exact K.tail.tail|exact K.tail.tail.tail|exact K.weak wk1|exact K.tail.weak wk1|exact K.tail.tail.weak wk1|exact K.tail.tail.tail.weak wk1|exact K.weak wk2|exact K.tail.weak wk2|exact K.tail.tail.weak wk2|exact K.tail.tail.tail.weak wk2|exact K.weak wk3|exact K.tail.weak wk3|exact K.tail.tail.weak wk3|exact K.tail.tail.tail.weak wk3|exact K.weak wk4|exact K.tail.weak wk4|exact K.tail.tail.weak wk4|exact K.tail.tail.tail.weak wk4|exact K.weak wk5|exact K.tail.weak wk5|exact K.tail.tail.weak wk5|exact K.tail.tail.tail.weak wk5) ?_;clear hK' K')|(refine tree_alt (fun K' hK' => ?_) ?_;simp only [opAt, List.getElem?_toArray, List.getElem?_cons_succ, List.getElem?_cons_zero, Option.getD_some];go_simp;go_at_call 98;(with_reducible refine (GT.out _ _ ((K.get (.tl .hd)).cell rfl) K.below).mono ?_);rintro e w2 ⟨rfl, k1⟩;replace K := K.step k1;clear k1;(try clear ww);revert w2;intro ww K;(try dsimp only);refine hK' _ _ (by apply via sbr;first|exact K|exact K.tail|exact K.tail.tail|exact K.tail.tail.tail|exact K.weak wk1|exact K.tail.weak wk1|exact K.tail.tail.weak wk1|exact K.tail.tail.tail.weak wk1|exact K.weak wk2|exact K.tail.weak wk2|exact K.tail.tail.weak wk2|exact K.tail.tail.tail.weak wk2|exact K.weak wk3|exact K.tail.weak wk3|exact K.tail.tail.weak wk3|exact K.tail.tail.tail.weak wk3|exact K.weak wk4|exact K.tail.weak wk4|exact K.tail.tail.weak wk4|exact K.tail.tail.tail.weak wk4|exact K.weak wk5|exact K.tail.weak wk5|exact K.tail.tail.weak wk5|exact K.tail.tail.tail.weak wk5) ?_;clear hK' K')|(refine tree_alt (fun K' hK' => ?_) ?_;simp only [opAt, List.getElem?_toArray, List.getElem?_cons_succ, List.getElem?_cons_zero, Option.getD_some];go_simp;go_at_call 98;(with_reducible refine (GT.out _ _ ((K.get (.tl (.tl .hd))).cell rfl) K.below).mono ?_);rintro e w2 ⟨rfl, k1⟩;replace K := K.step k1;clear k1;(try clear ww);revert w2;intro ww K;(try dsimp only);refine hK' _ _ (by apply via sbr;first|exact K|exact K.tail|exact K.tail.tail|exact K.tail.tail.tail|exact K.weak wk1|exact K.tail.weak wk1|exact K.tail.tail.weak wk1|exact K.tail.tail.tail.weak wk1|exact K.weak wk2|exact K.tail.weak wk2|exact K.tail.tail.weak wk2|exact K.tail.tail.tail.weak wk2|exact K.weak wk3|exact K.tail.weak wk3|exact K.tail.tail.weak wk3|exact K.tail.tail.tail.weak wk3|exact K.weak wk4|exact K.tail.weak wk4|exact K.tail.tail.weak wk4|exact K.tail.tail.tail.weak wk4|exact K.weak wk5|exact K.tail.weak wk5|exact K.tail.tail.weak wk5|exact K.tail.tail.tail.weak wk5) ?_;clear hK' K')|(refine tm_store (L' := ?_) (cs := ?_) (t0 := ?_) (n := ?_) K rfl rfl _ _ _ rfl rfl rfl rfl ?_ ?_ ?_ ?_ ?_ ?_ ?_;rotate_left 3;(repeat (first|exact Put.hd|(refine Put.tl (L' := ?_) ?_;rotate_left)));rotate_left;(with_reducible first|exact row76);(solve|exact rfl|simp);(solve|exact rfl|simp);(solve|exact rfl|simp [Ones, Value.oneCell']);intro ww2 K2;(try simp [go_sem] at K2);refine ⟨(by apply via sbr;first|exact K2|exact K2.tail|exact K2.tail.tail|exact K2.tail.tail.tail|exact K2.weak wk1|exact K2.tail.weak wk1|exact K2.tail.tail.weak wk1|exact K2.tail.tail.tail.weak wk1|exact K2.weak wk2|exact K2.tail.weak wk2|exact K2.tail.tail.weak wk2|exact K2.tail.tail.tail.weak wk2|exact K2.weak wk3|exact K2.tail.weak wk3|exact K2.tail.tail.weak wk3|exact K2.tail.tail.tail.weak wk3|exact K2.weak wk4|exact K2.tail.weak wk4|exact K2.tail.tail.weak wk4|exact K2.tail.tail.tail.weak wk4|exact K2.weak wk5|exact K2.tail.weak wk5|exact K2.tail.tail.weak wk5|exact K2.tail.tail.tail.weak wk5), ?_⟩;replace K := K2;clear K2;(try clear ww);revert ww2;intro ww K))
    all_goals refine tree_done ?_
    all_goals (try simp only [opAt, List.getElem?_toArray, List.getElem?_cons_succ, List.getElem?_cons_zero, Option.getD_some])
    all_goals (try go_simp)
    all_goals (try go_wp2_with (fail))
    all_goals (try go_meet)
    all_goals exact ⟨_, rfl, K⟩
  case rest =>
    clear K
    obtain ⟨b9, rfl, K⟩ := hcut
    revert wc
    intro ww K
    go_wp2_with (first|go_big_skip|((with_reducible refine at_load ?_);first|(refine wm_load (cs := ?_) (t := ?_) (n := ?_) K rfl _ _ rfl rfl ?_ ?_ ?_ ?_;rotate_left 2;(repeat (first|exact At.hd|refine At.tl ?_));rotate_left;(with_reducible first|exact row76);(solve|exact rfl|simp))|(refine wm_own (cs := ?_) (t := ?_) (v := ?_) K rfl _ _ rfl rfl ?_ ?_ ?_ ?_;rotate_left 2;(repeat (first|exact At.hd|refine At.tl ?_));rotate_left;(first|exact rfl|assumption);(with_reducible first|exact one3|exact one5|exact one21|exact one80))|(refine wm_cell (v := ?_) rfl _ _ rfl rfl ?_ ?_ ?_;rotate_left;(first|assumption|exact (K.below.cell (by assumption)).trans (by assumption));(with_reducible first|exact one3|exact one5|exact one21|exact one80)))|((with_reducible refine at_store ?_);(first|(refine wm_store (L' := ?_) (cs := ?_) (t := ?_) (n := ?_) K rfl _ _ _ rfl rfl rfl rfl ?_ ?_ ?_ ?_ ?_ ?_;rotate_left 3;(repeat (first|exact Put.hd|(refine Put.tl (L' := ?_) ?_;rotate_left)));rotate_left;(with_reducible first|exact row76);(solve|exact rfl|simp);(solve|exact rfl|simp);(solve|exact rfl|simp [Ones, Value.oneCell']))|(refine wm_put (L' := ?_) (cs := ?_) (new := ?_) (t := ?_) K rfl _ _ _ rfl rfl rfl rfl ?_ ?_ ?_ ?_ rfl rfl ?_;rotate_left 4;(repeat (first|exact Put.hd|(refine Put.tl (L' := ?_) ?_;rotate_left)));(solve|exact Nat.le_of_ble_eq_true rfl|decide|(simp only [List.size_toArray, nums_length];first|assumption|omega)|(simp only [List.size_toArray, nums_length, List.length_set];first|assumption|omega)|simp|omega|(simp only [List.size_toArray, nums_length];omega)|assumption);(solve|(simp only [List.setIfInBounds_toArray];exact rfl)|exact nums_set _ _ _ _|simp only [List.setIfInBounds_toArray, List.set_cons_zero]|simp only [List.setIfInBounds_toArray, List.set_cons_zero, List.set_cons_succ]|(simp only [List.setIfInBounds_toArray, List.set_cons_zero, List.set_cons_succ];exact rfl)|exact rfl);(with_reducible first|exact one3|exact one5|exact one21|exact one80)));(try clear K);(try clear ww);intro ww K;(try simp [go_sem] at K)))
    go_loopw [69] (fun j wr => ∃ (i : Nat) (x y z : Int), ((i = 0 ∧ x = 0 ∧ y = 0 ∧ z = 0) ∨ (i = 1 ∧ x = a ∧ y = 0 ∧ z = 0) ∨ (i = 2 ∧ x = a ∧ y = b ∧ z = 0) ∨ (i = 3 ∧ x = a ∧ y = b ∧ z = 0)) ∧ j = .int .i64 i ∧ St w.heap.size w [(b9, #[.int .i64 7, .int .u16 s, .int .u32 t, .int .i32 x, .int .i32 y, .int .i32 z], 76), (b2, #[.int .i64 0, .int .u16 0, .int .u32 0, .int .i32 0, .int .i32 0, .int .i32 0], 76), (b1, #[.slice (some ⟨bs, off, none⟩) 20 cp], 80)] Any wr) (fun j _ => 3 - (intOf j).toNat)
    case atStart => exact ⟨0, 0, 0, 0, .inl ⟨rfl, rfl, rfl, rfl⟩, rfl, K⟩
    case round =>
      clear K
      obtain ⟨i, x, y, z, hh, rfl, K⟩ := hrel
      rcases hh with ⟨rfl, rfl, rfl, rfl⟩ | ⟨rfl, rfl, rfl, rfl⟩ | ⟨rfl, rfl, rfl, rfl⟩ | ⟨rfl, rfl, rfl, rfl⟩
      · have ix := ptr_ix0
        go_wp2_with (first|go_big_skip|((with_reducible refine at_load ?_);first|(refine wm_load (cs := ?_) (t := ?_) (n := ?_) K rfl _ _ rfl rfl ?_ ?_ ?_ ?_;rotate_left 2;(repeat (first|exact At.hd|refine At.tl ?_));rotate_left;(with_reducible first|exact row76);(solve|exact rfl|simp))|(refine wm_own (cs := ?_) (t := ?_) (v := ?_) K rfl _ _ rfl rfl ?_ ?_ ?_ ?_;rotate_left 2;(repeat (first|exact At.hd|refine At.tl ?_));rotate_left;(first|exact rfl|assumption);(with_reducible first|exact one3|exact one5|exact one21|exact one80))|(refine wm_cell (v := ?_) rfl _ _ rfl rfl ?_ ?_ ?_;rotate_left;(first|assumption|exact (K.below.cell (by assumption)).trans (by assumption));(with_reducible first|exact one3|exact one5|exact one21|exact one80)))|((with_reducible refine at_store ?_);(first|(refine wm_store (L' := ?_) (cs := ?_) (t := ?_) (n := ?_) K rfl _ _ _ rfl rfl rfl rfl ?_ ?_ ?_ ?_ ?_ ?_;rotate_left 3;(repeat (first|exact Put.hd|(refine Put.tl (L' := ?_) ?_;rotate_left)));rotate_left;(with_reducible first|exact row76);(solve|exact rfl|simp);(solve|exact rfl|simp);(solve|exact rfl|simp [Ones, Value.oneCell']))|(refine wm_put (L' := ?_) (cs := ?_) (new := ?_) (t := ?_) K rfl _ _ _ rfl rfl rfl rfl ?_ ?_ ?_ ?_ rfl rfl ?_;rotate_left 4;(repeat (first|exact Put.hd|(refine Put.tl (L' := ?_) ?_;rotate_left)));(solve|exact Nat.le_of_ble_eq_true rfl|decide|(simp only [List.size_toArray, nums_length];first|assumption|omega)|(simp only [List.size_toArray, nums_length, List.length_set];first|assumption|omega)|simp|omega|(simp only [List.size_toArray, nums_length];omega)|assumption);(solve|(simp only [List.setIfInBounds_toArray];exact rfl)|exact nums_set _ _ _ _|simp only [List.setIfInBounds_toArray, List.set_cons_zero]|simp only [List.setIfInBounds_toArray, List.set_cons_zero, List.set_cons_succ]|(simp only [List.setIfInBounds_toArray, List.set_cons_zero, List.set_cons_succ];exact rfl)|exact rfl);(with_reducible first|exact one3|exact one5|exact one21|exact one80)));(try clear K);(try clear ww);intro ww K;(try simp [go_sem] at K))|(go_at_call 93;(with_reducible refine (NN.out _).mono ?_);rintro e w2 ⟨rfl, k1⟩;replace K := K.step k1;clear k1;(try clear ww);revert w2;intro ww K)|(go_at_call 98;(with_reducible refine (GA.out _ _ ((K.get (.tl (.tl .hd))).cell rfl) K.below).mono ?_);rintro e w2 ⟨rfl, k1⟩;replace K := K.step k1;clear k1;(try clear ww);revert w2;intro ww K))
        exact ⟨⟨1, _, _, _, .inr (.inl ⟨rfl, rfl, rfl, rfl⟩), by go_num, K⟩, by simp [intOf]⟩
      · have ix := ptr_ix1
        go_wp2_with (first|go_big_skip|((with_reducible refine at_load ?_);first|(refine wm_load (cs := ?_) (t := ?_) (n := ?_) K rfl _ _ rfl rfl ?_ ?_ ?_ ?_;rotate_left 2;(repeat (first|exact At.hd|refine At.tl ?_));rotate_left;(with_reducible first|exact row76);(solve|exact rfl|simp))|(refine wm_own (cs := ?_) (t := ?_) (v := ?_) K rfl _ _ rfl rfl ?_ ?_ ?_ ?_;rotate_left 2;(repeat (first|exact At.hd|refine At.tl ?_));rotate_left;(first|exact rfl|assumption);(with_reducible first|exact one3|exact one5|exact one21|exact one80))|(refine wm_cell (v := ?_) rfl _ _ rfl rfl ?_ ?_ ?_;rotate_left;(first|assumption|exact (K.below.cell (by assumption)).trans (by assumption));(with_reducible first|exact one3|exact one5|exact one21|exact one80)))|((with_reducible refine at_store ?_);(first|(refine wm_store (L' := ?_) (cs := ?_) (t := ?_) (n := ?_) K rfl _ _ _ rfl rfl rfl rfl ?_ ?_ ?_ ?_ ?_ ?_;rotate_left 3;(repeat (first|exact Put.hd|(refine Put.tl (L' := ?_) ?_;rotate_left)));rotate_left;(with_reducible first|exact row76);(solve|exact rfl|simp);(solve|exact rfl|simp);(solve|exact rfl|simp [Ones, Value.oneCell']))|(refine wm_put (L' := ?_) (cs := ?_) (new := ?_) (t := ?_) K rfl _ _ _ rfl rfl rfl rfl ?_ ?_ ?_ ?_ rfl rfl ?_;rotate_left 4;(repeat (first|exact Put.hd|(refine Put.tl (L' := ?_) ?_;rotate_left)));(solve|exact Nat.le_of_ble_eq_true rfl|decide|(simp only [List.size_toArray, nums_length];first|assumption|omega)|(simp only [List.size_toArray, nums_length, List.length_set];first|assumption|omega)|simp|omega|(simp only [List.size_toArray, nums_length];omega)|assumption);(solve|(simp only [List.setIfInBounds_toArray];exact rfl)|exact nums_set _ _ _ _|simp only [List.setIfInBounds_toArray, List.set_cons_zero]|simp only [List.setIfInBounds_toArray, List.set_cons_zero, List.set_cons_succ]|(simp only [List.setIfInBounds_toArray, List.set_cons_zero, List.set_cons_succ];exact rfl)|exact rfl);(with_reducible first|exact one3|exact one5|exact one21|exact one80)));(try clear K);(try clear ww);intro ww K;(try simp [go_sem] at K))|(go_at_call 93;(with_reducible refine (NN.out _).mono ?_);rintro e w2 ⟨rfl, k1⟩;replace K := K.step k1;clear k1;(try clear ww);revert w2;intro ww K)|(go_at_call 98;(with_reducible refine (GB.out _ _ ((K.get (.tl (.tl .hd))).cell rfl) K.below).mono ?_);rintro e w2 ⟨rfl, k1⟩;replace K := K.step k1;clear k1;(try clear ww);revert w2;intro ww K))
        exact ⟨⟨2, _, _, _, .inr (.inr (.inl ⟨rfl, rfl, rfl, rfl⟩)), by go_num, K⟩, by simp [intOf]⟩
      · have ix := ptr_ix2
        go_wp2_with (first|go_big_skip|((with_reducible refine at_load ?_);first|(refine wm_load (cs := ?_) (t := ?_) (n := ?_) K rfl _ _ rfl rfl ?_ ?_ ?_ ?_;rotate_left 2;(repeat (first|exact At.hd|refine At.tl ?_));rotate_left;(with_reducible first|exact row76);(solve|exact rfl|simp))|(refine wm_own (cs := ?_) (t := ?_) (v := ?_) K rfl _ _ rfl rfl ?_ ?_ ?_ ?_;rotate_left 2;(repeat (first|exact At.hd|refine At.tl ?_));rotate_left;(first|exact rfl|assumption);(with_reducible first|exact one3|exact one5|exact one21|exact one80))|(refine wm_cell (v := ?_) rfl _ _ rfl rfl ?_ ?_ ?_;rotate_left;(first|assumption|exact (K.below.cell (by assumption)).trans (by assumption));(with_reducible first|exact one3|exact one5|exact one21|exact one80)))|((with_reducible refine at_store ?_);(first|(refine wm_store (L' := ?_) (cs := ?_) (t := ?_) (n := ?_) K rfl _ _ _ rfl rfl rfl rfl ?_ ?_ ?_ ?_ ?_ ?_;rotate_left 3;(repeat (first|exact Put.hd|(refine Put.tl (L' := ?_) ?_;rotate_left)));rotate_left;(with_reducible first|exact row76);(solve|exact rfl|simp);(solve|exact rfl|simp);(solve|exact rfl|simp [Ones, Value.oneCell']))|(refine wm_put (L' := ?_) (cs := ?_) (new := ?_) (t := ?_) K rfl _ _ _ rfl rfl rfl rfl ?_ ?_ ?_ ?_ rfl rfl ?_;rotate_left 4;(repeat (first|exact Put.hd|(refine Put.tl (L' := ?_) ?_;rotate_left)));(solve|exact Nat.le_of_ble_eq_true rfl|decide|(simp only [List.size_toArray, nums_length];first|assumption|omega)|(simp only [List.size_toArray, nums_length, List.length_set];first|assumption|omega)|simp|omega|(simp only [List.size_toArray, nums_length];omega)|assumption);(solve|(simp only [List.setIfInBounds_toArray];exact rfl)|exact nums_set _ _ _ _|simp only [List.setIfInBounds_toArray, List.set_cons_zero]|simp only [List.setIfInBounds_toArray, List.set_cons_zero, List.set_cons_succ]|(simp only [List.setIfInBounds_toArray, List.set_cons_zero, List.set_cons_succ];exact rfl)|exact rfl);(with_reducible first|exact one3|exact one5|exact one21|exact one80)));(try clear K);(try clear ww);intro ww K;(try simp [go_sem] at K))|(go_at_call 93;(with_reducible refine (NN.out _).mono ?_);rintro e w2 ⟨rfl, k1⟩;replace K := K.step k1;clear k1;(try clear ww);revert w2;intro ww K))
        exact ⟨⟨3, _, _, _, .inr (.inr (.inr ⟨rfl, rfl, rfl, rfl⟩)), by go_num, K⟩, by simp [intOf]⟩
      · go_wp2_with (first|go_big_skip|((with_reducible refine at_load ?_);first|(refine wm_load (cs := ?_) (t := ?_) (n := ?_) K rfl _ _ rfl rfl ?_ ?_ ?_ ?_;rotate_left 2;(repeat (first|exact At.hd|refine At.tl ?_));rotate_left;(with_reducible first|exact row76);(solve|exact rfl|simp))|(refine wm_own (cs := ?_) (t := ?_) (v := ?_) K rfl _ _ rfl rfl ?_ ?_ ?_ ?_;rotate_left 2;(repeat (first|exact At.hd|refine At.tl ?_));rotate_left;(first|exact rfl|assumption);(with_reducible first|exact one3|exact one5|exact one21|exact one80))|(refine wm_cell (v := ?_) rfl _ _ rfl rfl ?_ ?_ ?_;rotate_left;(first|assumption|exact (K.below.cell (by assumption)).trans (by assumption));(with_reducible first|exact one3|exact one5|exact one21|exact one80)))|((with_reducible refine at_store ?_);(first|(refine wm_store (L' := ?_) (cs := ?_) (t := ?_) (n := ?_) K rfl _ _ _ rfl rfl rfl rfl ?_ ?_ ?_ ?_ ?_ ?_;rotate_left 3;(repeat (first|exact Put.hd|(refine Put.tl (L' := ?_) ?_;rotate_left)));rotate_left;(with_reducible first|exact row76);(solve|exact rfl|simp);(solve|exact rfl|simp);(solve|exact rfl|simp [Ones, Value.oneCell']))|(refine wm_put (L' := ?_) (cs := ?_) (new := ?_) (t := ?_) K rfl _ _ _ rfl rfl rfl rfl ?_ ?_ ?_ ?_ rfl rfl ?_;rotate_left 4;(repeat (first|exact Put.hd|(refine Put.tl (L' := ?_) ?_;rotate_left)));(solve|exact Nat.le_of_ble_eq_true rfl|decide|(simp only [List.size_toArray, nums_length];first|assumption|omega)|(simp only [List.size_toArray, nums_length, List.length_set];first|assumption|omega)|simp|omega|(simp only [List.size_toArray, nums_length];omega)|assumption);(solve|(simp only [List.setIfInBounds_toArray];exact rfl)|exact nums_set _ _ _ _|simp only [List.setIfInBounds_toArray, List.set_cons_zero]|simp only [List.setIfInBounds_toArray, List.set_cons_zero, List.set_cons_succ]|(simp only [List.setIfInBounds_toArray, List.set_cons_zero, List.set_cons_succ];exact rfl)|exact rfl);(with_reducible first|exact one3|exact one5|exact one21|exact one80)));(try clear K);(try clear ww);intro ww K;(try simp [go_sem] at K)))
        exact bodyPost_ret (K.res3 rfl _ rfl (.tl .hd) (by (with_reducible first | exact row76)) (by (solve | exact rfl | simp)) rfl rfl) rfl ⟨rfl, K.below⟩
end Go.Proofs.Ytpejoaefnnbghaa
