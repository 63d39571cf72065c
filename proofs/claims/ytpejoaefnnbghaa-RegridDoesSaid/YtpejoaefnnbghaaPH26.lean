/-
  Lemmas and walks of this claim (the texts Di19 Dj19 Dk19 Dm19 of the work; what no proof here uses is left out). No claim of their own.
-/
import Derived.Test.YtpejoaefnnbghaaPH25
import Derived.Test.YtpejoaefnnbghaaPH14
import Derived.Test.YtpejoaefnnbghaaPH7
import Derived.Test.YtpejoaefnnbghaaPH21
import Derived.Test.YtpejoaefnnbghaaPH22
import Derived.Test.YtpejoaefnnbghaaPH3
import Derived.Test.YtpejoaefnnbghaaPH8
import Derived.Test.YtpejoaefnnbghaaPH1
import Derived.Test.YtpejoaefnnbghaaPH17
import Derived.Test.YtpejoaefnnbghaaPH18
import Derived.Test.YtpejoaefnnbghaaPH23
import Derived.Test.YtpejoaefnnbghaaPH19
import Derived.Test.YtpejoaefnnbghaaPH5
import Derived.Test.YtpejoaefnnbghaaPH20
import Derived.Test.YtpejoaefnnbghaaPH11
import Derived.Test.YtpejoaefnnbghaaPH4
import Derived.Test.YtpejoaefnnbghaaPH15
import Derived.Test.YtpejoaefnnbghaaProg
import Derived.Deep.QuietTactic
import Derived.BigQuiet
import Derived.Deep.Cut
import Derived.Deep.LoopGhost
import Derived.WalkLawsBesides
import Derived.WalkSpells
import Derived.Laws.StructEq
import Derived.OpenShut
set_option linter.all false
set_option linter.unusedSimpArgs false
set_option linter.unusedVariables false
namespace Go.Proofs.Ytpejoaefnnbghaa
open Go.RowKit
section
variable {P : Program} {ops : Array Oper} {o : Oper} {rest : List Oper} {a : Act} {w : World} {Q : Exit → Act → World → Prop} {n : Nat}
theorem wide_step (h : wpList P ops (Qn (wpListIn Fence.wide n P ops Q rest)) [o] a w) : wpListIn Fence.wide n P ops Q (o :: rest) a w := by
  by_cases hg : Region.wanted o (yielded ops a.tmps) = true
  · unfold wpListIn
    rw [if_pos hg]
    exact oper_wide (wp_of_list hg h)
  · unfold wpList at h
    rw [if_neg hg] at h
    unfold wpListIn
    rw [if_neg hg]
    exact ⟨fun _ _ => trivial, h⟩
end
attribute [local irreducible] wpHeld wpTree wpList
attribute [local go_sem] Oper.semAt_some
set_option linter.unusedVariables false
set_option linter.unusedSimpArgs false
theorem St.loopAt {B D : Nat} {w0 w : World} {L : List Blk} {F : World → Prop} {rc : Loop} (K : St B w0 L F w) (h : LoopAt D rc w) : St B w0 L (fun w' => LoopAt D rc w' ∧ F w') w := by
  refine K.add fun w' hs hb => ⟨(hb D (Array.getElem?_eq_some_iff.1 h.1).1 fun hm => ?_).trans h.1, (hb (D + 1) (Array.getElem?_eq_some_iff.1 h.2).1 fun hm => ?_).trans h.2⟩
  · obtain ⟨p, hp, e⟩ := List.mem_map.1 hm
    have := (K.has p hp).2
    unfold Has at this
    rw [e, h.1] at this
    cases this
  · obtain ⟨p, hp, e⟩ := List.mem_map.1 hm
    have := (K.has p hp).2
    unfold Has at this
    rw [e, h.2] at this
    cases this
theorem perm4 {α : Type} (a b c d : α) (l : List α) : (a :: b :: c :: d :: l).Perm (d :: a :: b :: c :: l) :=
  (List.perm_middle (l₁ := [a, b, c]) (l₂ := l) (a := d))
def AllS (G : World → Prop) (B : Nat) (w0 : World) (bb b15 D : Nat) (rc : Loop) (Lr : List Blk) (j : Nat) (V : World) : Prop :=
  ∃ (p q n c : Nat) (X Y S : Int) (A : Option Addr) (zs : List Int), Right14 p q S zs ∧ zs.length = n ∧ (-(1000000 + (j : Int) * 1048576) ≤ X ∧ X ≤ 1000000 + (j : Int) * 1048576) ∧ (-(1000000 + (j : Int) * 1048576) ≤ Y ∧ Y ≤ 1000000 + (j : Int) * 1048576) ∧ (j = 0 → choV p q S zs = stepV 1 0 0 0 0 ∧ splok p q S = true ∧ 0 < isum (split14 p zs (4 * n))) ∧
    St B w0 ((bb, #[.int .i64 p, .int .i64 q, .int .i64 X, .int .i64 Y, .int .i64 S, .slice A n c], 26) :: (b15, #[.int .i64 j], 3) :: Lr) (fun w => Rd w A n (ints .i64 zs) ∧ LoopAt D rc w ∧ G w) V
theorem split_first (p q n : Nat) (X Y S : Int) (A : Option Addr) (c : Nat) (zs : List Int) (w : World) (R : Right14 p q S zs) (hl : zs.length = n) (h : Rd w A n (ints .i64 zs)) (hM : (-1000000 ≤ X ∧ X ≤ 1000000) ∧ -1000000 ≤ Y ∧ Y ≤ 1000000) (hs : splok p q S = true) (hz : 0 < isum (split14 p zs (4 * n))) :
    Calls Try.prog 40 #[.agg #[.int .i64 p, .int .i64 q, .int .i64 X, .int .i64 Y, .int .i64 S, .slice A n c], .agg #[.int .i64 1, .int .i64 0, .int .i64 0, .int .i64 0, .int .i64 0]] w fun e w' => ∃ (A3 : Option Addr) (c3 : Nat) (s1 s2 : Int), e = .returned (.tuple #[.agg #[.int .i64 ((2 * p : Nat)), .int .i64 ((2 * q : Nat)), .int .i64 (X - S / 4), .int .i64 (Y - S / 4), .int .i64 (S / 2), .slice A3 (4 * n) c3], .int .i64 s1, .int .i64 s2, .int .i64 0]) ∧ (Rd w' A3 (4 * n) (ints .i64 (norm14 (isum (split14 p zs (4 * n))) (split14 p zs (4 * n)))) ∧ Nw w.heap.size A3) ∧ Right14 (2 * p : Nat) (2 * q : Nat) (S / 2) (norm14 (isum (split14 p zs (4 * n))) (split14 p zs (4 * n))) ∧ Below w.heap.size w w' := by
  have G := R.gr rfl rfl
  have hlen := G.len
  rw [hl] at hlen
  have s0 := R.s0
  have s1 := R.s1
  have p1 := G.w0
  have q1 := G.h0
  have hn5 := G.n2
  rw [hl] at hn5
  obtain ⟨h1, h2, h3, h4⟩ := splok_iff.1 hs
  have hwx : wrap64 (X - S / 4) = X - S / 4 := (wrapI (b := X - S / 4) rfl (by omega) (by omega)).1
  have hwy : wrap64 (Y - S / 4) = Y - S / 4 := (wrapI (b := Y - S / 4) rfl (by omega) (by omega)).1
  have hp4 : 4 * n ≤ 5000 := by
    have := Nat.mul_le_mul (show p ≤ 32 by omega) (show q ≤ 32 by omega)
    omega
  have hb2 : ∀ z ∈ split14 p zs (4 * n), 0 ≤ z ∧ z ≤ 1073741824 := gen_mem fun i _ => splitv_bd G.nums i
  refine (Do19_Split p q X Y S 0 0 0 0 A n c zs w h G.nums (by omega) (2 * p : Nat) (2 * q : Nat) (X - S / 4) (Y - S / 4) (S / 2) (4 * n) (split14 p zs (4 * n)) hb2 (by exact hp4) hz (fun w hw => GSplitX14 X Y S _ _ p q A n c (4 * n) zs w hw G.nums (by rw [← hlen]) (by omega) (by omega) hwx hwy (by omega) h4 rfl)).mono ?_
  rintro e w' ⟨A3, c3, rfl, h3, hb⟩
  refine ⟨_, _, _, _, rfl, h3, norm_right (by omega) (by omega) (by omega) ?_ (fun z hz => (hb2 z hz).1) hz, hb⟩
  rw [split14, gen_len]
  have e : 2 * p * (2 * q) = 4 * (p * q) := by rw [Nat.mul_mul_mul_comm]
  rw [← Int.natCast_mul, e, hlen]
set_option maxRecDepth 100000 in
set_option maxHeartbeats 4000000 in
theorem All19_gives (G : World → Prop) (hG : Firm G) (B : Nat) (w0 W : World) (bb b15 D lo : Nat) (rc : Loop) (Lr : List Blk)
    (hY : ∀ (j : Nat) (L : List Blk) (F : World → Prop) (V : World) (g s : Array Value), j < 4 → Firm F → St B w0 ((b15, #[.int .i64 j], 3) :: L) F V → LoopAt D rc V → YieldAt Fence.wide 7 Try.prog lo #[.agg g, .agg s] V fun e V' => e = .returned (.bool true) ∧ St B w0 ((b15, #[.int .i64 (j + 1 : Nat)], 3) :: L) F V' ∧ LoopAt D rc V')
    (h0 : AllS G B w0 bb b15 D rc Lr 0 W) :
    CallsIn Fence.wide 8 Try.prog 109 (#[.func (.yield lo) #[] #[]] ++ #[.pointer (some ⟨bb, 0, none⟩)]) W fun e W' => (∃ v, e = .returned v) ∧ ∃ k : Nat, 1 ≤ k ∧ k ≤ 4 ∧ AllS G B w0 bb b15 D rc Lr k W' := by
  refine callsIn_of_wp Try.func109 rfl trivial ?_
  simp only [Try.ntmps109, List.size_toArray, List.length_cons, List.length_nil, Nat.reduceAdd, Nat.reduceSub, Array.replicate_succ, Array.replicate_zero, List.push_toArray, List.append_toArray, List.nil_append, List.cons_append]
  gi_wp2
  refine wpIn_wide.2 (wp_scope_straight (wpIn_wide (n := 8).1 ?_))
  refine wpIn_seq (wpIn_label ?_)
  dsimp only [Exit.then]
  gi_wp2
  gi_loopw [8] (fun i wr => ∃ j : Nat, j ≤ 4 ∧ i = .int .i64 j ∧ AllS G B w0 bb b15 D rc Lr j wr) (fun i _ => 4 - (intOf i).toNat)
  case atStart => exact ⟨0, Nat.zero_le _, rfl, h0⟩
  case round =>
    obtain ⟨j, hj, rfl, hS⟩ := hrel
    by_cases hlt : j < 4
    · have ht : decide ((j : Int) < 4) = true := decide_eq_true (by omega)
      obtain ⟨p, q, n, c, X, Y, S, A, zs, R, hl, hX, hYb, hj0, K⟩ := hS
      obtain ⟨k, x, y, a, b, hch⟩ := choV_step p q S zs
      have CH := Lib.hid (fun w h => Choose19 p q X Y S A n c zs w R hl h)
      rw [hch] at CH
      unfold stepV at CH
      by_cases hk : k = 0
      · subst hk
        have hj1 : j ≠ 0 := fun e => by
          have h1 := (hj0 e).1
          rw [hch] at h1
          unfold stepV at h1
          injection h1 with h1; injection h1 with h1; injection h1 with h1 h2; injection h1 with h3 h4
          cases h4
        have KK := Lib.hid K
        have fin : Hid (∀ V, St B w0 ((bb, #[.int .i64 p, .int .i64 q, .int .i64 X, .int .i64 Y, .int .i64 S, .slice A n c], 26) :: (b15, #[.int .i64 j], 3) :: Lr) (fun w => Rd w A n (ints .i64 zs) ∧ LoopAt D rc w ∧ G w) V → AllS G B w0 bb b15 D rc Lr j V) := Lib.hid fun V K => ⟨p, q, n, c, X, Y, S, A, zs, R, hl, hX, hYb, hj0, K⟩
        clear R hl hX hYb hj0 KK
        revert wr
        intro ww K
        gi_wp2_with (((refine wide_step ?_;go_wp2_with (first|((with_reducible refine at_load ?_);first|(refine wm_load (cs := ?_) (t := ?_) (n := ?_) K rfl _ _ rfl rfl ?_ ?_ ?_ ?_;rotate_left 2;(repeat (exact At.hd));rotate_left;(with_reducible first|exact row26);(exact rfl))|(refine wm_own (cs := ?_) (t := ?_) (v := ?_) K rfl _ _ rfl rfl ?_ ?_ ?_ ?_;rotate_left 2;(repeat (exact At.hd));rotate_left;(exact rfl);(with_reducible first|exact one3)))|((with_reducible refine at_store ?_);(first|(refine wm_store (L' := ?_) (cs := ?_) (t := ?_) (n := ?_) K rfl _ _ _ rfl rfl rfl rfl ?_ ?_ ?_ ?_ ?_ ?_;rotate_left 3;(repeat (exact Put.hd));rotate_left;(with_reducible first|exact row56);(exact rfl);(exact rfl);(simp [Ones, Value.oneCell'])));(try clear K);(try clear ww);intro ww K;(try simp [go_sem] at K))|((first|((with_reducible refine at_alloc ?_);refine wm_alloc (v := ?_) (cs := ?_) K rfl _ rfl ?_ ?_ ?_;rotate_left;(with_reducible first|exact zero56);rotate_left;exact rfl));(try clear K);(try clear ww);((fail_if_success (have _h := b3));intro b3 ww K);(try simp [go_sem, Value.cells] at K))|(go_at_call 35;(with_reducible refine (CH.out _ K.fact.1).mono ?_);rintro e w2 ⟨rfl, k1⟩;replace K := K.step k1;clear k1;(try clear ww);revert w2;intro ww K)));refine qn_out ?_))
        dsimp only [Exit.noGoto, Exit.inBlock]
        gi_wp2
        go_end0
        exact ⟨⟨_, rfl⟩, j, by omega, by omega, fin.out _ K.tail⟩
      · have DO : Hid (∀ w, Rd w A n (ints .i64 zs) → Calls Try.prog 40 #[.agg #[.int .i64 p, .int .i64 q, .int .i64 X, .int .i64 Y, .int .i64 S, .slice A n c], .agg #[.int .i64 k, .int .i64 x, .int .i64 y, .int .i64 a, .int .i64 b]] w fun e w' => ∃ (W2 H2 X2 Y2 S2 : Int) (A2 : Option Addr) (n2 c2 : Nat) (s1 s2 cd : Int), e = .returned (.tuple #[.agg #[.int .i64 W2, .int .i64 H2, .int .i64 X2, .int .i64 Y2, .int .i64 S2, .slice A2 n2 c2], .int .i64 s1, .int .i64 s2, .int .i64 cd]) ∧ (NextG (1000000 + (j : Int) * 1048576) w.heap.size W2 H2 X2 Y2 S2 A2 n2 cd w' ∧ (j = 0 → cd = 0)) ∧ Below w.heap.size w w') := Lib.hid fun w h => by
          by_cases hj' : j = 0
          · obtain ⟨h1, h2, h3⟩ := hj0 hj'
            rw [hch] at h1
            unfold stepV at h1
            injection h1 with h1; injection h1 with h1; injection h1 with e1 h1; injection h1 with e2 h1; injection h1 with e3 h1; injection h1 with e4 h1; injection h1 with e5 h1
            cases e1; cases e2; cases e3; cases e4; cases e5
            refine (split_first p q n X Y S A c zs w R hl h ⟨by omega, by omega⟩ h2 h3).mono ?_
            rintro e w' ⟨A3, c3, s1, s2, rfl, ⟨h4, hA⟩, R2, hb⟩
            have s0' := R.s0
            have s1' := R.s1
            exact ⟨_, _, _, _, _, _, _, _, _, _, _, rfl, ⟨fun _ => ⟨2 * p, 2 * q, _, rfl, rfl, R2, by rw [norm_len, split14, gen_len], h4, hA, by omega, by omega⟩, fun _ => rfl⟩, hb⟩
          · refine (Next19 p q n X Y S (1000000 + (j : Int) * 1048576) A c zs w R hl h (by omega) hX hYb k x y a b hch hk).mono ?_
            rintro e w' ⟨W2, H2, X2, Y2, S2, A2, n2, c2, s1, s2, cd, rfl, hN, hb⟩
            exact ⟨_, _, _, _, _, _, _, _, _, _, _, rfl, ⟨hN, fun e => absurd e hj'⟩, hb⟩
        have fin : Hid (∀ V, St B w0 ((bb, #[.int .i64 p, .int .i64 q, .int .i64 X, .int .i64 Y, .int .i64 S, .slice A n c], 26) :: (b15, #[.int .i64 j], 3) :: Lr) (fun w => Rd w A n (ints .i64 zs) ∧ LoopAt D rc w ∧ G w) V → AllS G B w0 bb b15 D rc Lr j V) := Lib.hid fun V K => ⟨p, q, n, c, X, Y, S, A, zs, R, hl, hX, hYb, hj0, K⟩
        have hk0 : decide (k = 0) = false := decide_eq_false hk
        have hk1 : ¬(0 = k) := fun e => hk e.symm
        clear R hl hX hYb hj0
        revert wr
        intro ww K
        gi_wp2_with ((refine wide_step ?_;go_wp2_with (first|((with_reducible refine at_load ?_);first|(refine wm_load (cs := ?_) (t := ?_) (n := ?_) K rfl _ _ rfl rfl ?_ ?_ ?_ ?_;rotate_left 2;(repeat (first|exact At.hd|refine At.tl ?_));rotate_left;(with_reducible first|exact row26|exact row56);(exact rfl))|(refine wm_own (cs := ?_) (t := ?_) (v := ?_) K rfl _ _ rfl rfl ?_ ?_ ?_ ?_;rotate_left 2;(repeat (exact At.hd));rotate_left;(exact rfl);(with_reducible first|exact one3)))|((with_reducible refine at_store ?_);(first|(refine wm_store (L' := ?_) (cs := ?_) (t := ?_) (n := ?_) K rfl _ _ _ rfl rfl rfl rfl ?_ ?_ ?_ ?_ ?_ ?_;rotate_left 3;(repeat (exact Put.hd));rotate_left;(with_reducible first|exact row56);(exact rfl);(exact rfl);(simp [Ones, Value.oneCell'])));(try clear K);(try clear ww);intro ww K;(try simp [go_sem] at K))|((first|((with_reducible refine at_alloc ?_);refine wm_alloc (v := ?_) (cs := ?_) K rfl _ rfl ?_ ?_ ?_;rotate_left;(with_reducible first|exact zero56);rotate_left;exact rfl));(try clear K);(try clear ww);((fail_if_success (have _h := b3));intro b3 ww K);(try simp [go_sem, Value.cells] at K))|(go_at_call 35;(with_reducible refine (CH.out _ K.fact.1).mono ?_);rintro e w2 ⟨rfl, k1⟩;replace K := K.step k1;clear k1;(try clear ww);revert w2;intro ww K)));refine qn_out ?_)
        refine ⟨trivial, (callsIn_wide.2 (DO.out _ K.fact.1)).mono ?_⟩
        rintro e w2 ⟨W2, H2, X2, Y2, S2, A2, n2, c2, s1, s2, cd, rfl, ⟨hN, hz⟩, hb2⟩
        dsimp only
        clear DO CH
        by_cases hc : cd = 0
        · subst hc
          obtain ⟨p2, q2, z2, rfl, rfl, R2, hl2, h2, hA, hX2, hY2⟩ := hN rfl
          replace K := K.madeRd hb2 h2 hA
          clear hb2 h2 hA hN hz
          clear ww
          revert w2
          intro ww K
          gi_wp2_with ((refine wide_step ?_;go_wp2_with (first|((with_reducible refine at_load ?_);first|(refine wm_load (cs := ?_) (t := ?_) (n := ?_) K rfl _ _ rfl rfl ?_ ?_ ?_ ?_;rotate_left 2;(repeat (first|exact At.hd|refine At.tl ?_));rotate_left;(with_reducible first|exact row26|exact row56);(exact rfl)))|((with_reducible refine at_store ?_);(first|(refine wm_store (L' := ?_) (cs := ?_) (t := ?_) (n := ?_) K rfl _ _ _ rfl rfl rfl rfl ?_ ?_ ?_ ?_ ?_ ?_;rotate_left 3;(repeat (exact Put.hd));rotate_left;(with_reducible first|exact row26);(exact rfl);(exact rfl);(simp [Ones, Value.oneCell'])));(try clear K);(try clear ww);intro ww K;(try simp [go_sem] at K))|((first|((with_reducible refine at_alloc ?_);refine wm_alloc (v := ?_) (cs := ?_) K rfl _ rfl ?_ ?_ ?_;rotate_left;(with_reducible first|exact zero26);rotate_left;exact rfl));(try clear K);(try clear ww);((fail_if_success (have _h := b4));intro b4 ww K);(try simp [go_sem, Value.cells] at K))));refine qn_out ?_)
          have hL := K.fact.2.2.1
          obtain ⟨fn, tmps, assign, body, hy, hRd⟩ := hY j _ (fun w => Rd w A2 n2 (ints .i64 z2) ∧ G w) ww #[.int .i64 p, .int .i64 q, .int .i64 X, .int .i64 Y, .int .i64 S, .slice A n c] #[.int .i64 k, .int .i64 x, .int .i64 y, .int .i64 a, .int .i64 b] hlt (firm_rd.and hG) ((K.perm (perm4 _ _ _ _ _)).weak fun w h => ⟨h.1, h.2.2.2⟩) hL
          rw [hy]
          simp only [Oper.uponIn]
          refine ⟨fun _ => by omega, hRd.mono ?_⟩
          rintro e W3 ⟨rfl, K3, hL3⟩
          clear K hL hRd hy
          have K := ((K3.perm (perm4 _ _ _ _ _).symm).loopAt hL3).weak (G := fun w => Rd w A2 n2 (ints .i64 z2) ∧ LoopAt D rc w ∧ G w) fun w h => ⟨h.2.1, h.1, h.2.2⟩
          clear K3 hL3
          clear ww
          revert W3
          intro ww K
          gi_wp2_with ((refine wide_step ?_;go_wp2_with (first|((with_reducible refine at_load ?_);first|(refine wm_load (cs := ?_) (t := ?_) (n := ?_) K rfl _ _ rfl rfl ?_ ?_ ?_ ?_;rotate_left 2;(repeat (exact At.hd));rotate_left;(with_reducible first|exact row26);(exact rfl)))|((with_reducible refine at_store ?_);(first|(refine wm_store (L' := ?_) (cs := ?_) (t := ?_) (n := ?_) K rfl _ _ _ rfl rfl rfl rfl ?_ ?_ ?_ ?_ ?_ ?_;rotate_left 3;(repeat (first|exact Put.hd|(refine Put.tl (L' := ?_) ?_;rotate_left)));rotate_left;(with_reducible first|exact row26);(exact rfl);(exact rfl);(simp [Ones, Value.oneCell'])));(try clear K);(try clear ww);intro ww K;(try simp [go_sem] at K))));refine qn_out ?_)
          exact ⟨⟨j + 1, by omega, by simp, p2, q2, n2, c2, X2, Y2, S2, A2, z2, R2, hl2, by omega, by omega, fun e => absurd e (by omega), K.tail.tail⟩, by simp [intOf]; omega⟩
        · have hj1 : j ≠ 0 := fun e => hc (hz e)
          replace K := K.step hb2
          clear hb2 hN hz
          clear ww
          revert w2
          intro ww K
          have t1 : (cd != 0) = true := by simpa using hc
          have t2 : ¬(cd = 0) := hc
          gi_wp2_with ((refine wide_step ?_;go_wp2_with (first|go_big_skip|((with_reducible refine at_store ?_);(first|(refine wm_store (L' := ?_) (cs := ?_) (t := ?_) (n := ?_) K rfl _ _ _ rfl rfl rfl rfl ?_ ?_ ?_ ?_ ?_ ?_;rotate_left 3;(repeat (exact Put.hd));rotate_left;(with_reducible first|exact row26);(exact rfl);(exact rfl);(simp [Ones, Value.oneCell'])));(try clear K);(try clear ww);intro ww K;(try simp [go_sem] at K))|((first|((with_reducible refine at_alloc ?_);refine wm_alloc (v := ?_) (cs := ?_) K rfl _ rfl ?_ ?_ ?_;rotate_left;(with_reducible first|exact zero26);rotate_left;exact rfl));(try clear K);(try clear ww);((fail_if_success (have _h := b4));intro b4 ww K);(try simp [go_sem, Value.cells] at K))));refine qn_out ?_)
          dsimp only [Exit.noGoto, Exit.inBlock]
          gi_wp2
          go_end0
          exact ⟨⟨_, rfl⟩, j, by omega, by omega, fin.out _ K.tail.tail⟩
    · obtain rfl : j = 4 := by omega
      gi_wp2
      dsimp only [Exit.noGoto]
      gi_wp2
      go_end0
      exact ⟨⟨_, rfl⟩, 4, by omega, by omega, hS⟩
end Go.Proofs.Ytpejoaefnnbghaa
namespace Go.Proofs.Ytpejoaefnnbghaa
open Go.RowKit
attribute [local irreducible] wpHeld wpTree wpList
set_option linter.unusedVariables false
set_option linter.unusedSimpArgs false
section
variable {g : Operand} {ps : Array Tmp} {assign body : Code} {Q : Exit → Act → World → Prop} {a : Act} {w : World}
theorem wm_range19 (G : World → Prop) (hG : Firm G) {B : Nat} {w0 : World} (bb b15 : Nat) (Lr : List Blk) (hg : a.eval g = .func (.func 109) #[] #[.pointer (some ⟨bb, 0, none⟩)]) (hps : ps.size = 2) (hB : B ≤ w.heap.size)
    (p q n c : Nat) (X Y S : Int) (A : Option Addr) (zs : List Int) (R : Right14 p q S zs) (hl : zs.length = n) (hX : -1000000 ≤ X ∧ X ≤ 1000000) (hYb : -1000000 ≤ Y ∧ Y ≤ 1000000) (h1 : choV p q S zs = stepV 1 0 0 0 0 ∧ splok p q S = true ∧ 0 < isum (split14 p zs (4 * n)))
    (K : St B w0 ((bb, #[.int .i64 p, .int .i64 q, .int .i64 X, .int .i64 Y, .int .i64 S, .slice A n c], 26) :: (b15, #[.int .i64 0], 3) :: Lr) (fun w => Rd w A n (ints .i64 zs) ∧ G w) w)
    (hround : ∀ (l j : Nat) (L : List Blk) (F : World → Prop) (x s : Array Value) (V : World) (KK : Act → World → Prop), w.heap.size ≤ l → j < 4 → Firm F → St B w0 ((b15, #[.int .i64 j], 3) :: L) F V →
      (∀ a1 W1, KeepsFrom w.heap.size V W1 → (∀ (W2 : World) (r : Nat) (o o' : Obj), w.heap.size ≤ r → W1.heap[r]? = some o → o.isCells = false → W2 = W1.putObj r o' → body.wpIn (Fence.wide.inRound l) (9 - 1 - 1) Try.prog (roundQ w.heap.size (fun j => St B w0 ((b15, #[.int .i64 j], 3) :: L) F) (fun _ _ => False) j W2) a1 W2) → KK a1 W1) →
      assign.wpIn (Fence.wide.inRound l) (9 - 1 - 1) Try.prog (Exit.then KK (fun _ _ _ => False)) { tmps := (ps.zip #[Value.agg x, .agg s]).foldl (fun t (p, v) => t.setIfInBounds p v) a.tmps, defers := [] } V)
    (hdone : ∀ (D k : Nat) (cs : Array Value) (W : World), w.heap.size ≤ D → 1 ≤ k → k ≤ 4 → St B w0 ((bb, cs, 26) :: (b15, #[.int .i64 k], 3) :: Lr) G W → W.heap[D]? = some (.deferred (some [])) → Q .normal { a with defers := { target := .collected D, args := #[] } :: a.defers } W) :
    (Code.rangeFunc g ps assign body).wp Try.prog Q a w := by
  have eg : ∀ args w, (callFunc 109 args).run Try.prog w = .ok (.enter 109 args) w := enters_of Try.func109 (by kernel_rfl) rfl
  refine (wpIn_wide (n := 9)).1 (wpIn_rangeFunc fun fn hfn => ?_)
  obtain ⟨D, hD⟩ : ∃ D, w.heap.size = D := ⟨_, rfl⟩
  obtain ⟨rc, hrc⟩ : ∃ rc, loopRec fn a ps assign body D = rc := ⟨_, rfl⟩
  obtain ⟨W1, hW1⟩ : ∃ W1, (w.alloc (.deferred (some []))).alloc (.loop (rc .ready none)) = W1 := ⟨_, rfl⟩
  have hb1 : Below w.heap.size w W1 := by rw [← hW1]; exact ((Below.refl _ w).alloc (Nat.le_refl _) _).alloc (by simp) _
  have hL1 : LoopAt D (rc .ready none) W1 := by
    rw [← hW1, ← hD]
    refine ⟨(Below.heap_alloc _ _ _ (by simp)).trans (World.alloc_heap_new w _), ?_⟩
    have := World.alloc_heap_new (w.alloc (.deferred (some []))) (.loop (rc .ready none))
    rwa [World.size_alloc] at this
  rw [hD] at hround hdone
  refine ⟨D + 1, [{ target := .collected D, args := #[] }], W1, { target := .fn (.func 109) #[.pointer (some ⟨bb, 0, none⟩)], args := #[.func (.yield (D + 1)) #[] #[]] }, W1, 109, #[.func (.yield (D + 1)) #[] #[]] ++ #[.pointer (some ⟨bb, 0, none⟩)], W1, ?_, ?_, fun _ _ => trivial, ?_, fun h => by simp [Fence.wide] at h, ?_⟩
  · show (Instr.enterLoop fn a.tmps ps assign body none).run Try.prog w = _
    rw [run_enterLoop_outer, ← hW1, ← hrc, ← hD]
    rfl
  · simp only [resolve, hg]
    simp [go_sem]
  · simp [invoke, go_sem, eg]
  refine (All19_gives G hG B w0 W1 bb b15 D (D + 1) (rc .ready none) Lr ?_ ?_).mono ?_
  · intro j L F V x s hj hF K1 hl1
    have hy := run_yield (P := Try.prog) (args := #[Value.agg x, .agg s]) hl1.2 (by rw [← hrc]; exact hps.symm)
    rw [← hrc] at hy
    refine ⟨fn, _, assign, body, hy, roundIn_of_wpIn (F := Fence.wide) trivial (hround (D + 1) j L F x s V _ (by omega) hj hF K1 fun a1 W2 hk1 hbody => ?_)⟩
    have hl2 := hl1.keeps hk1
    refine ⟨_, run_beginRound hl2.2 (by rw [← hrc]; rfl), ?_⟩
    have hl3 : LoopAt D { rc .ready none with state := .busy } (W2.putObj (D + 1) (.loop { rc .ready none with state := .busy })) := hl2.put
    refine wpIn_mono (hbody _ (D + 1) _ _ (by omega) hl2.2 rfl rfl) ?_
    have fin : ∀ (jump : Option Code) (W3 : World), LoopAt D { rc .ready none with state := .busy } W3 →
        (Instr.endRound (D + 1) jump).run Try.prog W3 = .ok (.bool jump.isNone) (W3.putObj (D + 1) (.loop (rc (if jump.isNone then .ready else .done) jump))) ∧
        LoopAt D (rc (if jump.isNone then .ready else .done) jump) (W3.putObj (D + 1) (.loop (rc (if jump.isNone then .ready else .done) jump))) := fun jump W3 h3 => by
      have := run_endRound (P := Try.prog) jump h3.2
      rw [← hrc] at this ⊢
      exact ⟨this, by rw [← hrc] at h3; exact h3.put⟩
    rintro e a3 W3 hp
    cases e with
    | normal =>
      obtain ⟨hk3, hi3⟩ := hp
      have h3 := hl3.keeps hk3
      obtain ⟨hr, hl4⟩ := fin none W3 h3
      exact ⟨_, _, hr, rfl, (stable_st (D := D) (by omega) hF).turn _ _ _ _ (by omega) h3.2 rfl hi3, hl4⟩
    | ret => exact hp.2.elim
    | exit id => exact hp.2.elim
    | goto t => exact hp.2.elim
    | panic ch => exact hp.elim
    | outgrown => exact hp.elim
  · exact ⟨p, q, n, c, X, Y, S, A, zs, R, hl, by omega, by omega, fun _ => h1, ((K.step hb1).loopAt hL1).weak fun w h => ⟨h.2.1, h.1, h.2.2⟩⟩
  · rintro e W2 ⟨⟨v, rfl⟩, k, k1, k4, p2, q2, n2, c2, X2, Y2, S2, A2, z2, -, -, -, -, -, K2⟩
    have hl := K2.fact.2.1
    have := run_endLoop (P := Try.prog) hl.2 (by rw [← hrc]; simp [loopRec])
    rw [← hrc] at this
    exact ⟨none, _, this, hdone D k _ _ (Nat.le_refl _) k1 k4 ((stable_st (D := D) (by omega) hG).turn _ _ _ _ (by omega) hl.2 rfl (K2.weak fun _ h => h.2.2)) ((World.putObj_heap_other (by omega)).trans hl.1)⟩
end
end Go.Proofs.Ytpejoaefnnbghaa
namespace Go.Proofs.Ytpejoaefnnbghaa
open Go.RowKit
attribute [local irreducible] wpHeld wpTree wpList
set_option linter.unusedVariables false
set_option linter.unusedSimpArgs false
def one19 : List Int := one26 64 9
theorem one19_right : Right14 (8 : Nat) (8 : Nat) 256 one19 := right_iff.1 (by decide +kernel)
theorem one19_cho : choV 8 8 256 one19 = stepV 1 0 0 0 0 := by kernel_rfl
theorem mad19_right : Right14 (8 : Nat) (8 : Nat) 256 (mad14 64 [9]) := right_iff.1 (by decide +kernel)
theorem mad19_cho : choV 8 8 256 (mad14 64 [9]) = stepV 2 0 0 0 0 := by kernel_rfl
theorem one19_cen : stepV 3 (cx19 8 one19) (cy19 8 8 one19) (min 8 16 : Nat) (min 8 16 : Nat) = stepV 3 (-3) (-3) 8 8 := by kernel_rfl
theorem one19_split : 0 < isum (split14 8 one19 256) := by decide +kernel
theorem one19_sum : isum one19 = 1073741824 := by decide +kernel
theorem one19_cut : isum (cut14 8 8 one19 (-3) (-3) 8 64) = 1073741824 := by decide +kernel
theorem one19_nums : ∀ z ∈ one19, 0 ≤ z ∧ z ≤ 1073741824 := (Right14.gr (w := 8) (k := 8) one19_right rfl rfl).nums
theorem cut19_nums : ∀ z ∈ cut14 8 8 one19 (-3) (-3) 8 64, 0 ≤ z ∧ z ≤ 1073741824 := gen_mem fun i _ => cutv_bd one19_nums i
theorem St.freeze19 {b : Nat} {cs : Array Value} {t : TypeId} {B : Nat} {w0 w : World} {L : List Blk} {F : World → Prop} (K : St B w0 ((b, cs, t) :: L) F w) {n : Nat} {l : List Value} (hl : cs.toList = l) (hn : cs.size = n) : St B w0 L (fun w => Rd w (some ⟨b, 0, none⟩) n l ∧ F w) w := by
  subst hl hn
  exact K.tail.add (fun w'' h1 h2 => ((Sl.of_has (K.get .hd)).stays K.head_ids w'' h1 h2).rd)
theorem fnil19 (b : Nat) (w : World) : (binOp .eql 117 (.func (.func 109) #[] #[.pointer (some ⟨b, 0, none⟩)]) Value.nilFunc).run Try.prog w = .ok (.bool false) w := by kernel_rfl
set_option maxRecDepth 100000 in
set_option maxHeartbeats 8000000 in
theorem works19_any (w : World) :
    Calls Try.prog 33 #[] w fun e w' => e = .returned (.bool true) ∧ Below w.heap.size w w' := by
  have K := St.start w
  have MK : Hid (∀ (A2 : Option Addr) (w : World), Rd w A2 1 (ints .u16 [9]) → Calls Try.prog 13 #[.int .u8 7, .int .u8 7, .slice A2 1 1, .int .u8 4] w fun e w' => ∃ A c, e = .returned (.agg #[.int .i64 8, .int .i64 8, .int .i64 1000, .int .i64 ((-1000)), .int .i64 256, .slice A 64 c]) ∧ (Rd w' A 64 (ints .i64 (mad14 64 [9])) ∧ Nw w.heap.size A) ∧ Below w.heap.size w w') := Lib.hid fun A2 w h =>
    Made14 7 7 4 8 8 256 A2 64 1 1 [9] w (by decide) (by decide) (by decide) (by decide) (by decide) (by decide) (by decide) h (by decide)
  have C1 : Hid (∀ (A : Option Addr) (c : Nat) (w : World), Rd w A 64 (ints .i64 (mad14 64 [9])) → Calls Try.prog 35 #[.agg #[.int .i64 8, .int .i64 8, .int .i64 1000, .int .i64 ((-1000)), .int .i64 256, .slice A 64 c]] w fun e w' => e = .returned (.agg #[.int .i64 2, .int .i64 0, .int .i64 0, .int .i64 0, .int .i64 0]) ∧ Below w.heap.size w w') := Lib.hid fun A c w h => by
    have h := Choose19 8 8 1000 (-1000) 256 A 64 c (mad14 64 [9]) w mad19_right (mad_len _ _) h
    rw [mad19_cho] at h
    exact h
  have C2 : Hid (∀ (A : Option Addr) (c : Nat) (w : World), Rd w A 64 (ints .i64 one19) → Calls Try.prog 35 #[.agg #[.int .i64 8, .int .i64 8, .int .i64 0, .int .i64 0, .int .i64 256, .slice A 64 c]] w fun e w' => e = .returned (.agg #[.int .i64 1, .int .i64 0, .int .i64 0, .int .i64 0, .int .i64 0]) ∧ Below w.heap.size w w') := Lib.hid fun A c w h => by
    have h := Choose19 8 8 0 0 256 A 64 c one19 w one19_right (one_len _ _) h
    rw [one19_cho] at h
    exact h
  have C3 : Hid (∀ (A : Option Addr) (c : Nat) (w : World), Rd w A 64 (ints .i64 one19) → Calls Try.prog 38 #[.agg #[.int .i64 8, .int .i64 8, .int .i64 0, .int .i64 0, .int .i64 256, .slice A 64 c]] w fun e w' => e = .returned (.agg #[.int .i64 3, .int .i64 (-3), .int .i64 (-3), .int .i64 8, .int .i64 8]) ∧ Below w.heap.size w w') := Lib.hid fun A c w h => by
    have h := Centred19 8 8 0 0 256 A 64 c one19 w h (by decide) (by decide) (by decide)
    rw [one19_cen] at h
    exact h
  have DC : Hid (∀ (A : Option Addr) (c : Nat) (w : World), Rd w A 64 (ints .i64 one19) → Calls Try.prog 40 #[.agg #[.int .i64 8, .int .i64 8, .int .i64 0, .int .i64 0, .int .i64 256, .slice A 64 c], .agg #[.int .i64 3, .int .i64 (-3), .int .i64 (-3), .int .i64 8, .int .i64 8]] w fun e w' => ∃ A3 c3, e = .returned (.tuple #[.agg #[.int .i64 8, .int .i64 8, .int .i64 ((-768)), .int .i64 ((-768)), .int .i64 256, .slice A3 64 c3], .int .i64 1073741824, .int .i64 1073741824, .int .i64 0]) ∧ (Rd w' A3 64 (ints .i64 (norm14 1073741824 (cut14 8 8 one19 (-3) (-3) 8 64))) ∧ Nw w.heap.size A3) ∧ Below w.heap.size w w') := Lib.hid fun A c w h => by
    have h := Do19_Cut 8 8 0 0 256 (-3) (-3) 8 8 A 64 c one19 w h one19_nums (by decide) 8 8 (-768) (-768) 256 64 (cut14 8 8 one19 (-3) (-3) 8 64) cut19_nums (by decide) (by rw [one19_cut]; decide) (fun w hw => GCut14 8 8 0 0 256 (-3) (-3) 8 8 A 64 c 64 one19 w hw (by decide) (by decide) (by decide) (by decide) (by decide) (by decide) (by decide))
    rw [one19_sum, one19_cut] at h
    exact h
  have DK := Lib.hid (fun (A : Option Addr) (c : Nat) (w : World) => Do19_kind 9 8 8 0 0 256 0 0 0 0 A 64 c w (by decide) (by decide) (by decide) (by decide))
  have CE := Lib.hid (fun (w : World) => Choose19_bad 0 0 0 0 0 _ none 0 0 [] w (Rd.nil w none) (by decide) rfl (by decide))
  unfold stepV at CE
  have fn := fnil19
  have q1 : ∀ w, (Instr.field 56 (.agg #[.int .i64 0, .int .i64 0, .int .i64 0, .int .i64 0, .int .i64 0]) 0).run Try.prog w = .ok (.int .i64 0) w := fun w => by kernel_rfl
  have eg1 := fun x y xs ys w => guardStep x y xs ys w
  have eq1 : ∀ w, (Op.equalIn 10000 56 (.agg #[.int .i64 3, .int .i64 (-3), .int .i64 (-3), .int .i64 8, .int .i64 8]) (.agg #[.int .i64 3, .int .i64 (-3), .int .i64 (-3), .int .i64 8, .int .i64 8])).run Try.prog w = .ok true w := fun w => by
    rw [eqStep]
    rfl
  refine calls_of_wp_marks Try.func33 rfl ?_; simp only [Try.ntmps33, List.size_toArray, List.length_cons, List.length_nil, Nat.reduceAdd, Nat.reduceSub, Array.replicate_succ, Array.replicate_zero, List.push_toArray, List.append_toArray, List.nil_append, List.cons_append]
  go_wp2_with (first|go_big_skip|((with_reducible refine at_load ?_);first|(refine wm_load (cs := ?_) (t := ?_) (n := ?_) K rfl _ _ rfl rfl ?_ ?_ ?_ ?_;rotate_left 2;(repeat (exact At.hd));rotate_left;(with_reducible first|exact row26);(exact rfl))|(refine wm_own (cs := ?_) (t := ?_) (v := ?_) K rfl _ _ rfl rfl ?_ ?_ ?_ ?_;rotate_left 2;(repeat (exact At.hd));rotate_left;(exact rfl);(with_reducible first|exact one24)))|((with_reducible refine at_store ?_);(first|(refine wm_store (L' := ?_) (cs := ?_) (t := ?_) (n := ?_) K rfl _ _ _ rfl rfl rfl rfl ?_ ?_ ?_ ?_ ?_ ?_;rotate_left 3;(repeat (exact Put.hd));rotate_left;(with_reducible first|exact row26|exact row56);(exact rfl);(exact rfl);(simp [Ones, Value.oneCell']))|(refine wm_put (L' := ?_) (cs := ?_) (new := ?_) (t := ?_) K rfl _ _ _ rfl rfl rfl rfl ?_ ?_ ?_ ?_ rfl rfl ?_;rotate_left 4;(repeat (exact Put.hd));(exact Nat.le_of_ble_eq_true rfl);((simp only [List.setIfInBounds_toArray];exact rfl));(with_reducible first|exact one2)));(try clear K);(try clear ww);intro ww K;(try simp [go_sem] at K))|((first|((with_reducible refine at_alloc ?_);refine wm_alloc (v := ?_) (cs := ?_) K rfl _ rfl ?_ ?_ ?_;rotate_left;(with_reducible first|exact zero26|exact zero56);rotate_left;exact rfl));(try clear K);(try clear ww);(first|((fail_if_success (have _h := b1));intro b1 ww K)|((fail_if_success (have _h := b2));intro b2 ww K)|((fail_if_success (have _h := b4));intro b4 ww K));(try simp [go_sem, Value.cells] at K))|((with_reducible refine at_bsl4 ?_);refine wm_ints4 K rfl _ _ _ rfl Try.underlying22 [9] num72 rfl rfl (by decide) ?_;(try clear K);(try clear ww);intro bi1 ww K)|(go_at_call 13;(with_reducible refine (MK.out _ _ (by first|exact K.fact.1)).mono ?_);rintro e w2 ⟨A1, x1, rfl, ⟨h2, hA⟩, hbel⟩;obtain ⟨ba1, oa1, rfl, -, -⟩ := h2.get (show 0 < 64 by decide);(try dsimp only);replace K := K.madeRd hbel h2 hA;clear hbel h2 hA;(try clear ww);revert w2;intro ww K)|(go_at_call 35;(with_reducible refine (C1.out _ _ _ (by first|exact K.fact.1)).mono ?_);rintro e w2 ⟨rfl, k1⟩;replace K := K.step k1;clear k1;(try clear ww);revert w2;intro ww K)|((with_reducible refine at_makeSl ?_);refine wm_make K rfl _ _ _ rfl Try.underlying24 num2 64 rfl rfl (by omega) (by omega) (by omega) (by omega) ?_;(try clear K);(try clear ww);intro bp ww K))
  replace K := (K.perm (List.Perm.swap _ _ _)).freeze19 (l := ints .i64 one19) (n := 64) (by kernel_rfl) (by kernel_rfl)
  go_wp2_with (first|go_big_skip|((with_reducible refine at_load ?_);first|(refine wm_load (cs := ?_) (t := ?_) (n := ?_) K rfl _ _ rfl rfl ?_ ?_ ?_ ?_;rotate_left 2;(repeat (first|exact At.hd|refine At.tl ?_));rotate_left;(with_reducible first|exact row26|exact row56);(exact rfl))|(refine wm_own (cs := ?_) (t := ?_) (v := ?_) K rfl _ _ rfl rfl ?_ ?_ ?_ ?_;rotate_left 2;(repeat (first|exact At.hd|refine At.tl ?_));rotate_left;(exact rfl);(with_reducible first|exact one24)))|((with_reducible refine at_store ?_);(first|(refine wm_store (L' := ?_) (cs := ?_) (t := ?_) (n := ?_) K rfl _ _ _ rfl rfl rfl rfl ?_ ?_ ?_ ?_ ?_ ?_;rotate_left 3;(repeat (exact Put.hd));rotate_left;(with_reducible first|exact row26|exact row56);(exact rfl);(exact rfl);(simp [Ones, Value.oneCell']))|(refine wm_put (L' := ?_) (cs := ?_) (new := ?_) (t := ?_) K rfl _ _ _ rfl rfl rfl rfl ?_ ?_ ?_ ?_ rfl rfl ?_;rotate_left 4;(repeat (exact Put.hd));(exact Nat.le_of_ble_eq_true rfl);((simp only [List.setIfInBounds_toArray];exact rfl));(with_reducible first|exact one3)));(try clear K);(try clear ww);intro ww K;(try simp [go_sem] at K))|((first|((with_reducible refine at_alloc ?_);refine wm_alloc (v := ?_) (cs := ?_) K rfl _ rfl ?_ ?_ ?_;rotate_left;(with_reducible first|exact zero3|exact zero26|exact zero56);rotate_left;exact rfl));(try clear K);(try clear ww);(first|((fail_if_success (have _h := b5));intro b5 ww K)|((fail_if_success (have _h := b6));intro b6 ww K)|((fail_if_success (have _h := b7));intro b7 ww K)|((fail_if_success (have _h := b11));intro b11 ww K)|((fail_if_success (have _h := b15));intro b15 ww K));(try simp [go_sem, Value.cells] at K))|(go_at_call 35;(with_reducible refine (C2.out _ _ _ (by first|exact K.fact.1)).mono ?_);rintro e w2 ⟨rfl, k1⟩;replace K := K.step k1;clear k1;(try clear ww);revert w2;intro ww K)|(go_at_call 38;(with_reducible refine (C3.out _ _ _ (by first|exact K.fact.1)).mono ?_);rintro e w2 ⟨rfl, k1⟩;replace K := K.step k1;clear k1;(try clear ww);revert w2;intro ww K)|(go_at_call 40;(with_reducible refine (DC.out _ _ _ (by first|exact K.fact.1|exact K.fact.2.1)).mono ?_);rintro e w2 ⟨A3, c3, rfl, ⟨h2, hA⟩, hbel⟩;obtain ⟨ba3, oa3, rfl, hb3, hc3⟩ := h2.get (show 36 < 64 by decide);(try dsimp only);replace K := K.madeRd hbel h2 hA;clear hbel h2 hA hb3 hc3;(try clear ww);revert w2;intro ww K)|(go_at_call 40;(with_reducible refine (DK.out _ _ _).mono ?_);rintro e w2 ⟨rfl, k1⟩;replace K := K.step k1;clear k1;(try clear ww);revert w2;intro ww K))
  have zz := All19 K 8 8 0 0 256 (some ⟨bp, 0, none⟩) 64 64
  (with_reducible refine zz.mono ?_)
  clear zz
  rintro e w2 ⟨bb, rfl, K2⟩
  (try dsimp only)
  replace K := K2.weak (G := fun w => Rd w (some ⟨bp, 0, none⟩) 64 (ints .i64 one19) ∧ Rd w (some ⟨ba3, oa3, none⟩) 64 (ints .i64 (norm14 1073741824 (cut14 8 8 one19 (-3) (-3) 8 64)))) fun w h => ⟨h.2.1, h.1⟩
  clear K2 MK C1 C2 C3 DC DK
  clear ww
  revert w2
  intro ww K
  go_wp2_with (fail)
  refine wm_range19 (fun w => Rd w (some ⟨ba3, oa3, none⟩) 64 (ints .i64 (norm14 1073741824 (cut14 8 8 one19 (-3) (-3) 8 64)))) firm_rd bb b15 _ rfl rfl K.size 8 8 64 64 0 0 256 (some ⟨bp, 0, none⟩) one19 one19_right (one_len _ _) (by decide) (by decide) ⟨one19_cho, by decide +kernel, one19_split⟩ K ?round ?done
  case round =>
    intro l j L F x s V KK hl hj hF K1 hK
    have hD := K.size
    generalize ww.heap.size = D at *
    clear K
    have K := K1.keepsFrom D
    clear K1 CE
    have wj := IntWalk.i64_in ((j : Int) + 1) (by omega)
    simp only [List.zip_toArray, List.zip_cons_cons, List.zip_nil_right, List.size_toArray]
    gi_wp2_with ((refine rin_step (fun c e => by cases e) ?_;go_wp2_with (fail));refine qn_out ?_)
    refine hK _ _ K.fact.1 (fun W2 r o o' hr ho hc e => ?_); replace K := K.begun hD hF hr ho hc e; clear hr ho hc e hK
    gi_wp2_with ((refine rin_step (fun c e => by cases e) ?_;go_wp2_with (first|((with_reducible refine at_load ?_);first|(refine wm_own (cs := ?_) (t := ?_) (v := ?_) K rfl _ _ rfl rfl ?_ ?_ ?_ ?_;rotate_left 2;(repeat (exact At.hd));rotate_left;(exact rfl);(with_reducible first|exact one3)))|((with_reducible refine at_store ?_);(first|(refine wm_put (L' := ?_) (cs := ?_) (new := ?_) (t := ?_) K rfl _ _ _ rfl rfl rfl rfl ?_ ?_ ?_ ?_ rfl rfl ?_;rotate_left 4;(repeat (exact Put.hd));(exact Nat.le_of_ble_eq_true rfl);((simp only [List.setIfInBounds_toArray];exact rfl));(with_reducible first|exact one3)));(try clear K);(try clear ww);intro ww K;(try simp [go_sem] at K))));refine qn_out ?_)
    refine ⟨K.fact.1, ?_⟩
    show St _ _ ((b15, #[.int .i64 ((j + 1 : Nat) : Int)], _) :: L) F ww
    rw [show ((j + 1 : Nat) : Int) = (j : Int) + 1 by omega]
    exact K.weak fun _ h => h.2
  case done =>
    intro D k cs W hD k1 k4 K1 hk
    have hB := Nat.le_trans K.size hD
    clear K hD
    have K := K1.mark hk
    have HC : Hid (∀ W : World, Rd W (some ⟨ba3, oa3, none⟩) 64 (ints .i64 (norm14 1073741824 (cut14 8 8 one19 (-3) (-3) 8 64))) → W.cell? ⟨ba3, oa3 + 36, none⟩ = some (Value.int .i64 1073741824)) := Lib.hid fun W h => by
      obtain ⟨_, _, h0, -, hc⟩ := h.get (show 36 < 64 by decide)
      cases h0
      exact hc 36 _ (show _ = some (Value.int .i64 1073741824) by kernel_rfl)
    have k2 : decide (0 < (k : Int)) = true := decide_eq_true (by omega)
    have k3 : decide ((k : Int) ≤ 4) = true := decide_eq_true (by omega)
    have k5 : decide (0 < k) = true := decide_eq_true (by omega)
    have k6 : decide (k ≤ 4) = true := decide_eq_true (by omega)
    clear K1 hk k1 k4
    revert W
    intro ww K
    have hc := HC.out _ K.fact.2
    go_wp2_with (first|((with_reducible refine at_load ?_);first|(refine wm_load (cs := ?_) (t := ?_) (n := ?_) K rfl _ _ rfl rfl ?_ ?_ ?_ ?_;rotate_left 2;(repeat (first|exact At.hd|refine At.tl ?_));rotate_left;(with_reducible first|exact row56);(exact rfl))|(refine wm_own (cs := ?_) (t := ?_) (v := ?_) K rfl _ _ rfl rfl ?_ ?_ ?_ ?_;rotate_left 2;(repeat (first|exact At.hd|refine At.tl ?_));rotate_left;(exact rfl);(with_reducible first|exact one2|exact one3|exact one24))|(refine wm_cell (v := ?_) rfl _ _ rfl rfl ?_ ?_ ?_;rotate_left;(assumption);(with_reducible first|exact one2)))|(go_at_call 35;(with_reducible refine (CE.out _).mono ?_);rintro e w2 ⟨rfl, k1⟩;replace K := K.step k1;clear k1;(try clear ww);revert w2;intro ww K))
    exact retM1 (K.weak fun _ h => h.2) firm_rd rfl hB K.fact.1 (fun w' K' => ⟨_, results_tmp rfl _ _ _, rfl, K'.below⟩)
end Go.Proofs.Ytpejoaefnnbghaa
namespace Go.Proofs.Ytpejoaefnnbghaa
open Go.RowKit
attribute [local irreducible] wpHeld wpTree wpList
set_option linter.unusedVariables false
set_option linter.unusedSimpArgs false
def Out19 (p q n : Nat) (X Y S : Int) (zs : List Int) (k x y a b : Int) : Prop :=
  (∃ cd : Int, cd ≠ 0 ∧ (∀ (A : Option Addr) (c : Nat) (w : World), Rd w A n (ints .i64 zs) → Calls Try.prog 40 #[.agg #[.int .i64 p, .int .i64 q, .int .i64 X, .int .i64 Y, .int .i64 S, .slice A n c], .agg #[.int .i64 k, .int .i64 x, .int .i64 y, .int .i64 a, .int .i64 b]] w fun e w' => e = .returned (.tuple #[.agg #[.int .i64 p, .int .i64 q, .int .i64 X, .int .i64 Y, .int .i64 S, .slice A n c], .int .i64 0, .int .i64 0, .int .i64 cd]) ∧ Below w.heap.size w w')
      ∧ ∀ (A : Option Addr) (c : Nat) (w : World), Rd w A n (ints .i64 zs) → Calls Try.prog 41 #[.agg #[.int .i64 p, .int .i64 q, .int .i64 X, .int .i64 Y, .int .i64 S, .slice A n c], .agg #[.int .i64 k, .int .i64 x, .int .i64 y, .int .i64 a, .int .i64 b]] w fun e w' => e = .returned (.tuple #[.agg #[.int .i64 p, .int .i64 q, .int .i64 X, .int .i64 Y, .int .i64 S, .slice A n c], .int .i64 cd]) ∧ Below w.heap.size w w')
  ∨ ∃ (W2 H2 X2 Y2 S2 : Int) (n2 : Nat) (z2 : List Int), (∀ z ∈ z2, 0 ≤ z ∧ z ≤ 1073741824) ∧ n2 ≤ 5000 ∧
      (∀ (A : Option Addr) (c : Nat) (w : World), Rd w A n (ints .i64 zs) → Calls Try.prog 41 #[.agg #[.int .i64 p, .int .i64 q, .int .i64 X, .int .i64 Y, .int .i64 S, .slice A n c], .agg #[.int .i64 k, .int .i64 x, .int .i64 y, .int .i64 a, .int .i64 b]] w fun e w' => ∃ A3 c3, e = .returned (.tuple #[.agg #[.int .i64 W2, .int .i64 H2, .int .i64 X2, .int .i64 Y2, .int .i64 S2, .slice A3 n2 c3], .int .i64 0]) ∧ (Rd w' A3 n2 (ints .i64 z2) ∧ Nw w.heap.size A3) ∧ Below w.heap.size w w') ∧
      ((isum z2 ≤ 0 ∧ ∀ (A : Option Addr) (c : Nat) (w : World), Rd w A n (ints .i64 zs) → Calls Try.prog 40 #[.agg #[.int .i64 p, .int .i64 q, .int .i64 X, .int .i64 Y, .int .i64 S, .slice A n c], .agg #[.int .i64 k, .int .i64 x, .int .i64 y, .int .i64 a, .int .i64 b]] w fun e w' => e = .returned (.tuple #[.agg #[.int .i64 p, .int .i64 q, .int .i64 X, .int .i64 Y, .int .i64 S, .slice A n c], .int .i64 0, .int .i64 0, .int .i64 7]) ∧ Below w.heap.size w w')
      ∨ 0 < isum z2 ∧ Right14 W2 H2 S2 (norm14 (isum z2) z2) ∧ ∀ (A : Option Addr) (c : Nat) (w : World), Rd w A n (ints .i64 zs) → Calls Try.prog 40 #[.agg #[.int .i64 p, .int .i64 q, .int .i64 X, .int .i64 Y, .int .i64 S, .slice A n c], .agg #[.int .i64 k, .int .i64 x, .int .i64 y, .int .i64 a, .int .i64 b]] w fun e w' => ∃ A3 c3, e = .returned (.tuple #[.agg #[.int .i64 W2, .int .i64 H2, .int .i64 X2, .int .i64 Y2, .int .i64 S2, .slice A3 n2 c3], .int .i64 (isum zs), .int .i64 (isum z2), .int .i64 0]) ∧ (Rd w' A3 n2 (ints .i64 (norm14 (isum z2) z2)) ∧ Nw w.heap.size A3) ∧ Below w.heap.size w w')
theorem out_Split (p q n : Nat) (X Y S : Int) (zs : List Int) (R : Right14 p q S zs) (hl : zs.length = n) (hX : -1000000 ≤ X ∧ X ≤ 1000000) (hY : -1000000 ≤ Y ∧ Y ≤ 1000000) (x y a b : Int) : Out19 p q n X Y S zs 1 x y a b := by
  have G := R.gr rfl rfl
  have hlen := G.len
  rw [hl] at hlen
  have s0 := R.s0
  have s1 := R.s1
  have p1 := G.w0
  have p2 := G.w1
  have q1 := G.h0
  have q2 := G.h1
  have hn5 := G.n2
  rw [hl] at hn5
  cases hs : splok p q S
  · exact .inl ⟨12, by decide, fun A c w h => Do19_Split_bad p q X Y S x y a b 12 A n c zs w h (by decide) (fun w hw => GSplit14_bad p q X Y S A n c w (by omega) (by omega) (by omega) hs), fun A c w h => Raw19_Split_bad p q X Y S x y a b 12 A n c zs w h (fun w hw => RSplit14_bad p q X Y S A n c w (by omega) hs)⟩
  · obtain ⟨h1, h2, h3, h4⟩ := splok_iff.1 hs
    have hwx : wrap64 (X - S / 4) = X - S / 4 := (wrapI (b := X - S / 4) rfl (by omega) (by omega)).1
    have hwy : wrap64 (Y - S / 4) = Y - S / 4 := (wrapI (b := Y - S / 4) rfl (by omega) (by omega)).1
    have hp4 : 4 * n ≤ 5000 := by
      have := Nat.mul_le_mul (show p ≤ 32 by omega) (show q ≤ 32 by omega)
      omega
    have hb2 : ∀ z ∈ split14 p zs (4 * n), 0 ≤ z ∧ z ≤ 1073741824 := gen_mem fun i _ => splitv_bd G.nums i
    have OP := fun (A : Option Addr) (c : Nat) (w : World) (hw : Rd w A n (ints .i64 zs)) => GSplitX14 X Y S _ _ p q A n c (4 * n) zs w hw G.nums (by rw [← hlen]) (by omega) (by omega) hwx hwy (by omega) h4 rfl
    have OR := fun (A : Option Addr) (c : Nat) (w : World) (hw : Rd w A n (ints .i64 zs)) => RSplitX14 X Y S _ _ p q A n c (4 * n) zs w hw G.nums (by rw [← hlen]) (by omega) (by omega) hwx hwy (by omega) h4 rfl
    refine .inr ⟨(2 * p : Nat), (2 * q : Nat), X - S / 4, Y - S / 4, S / 2, 4 * n, split14 p zs (4 * n), hb2, hp4, fun A c w h => Raw19_Split p q X Y S x y a b A n c zs w h _ _ _ _ _ _ _ (OR A c), ?_⟩
    by_cases hz : 0 < isum (split14 p zs (4 * n))
    · refine .inr ⟨hz, norm_right (l := split14 p zs (4 * n)) (by omega) (by omega) (by omega) ?_ (fun z hz => (hb2 z hz).1) hz, fun A c w h => Do19_Split p q X Y S x y a b A n c zs w h G.nums (by omega) _ _ _ _ _ _ _ hb2 (by exact hp4) hz (OP A c)⟩
      rw [split14, gen_len]
      have e : 2 * p * (2 * q) = 4 * (p * q) := by rw [Nat.mul_mul_mul_comm]
      rw [← Int.natCast_mul, e, hlen]
    · exact .inl ⟨by omega, fun A c w h => Do19_Split_none p q X Y S x y a b A n c zs w h G.nums (by omega) _ _ _ _ _ _ _ hb2 (by exact hp4) (by omega) (OP A c)⟩
theorem out_Join (p q n : Nat) (X Y S : Int) (zs : List Int) (R : Right14 p q S zs) (hl : zs.length = n) (hX : -1000000 ≤ X ∧ X ≤ 1000000) (hY : -1000000 ≤ Y ∧ Y ≤ 1000000) (x y a b : Int) : Out19 p q n X Y S zs 2 x y a b := by
  have G := R.gr rfl rfl
  have hlen := G.len
  rw [hl] at hlen
  have s0 := R.s0
  have s1 := R.s1
  have p1 := G.w0
  have p2 := G.w1
  have q1 := G.h0
  have q2 := G.h1
  have hn5 := G.n2
  rw [hl] at hn5
  cases hs : joinok p q S
  · exact .inl ⟨12, by decide, fun A c w h => Do19_Join_bad p q X Y S x y a b 12 A n c zs w h (by decide) (fun w hw => GJoin14_bad p q X Y S A n c w (by omega) (by omega) (by omega) hs), fun A c w h => Raw19_Join_bad p q X Y S x y a b 12 A n c zs w h (fun w hw => RJoin14_bad p q X Y S A n c w (by omega) (by omega) hs)⟩
  · obtain ⟨h1, h2, h3⟩ := joinok_iff.1 hs
    have hwx : wrap64 (X + S / 2) = X + S / 2 := (wrapI (b := X + S / 2) rfl (by omega) (by omega)).1
    have hwy : wrap64 (Y + S / 2) = Y + S / 2 := (wrapI (b := Y + S / 2) rfl (by omega) (by omega)).1
    have hp4 : p / 2 * (q / 2) ≤ 5000 := by
      have := Nat.mul_le_mul (show p / 2 ≤ 32 by omega) (show q / 2 ≤ 32 by omega)
      omega
    have hb2 : ∀ z ∈ join14 p (p / 2) zs (p / 2 * (q / 2)), 0 ≤ z ∧ z ≤ 1073741824 := (join_bd R (q1 := q / 2) (by omega) (by omega) (by omega) rfl).1
    have OP := fun (A : Option Addr) (c : Nat) (w : World) (hw : Rd w A n (ints .i64 zs)) => GJoinX14 X Y S _ _ p q (p / 2) (q / 2) A n c (p / 2 * (q / 2)) zs w hw G.nums (by rw [← hlen]) (by omega) (by omega) (by omega) (by omega) hwx hwy (by omega) rfl
    have OR := fun (A : Option Addr) (c : Nat) (w : World) (hw : Rd w A n (ints .i64 zs)) => RJoinX14 X Y S _ _ p q (p / 2) (q / 2) A n c (p / 2 * (q / 2)) zs w hw G.nums (by rw [← hlen]) (by omega) (by omega) (by omega) (by omega) hwx hwy (by omega) rfl
    refine .inr ⟨(p / 2 : Nat), (q / 2 : Nat), X + S / 2, Y + S / 2, 2 * S, p / 2 * (q / 2), join14 p (p / 2) zs (p / 2 * (q / 2)), hb2, hp4, fun A c w h => Raw19_Join p q X Y S x y a b A n c zs w h _ _ _ _ _ _ _ (OR A c), ?_⟩
    by_cases hz : 0 < isum (join14 p (p / 2) zs (p / 2 * (q / 2)))
    · refine .inr ⟨hz, norm_right (l := join14 p (p / 2) zs (p / 2 * (q / 2))) (by omega) (by omega) (by omega) ?_ (fun z hz => (hb2 z hz).1) hz, fun A c w h => Do19_Join p q X Y S x y a b A n c zs w h G.nums (by omega) _ _ _ _ _ _ _ hb2 (by exact hp4) hz (OP A c)⟩
      rw [join14, gen_len]
      rw [← Int.natCast_mul]
    · exact .inl ⟨by omega, fun A c w h => Do19_Join_none p q X Y S x y a b A n c zs w h G.nums (by omega) _ _ _ _ _ _ _ hb2 (by exact hp4) (by omega) (OP A c)⟩
theorem out_Cut (p q n : Nat) (X Y S : Int) (zs : List Int) (R : Right14 p q S zs) (hl : zs.length = n) (hX : -1000000 ≤ X ∧ X ≤ 1000000) (hY : -1000000 ≤ Y ∧ Y ≤ 1000000) (x y a b : Int) : Out19 p q n X Y S zs 3 x y a b := by
  have G := R.gr rfl rfl
  have hlen := G.len
  rw [hl] at hlen
  have s0 := R.s0
  have s1 := R.s1
  have p1 := G.w0
  have p2 := G.w1
  have q1 := G.h0
  have q2 := G.h1
  have hn5 := G.n2
  rw [hl] at hn5
  cases hs : cutok x y a b
  · exact .inl ⟨2, by decide, fun A c w h => Do19_Cut_bad p q X Y S x y a b 2 A n c zs w h (by decide) (fun w hw => GCut14_bad p q X Y S x y a b A n c w hs), fun A c w h => Raw19_Cut_bad p q X Y S x y a b 2 A n c zs w h (fun w hw => RCut14_bad p q X Y S x y a b A n c w hs)⟩
  · obtain ⟨⟨h1, h2⟩, ⟨h3, h4⟩, ⟨h5, h6⟩, h7, h8⟩ := cutok_iff.1 hs
    obtain ⟨m, hm⟩ : ∃ m : Nat, a * b = m := ⟨(a * b).toNat, by have := Int.mul_nonneg (show 0 ≤ a by omega) (show 0 ≤ b by omega); omega⟩
    have hp4 : m ≤ 5000 := by
      have e1 := Int.mul_le_mul_of_nonneg_right h2 (show 0 ≤ b by omega)
      omega
    have hb2 : ∀ z ∈ cut14 p q zs x y a m, 0 ≤ z ∧ z ≤ 1073741824 := gen_mem fun i _ => cutv_bd G.nums i
    have OP := fun (A : Option Addr) (c : Nat) (w : World) (hw : Rd w A n (ints .i64 zs)) => GCut14 p q X Y S x y a b A n c m zs w hw (by rw [hlen, Int.natCast_mul]) (by omega) (by omega) (by omega) (by omega) hs hm
    have OR := fun (A : Option Addr) (c : Nat) (w : World) (hw : Rd w A n (ints .i64 zs)) => RCut14 p q X Y S x y a b A n c m zs w hw (by rw [hlen, Int.natCast_mul]) (by omega) (by omega) (by omega) (by omega) hs hm
    refine .inr ⟨a, b, X + x * S, Y + y * S, S, m, cut14 p q zs x y a m, hb2, hp4, fun A c w h => Raw19_Cut p q X Y S x y a b A n c zs w h _ _ _ _ _ _ _ (OR A c), ?_⟩
    by_cases hz : 0 < isum (cut14 p q zs x y a m)
    · exact .inr ⟨hz, norm_right (l := cut14 p q zs x y a m) (by omega) (by omega) (by omega) (by rw [cut14, gen_len]; exact hm.symm) (fun z hz => (hb2 z hz).1) hz, fun A c w h => Do19_Cut p q X Y S x y a b A n c zs w h G.nums (by omega) _ _ _ _ _ _ _ hb2 (by exact hp4) hz (OP A c)⟩
    · exact .inl ⟨by omega, fun A c w h => Do19_Cut_none p q X Y S x y a b A n c zs w h G.nums (by omega) _ _ _ _ _ _ _ hb2 (by exact hp4) (by omega) (OP A c)⟩
theorem out19 (p q n : Nat) (X Y S : Int) (zs : List Int) (R : Right14 p q S zs) (hl : zs.length = n) (hX : -1000000 ≤ X ∧ X ≤ 1000000) (hY : -1000000 ≤ Y ∧ Y ≤ 1000000) (k x y a b : Int) (hk : k ≠ 0) : Out19 p q n X Y S zs k x y a b := by
  by_cases h1 : k = 1
  · subst h1; exact out_Split p q n X Y S zs R hl hX hY x y a b
  by_cases h2 : k = 2
  · subst h2; exact out_Join p q n X Y S zs R hl hX hY x y a b
  by_cases h3 : k = 3
  · subst h3; exact out_Cut p q n X Y S zs R hl hX hY x y a b
  exact .inl ⟨13, by decide, fun A c w h => Do19_kind k p q X Y S x y a b A n c w hk h1 h2 h3, fun A c w h => Raw19_kind k p q X Y S x y a b A n c w hk h1 h2 h3⟩
end Go.Proofs.Ytpejoaefnnbghaa
