/-
  Lemmas and walks of this claim (the texts Sm16 Lit16 Az16 Fn17 Zt17 Ce17 Fb17 of the work; what no proof here uses is left out). No claim of their own.
-/
import Derived.Test.YteancdipmpmjpaaMD12
import Derived.Test.YteancdipmpmjpaaMD24
import Derived.Test.YteancdipmpmjpaaMD14
import Derived.RegionTactic
import Derived.ChangeAlike
import Derived.Test.YteancdipmpmjpaaMD8
import Derived.Deep.Cut
import Derived.Test.YteancdipmpmjpaaMD5
set_option linter.all false
set_option linter.unusedSimpArgs false
set_option linter.unusedVariables false
namespace Go.Proofs.Yteancdipmpmjpaa
open Go.RowKit
set_option maxRecDepth 100000
set_option linter.unusedVariables false

theorem wm_far1 {P : Program} {w : World} {ops : Array Oper} {rest : List Oper} {o : Oper} {a : Act} {Q : Exit → Act → World → Prop} (hgd : Region.wanted o (yielded ops a.tmps) = true) (ty : TypeId) (x : Operand) (ho : o.op = .load ty x) {g off : Nat} (hx : a.eval x = .pointer (some ⟨g, off, none⟩)) {v : Value} (hv : w.cell? ⟨g, off, none⟩ = some v) (hu : RowTy P ty 1)
    (h : wpList P ops Q rest (a.put o.dst (.agg #[v])) w) : wpList P ops Q (o :: rest) a w := by
  obtain ⟨d, h1, h2, h3⟩ := hu
  refine wl_wanted hgd fun K' hK => ?_
  have := run_loadVar_mid (P := P) w g off ty [v] d (fun j u hu => by
    rcases j with _ | j
    · simp at hu; subst hu; exact hv
    · simp at hu) h1 (by cases d <;> simp_all) h3
  unfold Oper.wp execOp
  simp only [ho, hx, Instr.loadAt, Instr.sureAddr, Sem.run_bind, Sem.run_pure, Result.andThen_ok, this]
  exact hK _ _ h

def Nts (w : World) (A : Option Addr) (xs : List Nat) : Prop := ∀ i, i < xs.length → ∃ b off a k c, A = some ⟨b, off, none⟩ ∧ b < w.heap.size ∧ w.cell? ⟨b, off + i, none⟩ = some (.slice a k c) ∧ Nt w a k c (xs.getD i 0) ∧ k ≤ 1000
theorem sum_take (xs : List Nat) (k : Nat) (h : k < xs.length) : (xs.take (k + 1)).sum = (xs.take k).sum + xs.getD k 0 := by
  rw [List.take_succ_eq_append_getElem h, List.sum_append, List.getD, List.getElem?_eq_getElem h]; simp
theorem sum_take_le (xs : List Nat) (k : Nat) : (xs.take k).sum ≤ xs.sum := by
  conv => rhs; rw [← List.take_append_drop k xs, List.sum_append]
  omega

set_option maxHeartbeats 2000000 in
theorem Sum_nat (A : Option Addr) (n c : Nat) (xs : List Nat) (w : World) (h : Nts w A xs) (hn : xs.length = n) (hb : n ≤ 1000000) (hS : xs.sum < 4294967296 ^ 1000) :
    Calls Try.prog 96 #[.slice A n c] w fun e w' => ∃ A' k, e = .returned (.agg #[.slice A' k k]) ∧ Nt w' A' k k xs.sum ∧ Nw w.heap.size A' ∧ Below w.heap.size w w' := by
  have K := St.start w
  have H := Lib.hid h
  have HN := Lib.hid hn
  have HS := Lib.hid hS
  clear h hn hS
  go_enter Try.func96, Try.ntmps96
  go_wp2_with (first|((with_reducible refine at_store ?_);first|(refine wm_store (L' := ?_) (cs := ?_) (t := ?_) (n := ?_) K rfl _ _ _ rfl rfl rfl rfl ?_ ?_ ?_ ?_ ?_ ?_;rotate_left 3;(repeat (exact Put.hd));rotate_left;(with_reducible first|exact row108);(exact rfl);(exact rfl);(simp [Ones, Value.oneCell']);(try clear K);(try clear ww);intro ww K;(try simp [go_sem] at K)))|((first|((with_reducible refine at_alloc ?_);refine wm_alloc (v := ?_) (cs := ?_) K rfl _ rfl ?_ ?_ ?_;rotate_left;(with_reducible first|exact zero108);rotate_left;exact rfl));(try clear K);(try clear ww);(first|((fail_if_success (have _h := b2));intro b2 ww K)|((fail_if_success (have _h := b3));intro b3 ww K));(try simp [go_sem, Value.cells] at K)))
  (try simp only [Act.put, List.setIfInBounds_toArray, List.set_cons_zero, List.set_cons_succ])
  go_loopw [9] (fun i wr => ∃ (k l : Nat) (T : Option Addr), k ≤ n ∧ i = .int .i64 k ∧ St w.heap.size w [(b3, #[.slice T l l], 108), (b2, #[.slice none 0 0], 108)] (fun W => Nt W T l l (xs.take k).sum ∧ Nw w.heap.size T) wr) (fun i _ => n - (intOf i).toNat)
  case atStart => exact ⟨0, 0, none, Nat.zero_le _, rfl, K.weak fun _ _ => ⟨by simpa using Nt.zero _ _ _ (by omega), fun b off p e => by cases e⟩⟩
  case round =>
    clear K
    obtain ⟨k, l, T, hk, rfl, K⟩ := hrel
    by_cases hlt : k < n
    · obtain ⟨b, off, a, ka, ca, rfl, hbb, hv, hNt, hka⟩ := H.out k (by rw [HN.out]; exact hlt)
      have ht : decide (k < n) = true := decide_eq_true hlt
      have HA := Lib.hid hNt
      have hst := Lib.hid (sum_take xs k (by rw [HN.out]; exact hlt))
      have hl : l ≤ 1000000 := Nat.le_trans (len_le (k := 1000) _ (Nat.lt_of_le_of_lt (sum_take_le xs k) HS.out) K.fact.1.len) (by omega)
      clear hNt
      generalize xs.getD k 0 = x at *
      go_wp2_with (first|((with_reducible refine at_load ?_);refine wm_far1 (v := ?_) rfl _ _ rfl rfl ?_ ?_ ?_;rotate_left;exact (K.below.cell (by assumption)).trans (by assumption);(with_reducible first|exact row108))|((with_reducible refine at_load ?_);first|(refine wm_load (cs := ?_) (t := ?_) (n := ?_) K rfl _ _ rfl rfl ?_ ?_ ?_ ?_;rotate_left 2;(repeat (first|exact At.hd|refine At.tl ?_));rotate_left;(with_reducible first|exact row108);(exact rfl)))|((with_reducible refine at_store ?_);first|(refine wm_store (L' := ?_) (cs := ?_) (t := ?_) (n := ?_) K rfl _ _ _ rfl rfl rfl rfl ?_ ?_ ?_ ?_ ?_ ?_;rotate_left 3;(repeat (first|exact Put.hd|(refine Put.tl (L' := ?_) ?_;rotate_left)));rotate_left;(with_reducible first|exact row108);(exact rfl);(exact rfl);(simp [Ones, Value.oneCell']);(try clear K);(try clear ww);intro ww K;(try simp [go_sem] at K)))|((first|((with_reducible refine at_alloc ?_);refine wm_alloc (v := ?_) (cs := ?_) K rfl _ rfl ?_ ?_ ?_;rotate_left;(with_reducible first|exact zero108);rotate_left;exact rfl));(try clear K);(try clear ww);((fail_if_success (have _h := b5));intro b5 ww K);(try simp [go_sem, Value.cells] at K))|(go_at_call 75;(with_reducible refine (K.add2 K.fact.1 (HA.out.below K.below) hl (by omega)).mono ?_);rintro e w2 ⟨_, _, rfl, K2⟩;(try dsimp only);replace K := K2;clear K2;(try clear ww);revert w2;intro ww K))
      rw [← hst.out] at K
      exact ⟨⟨k + 1, _, _, by omega, by go_num, (K.sub (List.Sublist.cons _ (List.Sublist.refl _))).weak fun _ h => h.1⟩, by simp [intOf]; omega⟩
    · obtain rfl : n = k := by omega
      rw [List.take_of_length_le (by rw [HN.out]; omega)] at K
      go_wp2_with (first|((with_reducible refine at_load ?_);first|(refine wm_load (cs := ?_) (t := ?_) (n := ?_) K rfl _ _ rfl rfl ?_ ?_ ?_ ?_;rotate_left 2;(repeat (exact At.hd));rotate_left;(with_reducible first|exact row108);(exact rfl)))|((with_reducible refine at_store ?_);first|(refine wm_store (L' := ?_) (cs := ?_) (t := ?_) (n := ?_) K rfl _ _ _ rfl rfl rfl rfl ?_ ?_ ?_ ?_ ?_ ?_;rotate_left 3;(repeat (first|exact Put.hd|(refine Put.tl (L' := ?_) ?_;rotate_left)));rotate_left;(with_reducible first|exact row108);(exact rfl);(exact rfl);(simp [Ones, Value.oneCell']);(try clear K);(try clear ww);intro ww K;(try simp [go_sem] at K))))
      refine bodyPost_ret (K.res (cs := ?_) (t := ?_) (n := ?_) rfl _ rfl ?_ ?_ ?_) rfl ?_;rotate_left 2;(repeat (first|exact At.hd|refine At.tl ?_));rotate_left;(with_reducible first|exact row108);(exact rfl)
      exact ⟨_, _, rfl, K.fact.1, K.fact.2, K.below⟩
end Go.Proofs.Yteancdipmpmjpaa
namespace Go.Proofs.Yteancdipmpmjpaa
open Go.RowKit
set_option maxRecDepth 100000
set_option linter.unusedVariables false
set_option exponentiation.threshold 2000
def Cell1 (v v1 : Value) : Prop := v.cells = #[v1]
theorem Cell1.agg {A : Option Addr} {n c : Nat} : Cell1 (.agg #[.slice A n c]) (.slice A n c) := by simp [Cell1, Value.cells]
section
variable {P : Program} {B : Nat} {w0 w w' : World} {L L' L0 : List Blk} {F : World → Prop} {ops : Array Oper} {rest : List Oper} {o : Oper} {a : Act} {Q : Exit → Act → World → Prop}
end
end Go.Proofs.Yteancdipmpmjpaa
namespace Go.Proofs.Yteancdipmpmjpaa
open Go.RowKit
set_option linter.unusedVariables false

section
variable {P : Program} {B : Nat} {w0 w w' : World} {L L' L0 : List Blk} {F : World → Prop} {ops : Array Oper} {rest : List Oper} {o : Oper} {a : Act} {Q : Exit → Act → World → Prop}
theorem wm_oneZ (K : St B w0 L F w) (hgd : Region.wanted o (yielded ops a.tmps) = true) (t : TypeId) (x : Operand) (ho : o.op = .buildSlice t 1 #[(0, x)]) {e : TypeId} (hu : P.underlying t = some (.slice e)) {z z1 v v1 : Value} {bs : Nat}
    (hi : (P.info? e).map (fun i => (i.zero, i.size, i.bytes)) = some (some z, 1, bs)) (hz1 : Cell1 z z1) (hx : a.eval x = v) (hv : Cell1 v v1)
    (h : ∀ (b : Nat) (w' : World), St B w0 ((b, #[v1], e) :: L) F w' → wpList P ops Q rest (a.put o.dst (.slice (some ⟨b, 0, none⟩) 1 1)) w') : wpList P ops Q (o :: rest) a w :=
  wl_wanted hgd fun K' hK => by
    obtain ⟨i, hi1, hz, hs1, _⟩ := info_parts hi
    have hr := run_buildSlice (P := P) w t e 1 #[(0, v)] #[v1] i z hu hi1 hz (by rw [hs1]; omega) (by rw [hs1]; omega) (by rw [hs1]; simp [Instr.fill, show v.cells = #[v1] from hv, show z.cells = #[z1] from hz1]; apply Array.ext'; simp [Array.toList_setIfInBounds, List.range_succ])
    unfold Oper.wp execOp
    simp [ho, hx, hr, Sem.run_bind, Sem.run_pure, Result.andThen_ok, Oper.upon]
    exact hK _ _ (h _ _ (K.alloc _ e))
theorem wm_appZ {b : Nat} {x : Value} {e : TypeId} (K : St B w0 ((b, #[x], e) :: L) F w) (hg : o.guard = none) (s y : Operand) (t : TypeId) (ho : o.op = .call { callee := .builtin .append, args := #[s, y], argTypes := #[t, t] })
    (hu : P.underlying t = some (.slice e)) {z z1 : Value} {bs : Nat} (hi : (P.info? e).map (fun i => (i.zero, i.size, i.bytes)) = some (some z, 1, bs)) (hz1 : Cell1 z z1)
    {v : Value} (hs : a.eval s = v) {xs : List Value} (hown : Own v e xs L0 L) (hy : a.eval y = .slice (some ⟨b, 0, none⟩) 1 1) (hx : x.oneCell' = true) (hb1 : (xs.length + 1) * bs ≤ 140737488355328) (hb2 : xs.length + 1 ≤ maxLen)
    (h : ∀ (v' : Value) (w' : World) (L' : List Blk), Own v' e (xs ++ [x]) L0 L' → St B w0 L' F w' → wpList P ops Q rest (a.put o.dst v') w') : wpList P ops Q (o :: rest) a w := by
  obtain ⟨i, hi1, hz, hsz, hby⟩ := info_parts hi
  have hcell : ∀ (j : Nat) (u : Value), [x][j]? = some u → w.cell? ((⟨b, 0, none⟩ : Addr).add j) = some u := fun j u hj => by
    rcases j with _ | j
    · rw [Addr.add_mid]; exact (K.get .hd).cell (by simpa using hj)
    · simp at hj
  have h1 : ∀ u ∈ [x], u.oneCell' = true := fun u hu => by rw [List.mem_singleton.1 hu]; exact hx
  rcases hown with ⟨rfl, rfl, rfl⟩ | ⟨g, cap, cur, rfl, hc1, hc2, hcs, hct, rfl⟩
  · refine wpList_append_grows w hg s y t ho e i z 1 bs hu hi1 hz hsz hby (by rw [show z.cells = #[z1] from hz1]; rfl) (by decide) none 0 0 [] hs (fun _ => ⟨rfl, rfl⟩) rfl (fun _ h => by cases h) ⟨b, 0, none⟩ 1 1 [x] hy rfl hcell h1 (by omega) hb2 hb1 ?_
    intro v' w' ho hgr
    obtain ⟨g, cap, cur, rfl, hc1, hc2, hcs, hct, K'⟩ := K.tail.row (grown_below hgr) ho (by omega)
    exact h _ w' _ (.inr ⟨g, cap, cur, by simp, by simpa using hc1, hc2, hcs, by simpa using hct, rfl⟩) K'
  · rcases Nat.lt_or_ge cap (xs.length + 1) with hlt | hge
    · refine wpList_append_grows w hg s y t ho e i z 1 bs hu hi1 hz hsz hby (by rw [show z.cells = #[z1] from hz1]; rfl) (by decide) (some ⟨g, 0, none⟩) xs.length cap xs hs (fun h => by cases h) (by simp) (fun ad had j u hj => ?_) ⟨b, 0, none⟩ 1 1 [x] hy rfl hcell h1 (by omega) hb2 hb1 ?_
      · injection had with had
        subst had
        rw [Addr.add_mid]
        refine (K.get (.tl .hd)).cell ?_
        rw [← hct, List.getElem?_take] at hj
        split at hj
        · simpa using hj
        · cases hj
      · intro v' w' ho hgr
        obtain ⟨g', cap', cur', rfl, hc1', hc2', hcs', hct', K'⟩ := K.tail.tail.row (grown_below hgr) ho (by omega)
        exact h _ w' _ (.inr ⟨g', cap', cur', by simp, by simpa using hc1', hc2', hcs', by simpa using hct', rfl⟩) K'
    · have hown : w.ownsRow 0 e 1 (.slice (some ⟨g, 0, none⟩) xs.length cap) xs.length xs := ⟨by simp, .inr ⟨g, cap, cur, rfl, Nat.zero_le _, K.get (.tl .hd), hc1, hc2, by simpa using hcs, by simpa using hct⟩⟩
      refine wpList_append_fits w hg s y t ho 0 e i 1 hu hi1 hsz g xs.length cap xs hs hown ⟨b, 0, none⟩ 1 1 [x] hy rfl hcell h1 hge ?_
      intro w' ho hgr
      have Kt := K.tail
      rcases ho.2 with ⟨hn, _⟩ | ⟨g', cap', cur', hv, _, hh, h1', h2', h3', h4'⟩
      · cases hn
      · injection hv with hv1 hv2 hv3
        injection hv1 with hv1
        injection hv1 with hv1
        subst hv1 hv3
        have K' := Kt.grown hgr hh
        exact h _ w' _ (.inr ⟨g, cap, cur', by simp, by simpa using h1', h2', by simpa using h3', by simpa using h4', rfl⟩) K'
end
def AllN (w : World) (cs : List Value) (xs : List Nat) : Prop := cs.length = xs.length ∧ ∀ i, i < xs.length → ∃ A k c, cs[i]? = some (.slice A k c) ∧ Nt w A k c (xs.getD i 0) ∧ k ≤ 1000
theorem AllN.nil (w : World) : AllN w [] [] := ⟨rfl, fun i h => absurd h (by simp)⟩
theorem AllN.snoc {w : World} {cs : List Value} {xs : List Nat} {A : Option Addr} {k c x : Nat} (h : AllN w cs xs) (hx : Nt w A k c x) (hk : k ≤ 1000) : AllN w (cs ++ [.slice A k c]) (xs ++ [x]) := by
  refine ⟨by simp [h.1], fun i hi => ?_⟩
  simp only [List.length_append, List.length_singleton] at hi
  by_cases hlt : i < xs.length
  · obtain ⟨A', k', c', h1, h2, h3⟩ := h.2 i hlt
    refine ⟨A', k', c', by rw [List.getElem?_append_left (by rw [h.1]; exact hlt)]; exact h1, ?_, h3⟩
    rw [List.getD, List.getElem?_append_left hlt]; exact h2
  · obtain rfl : i = xs.length := by omega
    refine ⟨A, k, c, by rw [List.getElem?_append_right (by rw [h.1]; exact Nat.le_refl _), h.1]; simp, ?_, hk⟩
    rw [List.getD, List.getElem?_append_right (Nat.le_refl _)]; simpa using hx
end Go.Proofs.Yteancdipmpmjpaa
namespace Go.Proofs.Yteancdipmpmjpaa
open Go.RowKit
set_option linter.unusedVariables false
section
variable {B : Nat} {w0 w w' : World} {L : List Blk} {F : World → Prop} {A : Option Addr} {n : Nat}
theorem Sl.staysT {e : TypeId} {xs : List Value} (K : St B w0 L F w) (hL : ∀ p ∈ L, e ≠ p.2.2) (h : Sl w e A n xs) (w' : World) (hk : ∀ b, b < w.heap.size → b ∉ L.map (·.1) → w'.heap[b]? = w.heap[b]?) : Sl w' e A n xs :=
  h.keepIf fun b arr hb => hk b (Array.getElem?_eq_some_iff.1 hb).1 fun hm => by
    obtain ⟨p, hp, rfl⟩ := List.mem_map.1 hm
    exact types_ne hb (K.has p hp).2 (hL p hp) rfl
theorem AllN.mono {cs : List Value} {xs : List Nat} (h : AllN w cs xs) (hk : ∀ A k c X, Nt w A k c X → Nt w' A k c X) : AllN w' cs xs :=
  ⟨h.1, fun i hi => by
    obtain ⟨A, k, c, h1, h2, h3⟩ := h.2 i hi
    exact ⟨A, k, c, h1, hk _ _ _ _ h2, h3⟩⟩
theorem Nt.staysT {k c X : Nat} (K : St B w0 L F w) (hL : ∀ p ∈ L, 24 ≠ p.2.2) (h : Nt w A k c X) (w' : World) (hk : ∀ b, b < w.heap.size → b ∉ L.map (·.1) → w'.heap[b]? = w.heap[b]?) : Nt w' A k c X := ⟨h.1.staysT K hL w' hk, h.2⟩
def Fn (w : World) (A : Option Addr) (n : Nat) (xs : List Nat) : Prop := ∃ cs, Rd w A n cs ∧ AllN w cs xs
theorem Fn.len {xs : List Nat} (h : Fn w A n xs) : xs.length = n := by obtain ⟨cs, h1, h2⟩ := h; rw [← h2.1]; exact h1.1
theorem Fn.below {xs : List Nat} (h : Fn w A n xs) (hb : Below w.heap.size w w') : Fn w' A n xs := by
  obtain ⟨cs, h1, h2⟩ := h
  exact ⟨cs, h1.below hb, h2.mono fun _ _ _ _ h => h.below hb⟩
theorem Fn.get {xs : List Nat} (h : Fn w A n xs) {i : Nat} (hi : i < n) : ∃ b off a k c, A = some ⟨b, off, none⟩ ∧ b < w.heap.size ∧ w.cell? ⟨b, off + i, none⟩ = some (.slice a k c) ∧ Nt w a k c (xs.getD i 0) ∧ k ≤ 1000 := by
  have hl := h.len
  obtain ⟨cs, h1, h2⟩ := h
  obtain ⟨b, off, rfl, hb, hc⟩ := h1.get hi
  obtain ⟨a, k, c, e1, e2, e3⟩ := h2.2 i (by omega)
  exact ⟨b, off, a, k, c, rfl, hb, hc i _ e1, e2, e3⟩
theorem Fn.nts {xs : List Nat} (h : Fn w A n xs) : Nts w A xs := fun i hi => by
  obtain ⟨b, off, a, k, c, e1, e2, e3, e4, e5⟩ := h.get (i := i) (by rw [← h.len]; exact hi)
  exact ⟨b, off, a, k, c, e1, e2, e3, e4, e5⟩
theorem St.madeFn {xs : List Nat} (K : St B w0 L F w) (hL : ∀ p ∈ L, 24 ≠ p.2.2) (hb : Below w.heap.size w w') (h : Fn w' A n xs) (hA : Nw w.heap.size A) : St B w0 L (fun w => Fn w A n xs ∧ F w) w' := by
  have K' := K.step hb
  obtain ⟨cs, h1, h2⟩ := h
  have KR := K.madeRd hb h1 hA
  exact ((KR.add (G := fun w => AllN w cs xs) fun w'' _ hk => h2.mono fun _ _ _ _ h => h.staysT KR hL w'' hk).weak fun w h => ⟨⟨cs, h.2.1, h.1⟩, h.2.2⟩)
theorem St.addNtT {k c X : Nat} (K : St B w0 L F w) (hL : ∀ p ∈ L, 24 ≠ p.2.2) (h : Nt w A k c X) : St B w0 L (fun w => Nt w A k c X ∧ F w) w := K.add fun w'' _ hk => h.staysT K hL w'' hk
end
end Go.Proofs.Yteancdipmpmjpaa
namespace Go.Proofs.Yteancdipmpmjpaa
open Go.RowKit
set_option linter.unusedVariables false
theorem infoNat : (Try.prog.info? 108).map (fun i => (i.zero, i.size, i.bytes)) = some (some (.agg #[.slice none 0 0]), 1, 24) := by kernel_rfl
section
variable {P : Program} {B : Nat} {w0 w w' : World} {L L' L0 Lo : List Blk} {F : World → Prop} {ops : Array Oper} {rest : List Oper} {o : Oper} {a : Act} {Q : Exit → Act → World → Prop}
theorem wm_appZT {b : Nat} {x : Value} {e : TypeId} (K : St B w0 ((b, #[x], e) :: L) F w) (ht : Tl L Lo L0) (hg : o.guard = none) (s y : Operand) (t : TypeId) (ho : o.op = .call { callee := .builtin .append, args := #[s, y], argTypes := #[t, t] })
    (hu : P.underlying t = some (.slice e)) {z z1 : Value} {bs : Nat} (hi : (P.info? e).map (fun i => (i.zero, i.size, i.bytes)) = some (some z, 1, bs)) (hz1 : Cell1 z z1)
    {v : Value} (hs : a.eval s = v) {xs : List Value} (hown : OwnT v e xs Lo) (hy : a.eval y = .slice (some ⟨b, 0, none⟩) 1 1) (hx : x.oneCell' = true) (hb1 : (xs.length + 1) * bs ≤ 140737488355328) (hb2 : xs.length + 1 ≤ maxLen)
    (h : ∀ (v' : Value) (w' : World) (Lo' : List Blk), OwnT v' e (xs ++ [x]) Lo' → St B w0 (L0 ++ Lo') F w' → wpList P ops Q rest (a.put o.dst v') w') : wpList P ops Q (o :: rest) a w := by
  have hL := ht.eq
  subst hL
  have K1 : St B w0 ((b, #[x], e) :: (Lo ++ L0)) F w := K.perm (List.Perm.cons _ List.perm_append_comm)
  have hO : Own v e xs L0 (Lo ++ L0) := by
    rcases hown with ⟨h1, h2, h3⟩ | ⟨g, cap, cur, h1, h2, h3, h4, h5, h6⟩
    · exact .inl ⟨h1, h2, by rw [h3]; rfl⟩
    · exact .inr ⟨g, cap, cur, h1, h2, h3, h4, h5, by rw [h6]; rfl⟩
  refine wm_appZ K1 hg s y t ho hu hi hz1 hs hO hy hx hb1 hb2 ?_
  intro v' w' L' hO' K'
  rcases hO' with ⟨h1, h2, h3⟩ | ⟨g, cap, cur, h1, h2, h3, h4, h5, h6⟩
  · exact h v' w' [] (.inl ⟨h1, h2, rfl⟩) (by rw [List.append_nil, ← h3]; exact K')
  · exact h v' w' [(g, cur, e)] (.inr ⟨g, cap, cur, h1, h2, h3, h4, h5, rfl⟩) (K'.perm (by rw [h6]; exact (List.perm_append_comm (l₁ := [(g, cur, e)]) (l₂ := L0))))
end
section
variable {B : Nat} {w0 w : World} {L : List Blk} {F : World → Prop}
theorem St.ofT (x : Nat) {z : Int} (K : St B w0 L F w) (hz : z = (x : Int)) (hx : x ≤ 18446744073709551615) :
    Calls Try.prog 65 #[.int .u64 z] w fun e w' => ∃ A k, e = .returned (.agg #[.slice A k k]) ∧ St B w0 L (fun w => (Nt w A k k x ∧ k ≤ 1000) ∧ F w) w' := by
  subst hz
  refine (Of_nat x w hx).mono ?_
  rintro e w' ⟨A, k, rfl, h, hA, hb⟩
  refine ⟨A, k, rfl, (K.madeNt hb h hA).weak fun w h => ⟨⟨h.1.1, ?_⟩, h.2⟩⟩
  exact Nat.le_trans (len_le (k := 2) _ (by omega) h.1.1.len) (by omega)
end
end Go.Proofs.Yteancdipmpmjpaa
namespace Go.Proofs.Yteancdipmpmjpaa
open Go.RowKit
set_option linter.unusedVariables false
section
variable {P : Program} {B : Nat} {w0 w w' : World} {L L' L0 Ls : List Blk} {F : World → Prop} {ops : Array Oper} {rest : List Oper} {o : Oper} {a : Act} {Q : Exit → Act → World → Prop}
theorem cells_made (z1 : Value) (n : Nat) : madeCells #[z1] (n * 1) = (List.replicate n z1).toArray := by
  apply Array.ext'
  rw [toList_madeCells_one]
  simp
theorem wm_makeZ (K : St B w0 L F w) (hgd : Region.wanted o (yielded ops a.tmps) = true) (l c : Operand) (t : TypeId) (ho : o.op = .makeSlice t l c) {e : TypeId} (ht : P.underlying t = some (.slice e)) {z z1 : Value} {bs : Nat}
    (hi : (P.info? e).map (fun i => (i.zero, i.size, i.bytes)) = some (some z, 1, bs)) (hz1 : Cell1 z z1) (n : Nat) {kl kc : IntKind} {N C : Int} (hl : a.eval l = .int kl N) (hc : a.eval c = .int kc C) (hL : N = (n : Int)) (hC : C = (n : Int)) (hb : bs * n ≤ 281474976710656) (hn : n ≤ 4611686018427387904)
    (h : ∀ (b : Nat) (w' : World), St B w0 ((b, (List.replicate n z1).toArray, e) :: L) F w' → wpList P ops Q rest (a.put o.dst (.slice (some ⟨b, 0, none⟩) n n)) w') : wpList P ops Q (o :: rest) a w :=
  wl_wanted hgd fun K' hK => by
    obtain ⟨i, hi1, hz, hs, hbs⟩ := info_parts hi
    subst hL hC
    have hb' : (i.bytes : Int) * (n : Int) ≤ 281474976710656 := by
      rw [hbs, ← Int.natCast_mul]; omega
    have hr := run_make (P := P) w t e i z ht hi1 hz kl kc n n (by omega) (Int.le_refl _) hb' (by omega)
    simp only [Int.toNat_natCast, hs] at hr
    rw [show z.cells = #[z1] from hz1, cells_made] at hr
    unfold Oper.wp
    simp [execOp, ho, hl, hc, hr, Result.andThen]
    exact hK _ _ (h _ _ (K.alloc _ e))
theorem wm_putZ (K : St B w0 L F w) (hgd : Region.wanted o (yielded ops a.tmps) = true) (ty : TypeId) (x y : Operand) (ho : o.op = .store ty x y) (hdst : o.dst = none) {g off : Nat} (hx : a.eval x = .pointer (some ⟨g, off, none⟩)) {v : Value} (hy : a.eval y = .agg #[v])
    {cs new : Array Value} {t : TypeId} (hp : Put L g cs t new L') (hs : off < cs.size) (hnew : cs.setIfInBounds off v = new) (hu : RowTy P ty 1) (h1 : v.oneCell' = true)
    (h : ∀ w' : World, St B w0 L' F w' → wpList P ops Q rest a w') : wpList P ops Q (o :: rest) a w := by
  subst hnew
  exact wm_storePart K hgd ty x y ho hdst hx hy (by simpa [over] using hp) hu rfl (by omega) (by simp [Ones, h1]) h
theorem wm_ownZ (K : St B w0 L F w) (hgd : Region.wanted o (yielded ops a.tmps) = true) (ty : TypeId) (x : Operand) (ho : o.op = .load ty x) {g off : Nat} (hx : a.eval x = .pointer (some ⟨g, off, none⟩)) {cs : Array Value} {t : TypeId} (ha : At L g cs t)
    {v : Value} (hv : cs[off]? = some v) (hu : RowTy P ty 1) (h : wpList P ops Q rest (a.put o.dst (.agg #[v])) w) : wpList P ops Q (o :: rest) a w :=
  wm_far1 hgd ty x ho hx ((K.get ha).cell hv) hu h
theorem run_far1 {o : Oper} {ty : TypeId} {x : Operand} (ho : o.op = .load ty x) {g off : Nat} (hx : a.eval x = .pointer (some ⟨g, off, none⟩)) {v : Value} (hv : w.cell? ⟨g, off, none⟩ = some v) (hu : RowTy P ty 1) : (execOp a.eval o).run P w = .ok (.value (.agg #[v])) w := by
  obtain ⟨d, h1, h2, h3⟩ := hu
  have := run_loadVar_mid (P := P) w g off ty [v] d (fun j u hu => by
    rcases j with _ | j
    · simp at hu; subst hu; exact hv
    · simp at hu) h1 (by cases d <;> simp_all) h3
  unfold execOp
  simp only [ho, hx, Instr.loadAt, Instr.sureAddr, Sem.run_bind, Sem.run_pure, Result.andThen_ok, this]
end
section
variable {P : Program} {B : Nat} {w0 w : World} {L L' Ls : List Blk} {F : World → Prop} {ops : Array Oper} {r : List (Bool × Oper)} {o : Oper} {a : Act} {S : World → Prop} {Q : Exit → Act → World → Prop} {t : Tr} {i : Nat}
theorem hm_far1 (hgd : Region.wanted o (yielded ops a.tmps) = true) (ty : TypeId) (x : Operand) (ho : o.op = .load ty x) {g off : Nat} (hx : a.eval x = .pointer (some ⟨g, off, none⟩)) {v : Value} (hv : ∀ w, S w → w.cell? ⟨g, off, none⟩ = some v) (hu : RowTy P ty 1)
    (h : wpHeld P ops S Q r (a.put o.dst (.agg #[v])) w) : wpHeld P ops S Q ((true, o) :: r) a w :=
  held_val hgd _ (fun w hS => run_far1 ho hx (hv w hS) hu) h
theorem tm_far1 (ho : opAt ops i = o) (hgd : Region.wanted o (yielded ops a.tmps) = true) (ty : TypeId) (x : Operand) (hop : o.op = .load ty x) {g off : Nat} (hx : a.eval x = .pointer (some ⟨g, off, none⟩)) {v : Value} (hv : ∀ w, St B w0 Ls F w → w.cell? ⟨g, off, none⟩ = some v) (hu : RowTy P ty 1)
    (h : wpTree P ops (St B w0 Ls F) Q t (a.put o.dst (.agg #[v])) w) : wpTree P ops (St B w0 Ls F) Q (.take i t) a w := by
  subst ho
  unfold wpTree
  rw [if_pos hgd]
  refine ⟨_, fun w K => ?_, h⟩
  rw [run_far1 hop hx (hv w K) hu]
  exact ⟨rfl, rfl⟩
end
end Go.Proofs.Yteancdipmpmjpaa
namespace Go.Proofs.Yteancdipmpmjpaa
open Go.RowKit
set_option linter.unusedVariables false
section
variable {P : Program} {B : Nat} {w0 w w' : World} {L L' L0 : List Blk} {F : World → Prop} {ops : Array Oper} {rest : List Oper} {o : Oper} {a : Act} {Q : Exit → Act → World → Prop}
theorem wm_three (K : St B w0 L F w) (hgd : Region.wanted o (yielded ops a.tmps) = true) (t : TypeId) (x y s : Operand) (ho : o.op = .buildSlice t 3 #[(0, x), (1, y), (2, s)]) {e : TypeId} (hu : P.underlying t = some (.slice e)) {z z1 v u r v1 u1 r1 : Value} {bs : Nat}
    (hi : (P.info? e).map (fun i => (i.zero, i.size, i.bytes)) = some (some z, 1, bs)) (hz1 : Cell1 z z1) (hx : a.eval x = v) (hy : a.eval y = u) (hs : a.eval s = r) (hv : Cell1 v v1) (hu1 : Cell1 u u1) (hr1 : Cell1 r r1)
    (h : ∀ (b : Nat) (w' : World), St B w0 ((b, #[v1, u1, r1], e) :: L) F w' → wpList P ops Q rest (a.put o.dst (.slice (some ⟨b, 0, none⟩) 3 3)) w') : wpList P ops Q (o :: rest) a w :=
  wl_wanted hgd fun K' hK => by
    obtain ⟨i, hi1, hz, hs1, _⟩ := info_parts hi
    have hr := run_buildSlice (P := P) w t e 3 #[(0, v), (1, u), (2, r)] #[v1, u1, r1] i z hu hi1 hz (by rw [hs1]; omega) (by rw [hs1]; omega) (by rw [hs1]; simp [Instr.fill, show v.cells = #[v1] from hv, show u.cells = #[u1] from hu1, show r.cells = #[r1] from hr1, show z.cells = #[z1] from hz1]; apply Array.ext'; simp [Array.toList_setIfInBounds, List.range_succ])
    unfold Oper.wp execOp
    simp [ho, hx, hy, hs, hr, Result.andThen_ok, Oper.upon]
    exact hK _ _ (h _ _ (K.alloc _ e))
end
section
variable {B : Nat} {w0 w w' : World} {L : List Blk} {F : World → Prop} {A : Option Addr} {n c X : Nat}
def Lim : Nat := 4294967296 ^ 1000
attribute [local irreducible] Lim
theorem Nt.le1000 (h : Nt w A n c X) (hX : X < Lim) : n ≤ 1000 := Go.Proofs.Yteancdipmpmjpaa.len_le (X := X) (k := 1000) n (by unfold Lim at hX; exact hX) h.len
theorem AllN.set {cs : List Value} {xs : List Nat} {i k x : Nat} (h : AllN w cs xs) (hi : i < xs.length) (hx : Nt w A k c x) (hk : k ≤ 1000) : AllN w (cs.set i (.slice A k c)) (xs.set i x) := by
  refine ⟨by rw [List.length_set, List.length_set]; exact h.1, fun j hj => ?_⟩
  rw [List.length_set] at hj
  by_cases hij : i = j
  · subst hij
    refine ⟨A, k, c, by rw [List.getElem?_set_self (by rw [h.1]; exact hi)], ?_, hk⟩
    rw [List.getD, List.getElem?_set_self hi]; exact hx
  · obtain ⟨A', k', c', h1, h2, h3⟩ := h.2 j hj
    refine ⟨A', k', c', by rw [List.getElem?_set_ne hij]; exact h1, ?_, h3⟩
    rw [List.getD, List.getElem?_set_ne hij]; exact h2
theorem AllN.zeros (w : World) (n : Nat) : AllN w (List.replicate n (.slice none 0 0)) (List.replicate n 0) := by
  refine ⟨by simp, fun i hi => ?_⟩
  rw [List.length_replicate] at hi
  exact ⟨none, 0, 0, by simp [hi], by rw [show (List.replicate n 0).getD i 0 = 0 by simp [List.getD, hi]]; exact Nt.zero w none 0 (by omega), by omega⟩
theorem nts_three {b : Nat} {a1 a2 a3 : Option Addr} {k1 k2 k3 c1 c2 c3 x1 x2 x3 : Nat} {t : TypeId} (hb : Has w b #[.slice a1 k1 c1, .slice a2 k2 c2, .slice a3 k3 c3] t) (h1 : Nt w a1 k1 c1 x1 ∧ k1 ≤ 1000) (h2 : Nt w a2 k2 c2 x2 ∧ k2 ≤ 1000) (h3 : Nt w a3 k3 c3 x3 ∧ k3 ≤ 1000) : Nts w (some ⟨b, 0, none⟩) [x1, x2, x3] := by
  intro i hi
  match i, hi with
  | 0, _ => exact ⟨b, 0, a1, k1, c1, rfl, hb.lt, hb.cell rfl, h1.1, h1.2⟩
  | 1, _ => exact ⟨b, 0, a2, k2, c2, rfl, hb.lt, hb.cell rfl, h2.1, h2.2⟩
  | 2, _ => exact ⟨b, 0, a3, k3, c3, rfl, hb.lt, hb.cell rfl, h3.1, h3.2⟩
theorem St.timesT (x : Nat) {z : Int} (K : St B w0 L F w) (hz : z = (x : Int)) (hx : x ≤ 18446744073709551615) (h1 : Nt w A n c X) (hn : n ≤ 1000) (hX : X * x < Lim) :
    Calls Try.prog 77 #[.agg #[.slice A n c], .int .u64 z] w fun e w' => ∃ A k, e = .returned (.agg #[.slice A k k]) ∧ St B w0 L (fun w => (Nt w A k k (X * x) ∧ k ≤ 1000) ∧ F w) w' := by
  subst hz
  refine (Times_nat A n c X x w h1 (by omega) hx).mono ?_
  rintro e w' ⟨A', k, rfl, h, hA, hb⟩
  exact ⟨A', k, rfl, (K.madeNt hb h hA).weak fun w h => ⟨⟨h.1.1, h.1.1.le1000 hX⟩, h.2⟩⟩
theorem St.addT {A2 : Option Addr} {n2 c2 Y : Nat} (K : St B w0 L F w) (h1 : Nt w A n c X) (h2 : Nt w A2 n2 c2 Y) (hn : n ≤ 1000) (hn2 : n2 ≤ 1000) (hX : X + Y < Lim) :
    Calls Try.prog 75 #[.agg #[.slice A n c], .agg #[.slice A2 n2 c2]] w fun e w' => ∃ A k, e = .returned (.agg #[.slice A k k]) ∧ St B w0 L (fun w => (Nt w A k k (X + Y) ∧ k ≤ 1000) ∧ F w) w' := by
  refine (Add_nat A A2 n c n2 c2 X Y w h1 h2 (by omega) (by omega)).mono ?_
  rintro e w' ⟨A', k, rfl, h, hA, hb⟩
  exact ⟨A', k, rfl, (K.madeNt hb h hA).weak fun w h => ⟨⟨h.1.1, h.1.1.le1000 hX⟩, h.2⟩⟩
theorem St.sumT {xs : List Nat} (K : St B w0 L F w) (h : Nts w A xs) (hn : xs.length = n) (hb : n ≤ 1000000) (hS : xs.sum < Lim) :
    Calls Try.prog 96 #[.slice A n c] w fun e w' => ∃ A k, e = .returned (.agg #[.slice A k k]) ∧ St B w0 L (fun w => (Nt w A k k xs.sum ∧ k ≤ 1000) ∧ F w) w' := by
  refine (Sum_nat A n c xs w h hn hb (by unfold Lim at hS; exact hS)).mono ?_
  rintro e w' ⟨A', k, rfl, h, hA, hb⟩
  exact ⟨A', k, rfl, (K.madeNt hb h hA).weak fun w h => ⟨⟨h.1.1, h.1.1.le1000 hS⟩, h.2⟩⟩
theorem Sum17 (W H : Int) (xs : List Nat) (hS : xs.sum < Lim) (hn : n ≤ 5000) (w : World) (h : Fn w A n xs) :
    Calls Try.prog 73 #[.agg #[.int .i64 W, .int .i64 H, .slice A n c]] w fun e w' => ∃ A' k, e = .returned (.agg #[.slice A' k k]) ∧ (Nt w' A' k k xs.sum ∧ k ≤ 1000 ∧ Nw w.heap.size A') ∧ Below w.heap.size w w' := by
  have K := St.start w
  have HN := Lib.hid h.nts
  have HL := Lib.hid h.len
  have SU := Lib.hid (fun (B : Nat) (w0 : World) (L : List Blk) (F : World → Prop) (w : World) (K : St B w0 L F w) (h : Fn w A n xs) => Sum_nat A n c xs w h.nts h.len (by omega) (by unfold Lim at hS; exact hS))
  have H2 := Lib.hid h
  have HS := Lib.hid hS
  clear h hn hS
  go_enter Try.func73, Try.ntmps73
  go_wp2_with (first|((with_reducible refine at_load ?_);first|(refine wm_own (cs := ?_) (t := ?_) (v := ?_) K rfl _ _ rfl rfl ?_ ?_ ?_ ?_;rotate_left 2;(repeat (first|exact At.hd|refine At.tl ?_));rotate_left;(exact rfl);(with_reducible first|exact one49)))|((with_reducible refine at_store ?_);(first|(refine wm_store (L' := ?_) (cs := ?_) (t := ?_) (n := ?_) K rfl _ _ _ rfl rfl rfl rfl ?_ ?_ ?_ ?_ ?_ ?_;rotate_left 3;(repeat (exact Put.hd));rotate_left;(with_reducible first|exact row108);(exact rfl);(exact rfl);(simp [Ones, Value.oneCell'])));(try clear K);(try clear ww);intro ww K;(try simp [go_sem] at K))|((first|((with_reducible refine at_box ?_);refine wm_box K rfl _ _ rfl rfl rfl ?_)|((with_reducible refine at_alloc ?_);refine wm_alloc (v := ?_) (cs := ?_) K rfl _ rfl ?_ ?_ ?_;rotate_left;(with_reducible first|exact zero108);rotate_left;exact rfl));(try clear K);(try clear ww);(first|((fail_if_success (have _h := b1));intro b1 ww K)|((fail_if_success (have _h := b2));intro b2 ww K));(try simp [go_sem, Value.cells] at K))|(go_at_call 96;(with_reducible refine (SU.out _ _ _ _ _ K (H2.out.below K.below)).mono ?_);rintro e w2 ⟨A', k, rfl, hx, hA, hb⟩;(try dsimp only);replace K := K.madeNt hb hx hA;clear hb hx hA;(try clear ww);revert w2;intro ww K))
  refine bodyPost_ret (K.res rfl _ rfl At.hd (by (with_reducible first | exact row108)) (by (solve | exact rfl | simp))) rfl ?_
  exact ⟨A', k, rfl, ⟨K.fact.1.1, K.fact.1.1.le1000 HS.out, K.fact.1.2⟩, K.below⟩
end
end Go.Proofs.Yteancdipmpmjpaa
