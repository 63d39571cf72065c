/-
  append of one number (a struct of one cell) onto a slice of the call's own: laws of the walk, no claim of their own; and a row of such numbers ('AllN').
-/
import Derived.Test.YtboigebdjnghiaaApp
import Derived.Test.YtboigebdjnghiaaLk16
namespace Go.Proofs.Ytboigebdjnghiaa
open Go.RowKit
set_option linter.unusedVariables false

section
variable {P : Program} {B : Nat} {w0 w w' : World} {L L' L0 : List Blk} {F : World → Prop} {ops : Array Oper} {rest : List Oper} {o : Oper} {a : Act} {Q : Exit → Act → World → Prop}
theorem wm_oneZ (K : St B w0 L F w) (hgd : Region.wanted o (yielded ops a.tmps) = true) (t : TypeId) (x : Operand) (ho : o.op = .buildSlice t 1 #[(0, x)]) {e : TypeId} (hu : P.underlying t = some (.slice e)) {z z1 v v1 : Value} {bs : Nat}
    (hi : (P.info? e).map (fun i => (i.zero, i.size, i.bytes)) = some (some z, 1, bs)) (hz1 : Cell1 z z1) (hx : a.eval x = v) (hv : Cell1 v v1)
    (h : ∀ (b : Nat) (w' : World), St B w0 ((b, #[v1], e) :: L) F w' → wpList P ops Q rest (a.put o.dst (.slice (some ⟨b, 0, none⟩) 1 1)) w') : wpList P ops Q (o :: rest) a w :=
  wl_wanted hgd fun K' hK => by
    obtain ⟨i, hi1, hz, hs1, _⟩ := info_parts hi
    have hr := run_buildSlice (P := P) w t e 1 #[(0, v)] #[v1] i z hu hi1 hz (by rw [hs1]; omega) (by rw [hs1]; omega) (by rw [hs1]; simp [Instr.fill, show v.cells = #[v1] from hv, show z.cells = #[z1] from hz1]; apply Array.ext'; simp [Array.toList_setIfInBounds, List.range_succ])
    unfold Oper.wp execOp
    simp [ho, hx, hr, Sem.run_bind, Sem.run_pure, Result.andThen_ok, Oper.upon]
    exact hK _ _ (h _ _ (K.alloc _ e))
/-- append of one element that lies in one cell, a struct let in. -/
theorem wm_appZ {b : Nat} {x : Value} {e : TypeId} (K : St B w0 ((b, #[x], e) :: L) F w) (hg : o.guard = none) (s y : Operand) (t : TypeId) (ho : o.op = .call { callee := .builtin .append, args := #[s, y], argTypes := #[t, t] })
    (hu : P.underlying t = some (.slice e)) {z z1 : Value} {bs : Nat} (hi : (P.info? e).map (fun i => (i.zero, i.size, i.bytes)) = some (some z, 1, bs)) (hz1 : Cell1 z z1)
    {v : Value} (hs : a.eval s = v) {xs : List Value} (hown : Own v e xs L0 L) (hy : a.eval y = .slice (some ⟨b, 0, none⟩) 1 1) (hx : x.oneCell' = true) (hb1 : (xs.length + 1) * bs ≤ 140737488355328) (hb2 : xs.length + 1 ≤ maxLen)
    (h : ∀ (v' : Value) (w' : World) (L' : List Blk), Own v' e (xs ++ [x]) L0 L' → St B w0 L' F w' → wpList P ops Q rest (a.put o.dst v') w') : wpList P ops Q (o :: rest) a w := by
  obtain ⟨i, hi1, hz, hsz, hby⟩ := info_parts hi
  have hcell : ∀ (j : Nat) (u : Value), [x][j]? = some u → w.cell? ((⟨b, 0, none⟩ : Addr).add j) = some u := fun j u hj => by
    rcases j with _ | j
    · rw [Addr.add_mid]; exact (K.get .hd).cell (by simpa using hj)
    · simp at hj
  have h1 : ∀ u ∈ [x], u.oneCell' = true := fun u hu => by rw [List.mem_singleton.1 hu]; exact hx
  rcases hown with ⟨rfl, rfl, rfl⟩ | ⟨g, cap, cur, rfl, hc1, hc2, hcs, hct, rfl⟩
  · refine wpList_append_grows w hg s y t ho e i z 1 bs hu hi1 hz hsz hby (by rw [show z.cells = #[z1] from hz1]; rfl) (by decide) none 0 0 [] hs (fun _ => ⟨rfl, rfl⟩) rfl (fun _ h => by cases h) ⟨b, 0, none⟩ 1 1 [x] hy rfl hcell h1 (by omega) hb2 hb1 ?_
    intro v' w' ho hgr
    obtain ⟨g, cap, cur, rfl, hc1, hc2, hcs, hct, K'⟩ := K.tail.row (grown_below hgr) ho (by omega)
    exact h _ w' _ (.inr ⟨g, cap, cur, by simp, by simpa using hc1, hc2, hcs, by simpa using hct, rfl⟩) K'
  · rcases Nat.lt_or_ge cap (xs.length + 1) with hlt | hge
    · refine wpList_append_grows w hg s y t ho e i z 1 bs hu hi1 hz hsz hby (by rw [show z.cells = #[z1] from hz1]; rfl) (by decide) (some ⟨g, 0, none⟩) xs.length cap xs hs (fun h => by cases h) (by simp) (fun ad had j u hj => ?_) ⟨b, 0, none⟩ 1 1 [x] hy rfl hcell h1 (by omega) hb2 hb1 ?_
      · injection had with had
        subst had
        rw [Addr.add_mid]
        refine (K.get (.tl .hd)).cell ?_
        rw [← hct, List.getElem?_take] at hj
        split at hj
        · simpa using hj
        · cases hj
      · intro v' w' ho hgr
        obtain ⟨g', cap', cur', rfl, hc1', hc2', hcs', hct', K'⟩ := K.tail.tail.row (grown_below hgr) ho (by omega)
        exact h _ w' _ (.inr ⟨g', cap', cur', by simp, by simpa using hc1', hc2', hcs', by simpa using hct', rfl⟩) K'
    · have hown : w.ownsRow 0 e 1 (.slice (some ⟨g, 0, none⟩) xs.length cap) xs.length xs := ⟨by simp, .inr ⟨g, cap, cur, rfl, Nat.zero_le _, K.get (.tl .hd), hc1, hc2, by simpa using hcs, by simpa using hct⟩⟩
      refine wpList_append_fits w hg s y t ho 0 e i 1 hu hi1 hsz g xs.length cap xs hs hown ⟨b, 0, none⟩ 1 1 [x] hy rfl hcell h1 hge ?_
      intro w' ho hgr
      have Kt := K.tail
      rcases ho.2 with ⟨hn, _⟩ | ⟨g', cap', cur', hv, _, hh, h1', h2', h3', h4'⟩
      · cases hn
      · injection hv with hv1 hv2 hv3
        injection hv1 with hv1
        injection hv1 with hv1
        subst hv1 hv3
        have K' := Kt.grown hgr hh
        exact h _ w' _ (.inr ⟨g, cap, cur', by simp, by simpa using h1', h2', by simpa using h3', by simpa using h4', rfl⟩) K'
end
/-- These cells are the slices of these numbers. -/
def AllN (w : World) (cs : List Value) (xs : List Nat) : Prop := cs.length = xs.length ∧ ∀ i, i < xs.length → ∃ A k c, cs[i]? = some (.slice A k c) ∧ Nt w A k c (xs.getD i 0) ∧ k ≤ 1000
theorem AllN.nil (w : World) : AllN w [] [] := ⟨rfl, fun i h => absurd h (by simp)⟩
theorem AllN.snoc {w : World} {cs : List Value} {xs : List Nat} {A : Option Addr} {k c x : Nat} (h : AllN w cs xs) (hx : Nt w A k c x) (hk : k ≤ 1000) : AllN w (cs ++ [.slice A k c]) (xs ++ [x]) := by
  refine ⟨by simp [h.1], fun i hi => ?_⟩
  simp only [List.length_append, List.length_singleton] at hi
  by_cases hlt : i < xs.length
  · obtain ⟨A', k', c', h1, h2, h3⟩ := h.2 i hlt
    refine ⟨A', k', c', by rw [List.getElem?_append_left (by rw [h.1]; exact hlt)]; exact h1, ?_, h3⟩
    rw [List.getD, List.getElem?_append_left hlt]; exact h2
  · obtain rfl : i = xs.length := by omega
    refine ⟨A, k, c, by rw [List.getElem?_append_right (by rw [h.1]; exact Nat.le_refl _), h.1]; simp, ?_, hk⟩
    rw [List.getD, List.getElem?_append_right (Nat.le_refl _)]; simpa using hx
theorem AllN.nts {B : Nat} {w0 w : World} {L L0 : List Blk} {F : World → Prop} {v : Value} {e : TypeId} {cs : List Value} {xs : List Nat} (K : St B w0 L F w) (h : AllN w cs xs) (ho : Own v e cs L0 L) : ∃ A c, v = .slice A xs.length c ∧ Nts w A xs := by
  rcases ho with ⟨rfl, rfl, rfl⟩ | ⟨g, cap, cur, rfl, h1, h2, h3, h4, rfl⟩
  · have : xs = [] := by have := h.1; simpa using this.symm
    subst this
    exact ⟨none, 0, rfl, fun i hi => absurd hi (by simp)⟩
  · refine ⟨some ⟨g, 0, none⟩, cap, by rw [h.1], fun i hi => ?_⟩
    obtain ⟨A', k', c', e1, e2, e3⟩ := h.2 i hi
    refine ⟨g, 0, A', k', c', rfl, K.lt .hd, ?_, e2, e3⟩
    refine (K.get .hd).cell ?_
    rw [← h4, List.getElem?_take, if_pos (by rw [h.1]; exact hi)] at e1
    simpa using e1
end Go.Proofs.Ytboigebdjnghiaa
