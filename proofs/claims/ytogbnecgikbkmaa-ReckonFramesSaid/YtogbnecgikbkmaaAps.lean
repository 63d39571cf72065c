/-
  append of all elements of one slice onto a slice of the call's own, in the words of 'St' and 'Own'. No condition: laws of the walk, no claim of their own.
-/
import Derived.Test.YtogbnecgikbkmaaApt
namespace Go.Proofs.Ytogbnecgikbkmaa
open Go.RowKit
set_option linter.unusedVariables false
section
variable {P : Program} {B : Nat} {w0 w w' : World} {L L' L0 : List Blk} {F : World → Prop} {ops : Array Oper} {rest : List Oper} {o : Oper} {a : Act} {Q : Exit → Act → World → Prop}
theorem wm_appS {e : TypeId} (K : St B w0 L F w) (hg : o.guard = none) (s y : Operand) (t : TypeId) (ho : o.op = .call { callee := .builtin .append, args := #[s, y], argTypes := #[t, t] })
    (hu : P.underlying t = some (.slice e)) {k : IntKind} {bs : Nat} (hi : (P.info? e).map (fun i => (i.zero, i.size, i.bytes)) = some (some (.int k 0), 1, bs))
    {v : Value} (hs : a.eval s = v) {xs : List Value} (hown : Own v e xs L0 L) {A : Option Addr} {m c : Nat} (hy : a.eval y = .slice A m c) {ys : List Value} (hr : Rd w A m ys) (hm : 0 < m) (hx : ∀ u ∈ ys, u.oneCell' = true)
    (hb1 : (xs.length + m) * bs ≤ 140737488355328) (hb2 : xs.length + m ≤ maxLen)
    (h : ∀ (v' : Value) (w' : World) (L' : List Blk), Own v' e (xs ++ ys) L0 L' → St B w0 L' F w' → wpList P ops Q rest (a.put o.dst v') w') : wpList P ops Q (o :: rest) a w := by
  obtain ⟨i, hi1, hz, hsz, hby⟩ := info_parts hi
  obtain ⟨b, off, rfl, hb, hcell⟩ := hr.get hm
  have hlen := hr.1
  have hc : ∀ (j : Nat) (u : Value), ys[j]? = some u → w.cell? ((⟨b, off, none⟩ : Addr).add j) = some u := fun j u hj => by rw [Addr.add_mid]; exact hcell j u hj
  have hxy : (xs ++ ys).length = xs.length + m := by rw [List.length_append, hlen]
  rcases hown with ⟨rfl, rfl, rfl⟩ | ⟨g, cap, cur, rfl, hc1, hc2, hcs, hct, rfl⟩
  · refine wpList_append_grows w hg s y t ho e i (.int k 0) 1 bs hu hi1 hz hsz hby rfl (by decide) none 0 0 [] hs (fun _ => ⟨rfl, rfl⟩) rfl (fun _ h => by cases h) ⟨b, off, none⟩ m c ys hy (by omega) hc hx (by omega) (by simpa using hb2) (by simpa using hb1) ?_
    intro v' w' ho hgr
    obtain ⟨g, cap, cur, rfl, hc1, hc2, hcs, hct, K'⟩ := K.row (grown_below hgr) ho (by omega)
    exact h _ w' _ (.inr ⟨g, cap, cur, by rw [hxy]; rfl, by rw [hxy]; exact hc1, hc2, hcs, by rw [hxy]; exact hct, rfl⟩) K'
  · rcases Nat.lt_or_ge cap (xs.length + m) with hlt | hge
    · refine wpList_append_grows w hg s y t ho e i (.int k 0) 1 bs hu hi1 hz hsz hby rfl (by decide) (some ⟨g, 0, none⟩) xs.length cap xs hs (fun h => by cases h) (by simp) (fun ad had j u hj => ?_) ⟨b, off, none⟩ m c ys hy (by omega) hc hx hlt hb2 hb1 ?_
      · injection had with had
        subst had
        rw [Addr.add_mid]
        refine (K.get .hd).cell ?_
        rw [← hct, List.getElem?_take] at hj
        split at hj
        · simpa using hj
        · cases hj
      · intro v' w' ho hgr
        obtain ⟨g', cap', cur', rfl, hc1', hc2', hcs', hct', K'⟩ := K.tail.row (grown_below hgr) ho (by omega)
        exact h _ w' _ (.inr ⟨g', cap', cur', by rw [hxy], by rw [hxy]; exact hc1', hc2', hcs', by rw [hxy]; exact hct', rfl⟩) K'
    · have hown : w.ownsRow 0 e 1 (.slice (some ⟨g, 0, none⟩) xs.length cap) xs.length xs := ⟨by simp, .inr ⟨g, cap, cur, rfl, Nat.zero_le _, K.get .hd, hc1, hc2, by simpa using hcs, by simpa using hct⟩⟩
      refine wpList_append_fits w hg s y t ho 0 e i 1 hu hi1 hsz g xs.length cap xs hs hown ⟨b, off, none⟩ m c ys hy (by omega) hc hx hge ?_
      intro w' ho hgr
      rcases ho.2 with ⟨hn, _⟩ | ⟨g', cap', cur', hv, _, hh, h1', h2', h3', h4'⟩
      · cases hn
      · injection hv with hv1 hv2 hv3
        injection hv1 with hv1
        injection hv1 with hv1
        subst hv1 hv3
        have K' := K.grown hgr hh
        exact h _ w' _ (.inr ⟨g, cap, cur', by rw [hxy], by rw [hxy]; exact h1', h2', by simpa using h3', by rw [hxy]; simpa using h4', rfl⟩) K'
theorem wm_pair (K : St B w0 L F w) (hgd : Region.wanted o (yielded ops a.tmps) = true) (t : TypeId) (x y : Operand) (ho : o.op = .buildSlice t 2 #[(0, x), (1, y)]) {e : TypeId} (hu : P.underlying t = some (.slice e)) {k : IntKind} {bs : Nat}
    (hi : (P.info? e).map (fun i => (i.zero, i.size, i.bytes)) = some (some (.int k 0), 1, bs)) {N M : Int} (hx : a.eval x = .int k N) (hy : a.eval y = .int k M)
    (h : ∀ (v' : Value) (w' : World) (L' : List Blk), Own v' e [.int k N, .int k M] L L' → St B w0 L' F w' → wpList P ops Q rest (a.put o.dst v') w') : wpList P ops Q (o :: rest) a w :=
  wl_wanted hgd fun K' hK => by
    obtain ⟨i, hi1, hz, hs, _⟩ := info_parts hi
    have hr := run_buildSlice (P := P) w t e 2 #[(0, Value.int k N), (1, Value.int k M)] #[.int k N, .int k M] i (.int k 0) hu hi1 hz (by rw [hs]; omega) (by rw [hs]; omega) (by rw [hs]; simp [Instr.fill, Value.cells]; apply Array.ext'; simp [Array.toList_setIfInBounds, List.range_succ])
    unfold Oper.wp execOp
    simp [ho, hx, hy, hr, Oper.upon]
    exact hK _ _ (h _ _ _ (.inr ⟨w.heap.size, 2, #[.int k N, .int k M], rfl, Nat.le_refl _, by omega, rfl, rfl, rfl⟩) (K.alloc _ e))
theorem wm_appST {e : TypeId} {Lo : List Blk} (K : St B w0 L F w) (ht : Tl L Lo L0) (hg : o.guard = none) (s y : Operand) (t : TypeId) (ho : o.op = .call { callee := .builtin .append, args := #[s, y], argTypes := #[t, t] })
    (hu : P.underlying t = some (.slice e)) {k : IntKind} {bs : Nat} (hi : (P.info? e).map (fun i => (i.zero, i.size, i.bytes)) = some (some (.int k 0), 1, bs))
    {v : Value} (hs : a.eval s = v) {xs : List Value} (hown : OwnT v e xs Lo) {A : Option Addr} {m c : Nat} (hy : a.eval y = .slice A m c) {ys : List Value} (hr : Rd w A m ys) (hm : 0 < m) (hx : ∀ u ∈ ys, u.oneCell' = true)
    (hb1 : (xs.length + m) * bs ≤ 140737488355328) (hb2 : xs.length + m ≤ maxLen)
    (h : ∀ (v' : Value) (w' : World) (Lo' : List Blk), OwnT v' e (xs ++ ys) Lo' → St B w0 (L0 ++ Lo') F w' → wpList P ops Q rest (a.put o.dst v') w') : wpList P ops Q (o :: rest) a w := by
  have hL := ht.eq
  subst hL
  have hO : Own v e xs L0 (Lo ++ L0) := by
    rcases hown with ⟨h1, h2, h3⟩ | ⟨g, cap, cur, h1, h2, h3, h4, h5, h6⟩
    · exact .inl ⟨h1, h2, by rw [h3]; rfl⟩
    · exact .inr ⟨g, cap, cur, h1, h2, h3, h4, h5, by rw [h6]; rfl⟩
  refine wm_appS (K.perm List.perm_append_comm) hg s y t ho hu hi hs hO hy hr hm hx hb1 hb2 ?_
  intro v' w' L' hO' K'
  rcases hO' with ⟨h1, h2, h3⟩ | ⟨g, cap, cur, h1, h2, h3, h4, h5, h6⟩
  · exact h v' w' [] (.inl ⟨h1, h2, rfl⟩) (by rw [List.append_nil, ← h3]; exact K')
  · exact h v' w' [(g, cur, e)] (.inr ⟨g, cap, cur, h1, h2, h3, h4, h5, rfl⟩) (K'.perm (by rw [h6]; exact (List.perm_append_comm (l₁ := [(g, cur, e)]) (l₂ := L0))))
theorem wm_pairT (K : St B w0 L F w) (hgd : Region.wanted o (yielded ops a.tmps) = true) (t : TypeId) (x y : Operand) (ho : o.op = .buildSlice t 2 #[(0, x), (1, y)]) {e : TypeId} (hu : P.underlying t = some (.slice e)) {k : IntKind} {bs : Nat}
    (hi : (P.info? e).map (fun i => (i.zero, i.size, i.bytes)) = some (some (.int k 0), 1, bs)) {N M : Int} (hx : a.eval x = .int k N) (hy : a.eval y = .int k M)
    (h : ∀ (v' : Value) (w' : World) (Lo' : List Blk), OwnT v' e [.int k N, .int k M] Lo' → St B w0 (L ++ Lo') F w' → wpList P ops Q rest (a.put o.dst v') w') : wpList P ops Q (o :: rest) a w := by
  refine wm_pair K hgd t x y ho hu hi hx hy ?_
  intro v' w' L' hO' K'
  rcases hO' with ⟨h1, h2, h3⟩ | ⟨g, cap, cur, h1, h2, h3, h4, h5, h6⟩
  · exact h v' w' [] (.inl ⟨h1, h2, rfl⟩) (by rw [List.append_nil, ← h3]; exact K')
  · exact h v' w' [(g, cur, e)] (.inr ⟨g, cap, cur, h1, h2, h3, h4, h5, rfl⟩) (K'.perm (by rw [h6]; exact (List.perm_append_comm (l₁ := [(g, cur, e)]) (l₂ := L))))
theorem OwnT.rd {v : Value} {e : TypeId} {xs : List Value} {Lo : List Blk} (h : OwnT v e xs Lo) (K : St B w0 (L0 ++ Lo) F w) : ∃ A c, v = .slice A xs.length c ∧ Rd w A xs.length xs := by
  rcases h with ⟨rfl, rfl, rfl⟩ | ⟨g, cap, cur, rfl, hc1, hc2, hcs, hct, rfl⟩
  · exact ⟨none, 0, rfl, Rd.nil _ _⟩
  · have hg : Has w g cur e := (K.has (g, cur, e) (by simp)).2
    have hs : Sl w e (some ⟨g, 0, none⟩) xs.length xs := ⟨rfl, fun _ => ⟨g, 0, cur, rfl, hg, fun j u hj => by
      rw [← hct, List.getElem?_take] at hj
      split at hj
      · simpa using hj
      · cases hj⟩⟩
    exact ⟨_, cap, rfl, hs.rd⟩
/-- What such a slice reads as, by its cells. -/
theorem Own.rd {v : Value} {e : TypeId} {xs : List Value} (h : Own v e xs L0 L) (K : St B w0 L F w) : ∃ A c, v = .slice A xs.length c ∧ Rd w A xs.length xs ∧ Sl w e A xs.length xs ∧ (∀ b off p, A = some ⟨b, off, p⟩ → B ≤ b) := by
  rcases h with ⟨rfl, rfl, rfl⟩ | ⟨g, cap, cur, rfl, hc1, hc2, hcs, hct, rfl⟩
  · exact ⟨none, 0, rfl, Rd.nil _ _, Sl.nil _ _ _, fun b off p h => by cases h⟩
  · have hs : Sl w e (some ⟨g, 0, none⟩) xs.length xs := ⟨rfl, fun _ => ⟨g, 0, cur, rfl, K.get .hd, fun j u hj => by
      rw [← hct, List.getElem?_take] at hj
      split at hj
      · simpa using hj
      · cases hj⟩⟩
    exact ⟨_, cap, rfl, hs.rd, hs, fun b off p h => by
      injection h with h
      injection h with h
      subst h
      exact K.ge .hd⟩
end
end Go.Proofs.Ytogbnecgikbkmaa
