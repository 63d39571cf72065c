/-
  Lemmas and walks of this claim (the texts App of the work; what no proof here uses is left out). No claim of their own.
-/
import Derived.Test.YtpejoaefnnbghaaPH7
import Derived.ArgAppend
import Derived.OwnWalk
import Derived.Great.BuildSlice
set_option linter.all false
set_option linter.unusedSimpArgs false
set_option linter.unusedVariables false
namespace Go.Proofs.Ytpejoaefnnbghaa
open Go.RowKit
set_option linter.unusedVariables false

def Own (v : Value) (e : TypeId) (xs : List Value) (L0 L : List Blk) : Prop :=
  (v = .slice none 0 0 ∧ xs = [] ∧ L = L0) ∨
  ∃ (g cap : Nat) (cur : Array Value), v = .slice (some ⟨g, 0, none⟩) xs.length cap ∧ xs.length ≤ cap ∧ cap ≤ 9223372036854775807 ∧ cur.size = cap ∧ cur.toList.take xs.length = xs ∧ L = (g, cur, e) :: L0
section
variable {P : Program} {B : Nat} {w0 w w' : World} {L L' L0 : List Blk} {F : World → Prop} {ops : Array Oper} {rest : List Oper} {o : Oper} {a : Act} {Q : Exit → Act → World → Prop}
theorem wm_one (K : St B w0 L F w) (hgd : Region.wanted o (yielded ops a.tmps) = true) (t : TypeId) (x : Operand) (ho : o.op = .buildSlice t 1 #[(0, x)]) {e : TypeId} (hu : P.underlying t = some (.slice e)) {k : IntKind} {bs : Nat}
    (hi : (P.info? e).map (fun i => (i.zero, i.size, i.bytes)) = some (some (.int k 0), 1, bs)) {N : Int} (hx : a.eval x = .int k N)
    (h : ∀ (b : Nat) (w' : World), St B w0 ((b, #[.int k N], e) :: L) F w' → wpList P ops Q rest (a.put o.dst (.slice (some ⟨b, 0, none⟩) 1 1)) w') : wpList P ops Q (o :: rest) a w :=
  wl_wanted hgd fun K' hK => by
    obtain ⟨i, hi1, hz, hs, _⟩ := info_parts hi
    have hr := run_buildSlice (P := P) w t e 1 #[(0, Value.int k N)] #[.int k N] i (.int k 0) hu hi1 hz (by rw [hs]; omega) (by rw [hs]; omega) (by rw [hs]; simp [Instr.fill, Value.cells]; apply Array.ext'; simp [Array.toList_setIfInBounds, List.range_succ])
    unfold Oper.wp execOp
    simp [ho, hx, hr, Result.andThen_ok, Oper.upon]
    exact hK _ _ (h _ _ (K.alloc _ e))
theorem St.grown {g : Nat} {cur cur' : Array Value} {e : TypeId} (K : St B w0 ((g, cur, e) :: L0) F w) (hgr : w.grownBy w' (some g)) (hh : Has w' g cur' e) : St B w0 ((g, cur', e) :: L0) F w' := by
  have hn := List.nodup_cons.1 (show (g :: L0.map (·.1)).Nodup from K.nodup)
  refine ⟨K.below.grown hgr K.size (fun k hk => by injection hk with hk; subst hk; exact K.ge .hd), Nat.le_trans K.size hgr.size, fun p hp => ?_, K.nodup, fun w'' hs hk => K.keep w'' (Nat.le_trans hgr.size hs) fun b hb1 hb2 => ?_⟩
  · rcases List.mem_cons.1 hp with rfl | hp
    · exact ⟨K.ge .hd, hh⟩
    · have h1 := K.has p (List.mem_cons_of_mem _ hp)
      refine ⟨h1.1, (hgr.block p.1 h1.2.lt fun e => ?_).trans h1.2⟩
      injection e with e
      exact hn.1 (e ▸ List.mem_map.2 ⟨p, hp, rfl⟩)
  · refine (hk b (Nat.lt_of_lt_of_le hb1 hgr.size) hb2).trans (hgr.block b hb1 fun e => ?_)
    injection e with e
    exact hb2 (by simp [e])
theorem grown_below (h : w.grownBy w' none) : Below w.heap.size w w' := ⟨h.os, h.tape, h.output, h.size, fun k hk => h.block k hk (by simp)⟩
theorem wm_app {b : Nat} {x : Value} {e : TypeId} (K : St B w0 ((b, #[x], e) :: L) F w) (hg : o.guard = none) (s y : Operand) (t : TypeId) (ho : o.op = .call { callee := .builtin .append, args := #[s, y], argTypes := #[t, t] })
    (hu : P.underlying t = some (.slice e)) {k : IntKind} {bs : Nat} (hi : (P.info? e).map (fun i => (i.zero, i.size, i.bytes)) = some (some (.int k 0), 1, bs))
    {v : Value} (hs : a.eval s = v) {xs : List Value} (hown : Own v e xs L0 L) (hy : a.eval y = .slice (some ⟨b, 0, none⟩) 1 1) (hx : x.oneCell' = true) (hb1 : (xs.length + 1) * bs ≤ 140737488355328) (hb2 : xs.length + 1 ≤ maxLen)
    (h : ∀ (v' : Value) (w' : World) (L' : List Blk), Own v' e (xs ++ [x]) L0 L' → St B w0 L' F w' → wpList P ops Q rest (a.put o.dst v') w') : wpList P ops Q (o :: rest) a w := by
  obtain ⟨i, hi1, hz, hsz, hby⟩ := info_parts hi
  have hcell : ∀ (j : Nat) (u : Value), [x][j]? = some u → w.cell? ((⟨b, 0, none⟩ : Addr).add j) = some u := fun j u hj => by
    rcases j with _ | j
    · rw [Addr.add_mid]; exact (K.get .hd).cell (by simpa using hj)
    · simp at hj
  have h1 : ∀ u ∈ [x], u.oneCell' = true := fun u hu => by rw [List.mem_singleton.1 hu]; exact hx
  rcases hown with ⟨rfl, rfl, rfl⟩ | ⟨g, cap, cur, rfl, hc1, hc2, hcs, hct, rfl⟩
  · refine wpList_append_grows w hg s y t ho e i (.int k 0) 1 bs hu hi1 hz hsz hby rfl (by decide) none 0 0 [] hs (fun _ => ⟨rfl, rfl⟩) rfl (fun _ h => by cases h) ⟨b, 0, none⟩ 1 1 [x] hy rfl hcell h1 (by omega) hb2 hb1 ?_
    intro v' w' ho hgr
    obtain ⟨g, cap, cur, rfl, hc1, hc2, hcs, hct, K'⟩ := K.tail.row (grown_below hgr) ho (by omega)
    exact h _ w' _ (.inr ⟨g, cap, cur, by simp, by simpa using hc1, hc2, hcs, by simpa using hct, rfl⟩) K'
  · rcases Nat.lt_or_ge cap (xs.length + 1) with hlt | hge
    · refine wpList_append_grows w hg s y t ho e i (.int k 0) 1 bs hu hi1 hz hsz hby rfl (by decide) (some ⟨g, 0, none⟩) xs.length cap xs hs (fun h => by cases h) (by simp) (fun ad had j u hj => ?_) ⟨b, 0, none⟩ 1 1 [x] hy rfl hcell h1 (by omega) hb2 hb1 ?_
      · injection had with had
        subst had
        rw [Addr.add_mid]
        refine (K.get (.tl .hd)).cell ?_
        rw [← hct, List.getElem?_take] at hj
        split at hj
        · simpa using hj
        · cases hj
      · intro v' w' ho hgr
        obtain ⟨g', cap', cur', rfl, hc1', hc2', hcs', hct', K'⟩ := K.tail.tail.row (grown_below hgr) ho (by omega)
        exact h _ w' _ (.inr ⟨g', cap', cur', by simp, by simpa using hc1', hc2', hcs', by simpa using hct', rfl⟩) K'
    · have hown : w.ownsRow 0 e 1 (.slice (some ⟨g, 0, none⟩) xs.length cap) xs.length xs := ⟨by simp, .inr ⟨g, cap, cur, rfl, Nat.zero_le _, K.get (.tl .hd), hc1, hc2, by simpa using hcs, by simpa using hct⟩⟩
      refine wpList_append_fits w hg s y t ho 0 e i 1 hu hi1 hsz g xs.length cap xs hs hown ⟨b, 0, none⟩ 1 1 [x] hy rfl hcell h1 hge ?_
      intro w' ho hgr
      have Kt := K.tail
      rcases ho.2 with ⟨hn, _⟩ | ⟨g', cap', cur', hv, _, hh, h1', h2', h3', h4'⟩
      · cases hn
      · injection hv with hv1 hv2 hv3
        injection hv1 with hv1
        injection hv1 with hv1
        subst hv1 hv3
        have K' := Kt.grown hgr hh
        exact h _ w' _ (.inr ⟨g, cap, cur', by simp, by simpa using h1', h2', by simpa using h3', by simpa using h4', rfl⟩) K'
theorem at_bsl {dst : Option Tmp} {type : TypeId} {pos : String} {after : Array Edge} {guard : Option (Nat × Bool)} {t : TypeId} {n : Nat} {l : Array (Nat × Operand)} (h : wpList P ops Q (⟨dst, .buildSlice t n l, type, pos, after, guard⟩ :: rest) a w) : wpList P ops Q (⟨dst, .buildSlice t n l, type, pos, after, guard⟩ :: rest) a w := h
theorem at_app {dst : Option Tmp} {type : TypeId} {pos : String} {after : Array Edge} {guard : Option (Nat × Bool)} {s y : Operand} {t : Array TypeId} (h : wpList P ops Q (⟨dst, .call { callee := .builtin .append, args := #[s, y], argTypes := t }, type, pos, after, guard⟩ :: rest) a w) : wpList P ops Q (⟨dst, .call { callee := .builtin .append, args := #[s, y], argTypes := t }, type, pos, after, guard⟩ :: rest) a w := h
end
end Go.Proofs.Ytpejoaefnnbghaa
