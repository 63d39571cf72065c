/-
  Lemmas and walks of this claim (the texts Apt Hel Tel In4 of the work; what no proof here uses is left out). No claim of their own.
-/
import Derived.Test.YtpejoaefnnbghaaPH9
import Derived.Laws.BytesString
import Derived.Test.YtpejoaefnnbghaaPH7
import Derived.Test.YtpejoaefnnbghaaPH5
set_option linter.all false
set_option linter.unusedSimpArgs false
set_option linter.unusedVariables false
namespace Go.Proofs.Ytpejoaefnnbghaa
open Go.RowKit
set_option linter.unusedVariables false

def OwnT (v : Value) (e : TypeId) (xs : List Value) (Lo : List Blk) : Prop :=
  (v = .slice none 0 0 ∧ xs = [] ∧ Lo = []) ∨
  ∃ (g cap : Nat) (cur : Array Value), v = .slice (some ⟨g, 0, none⟩) xs.length cap ∧ xs.length ≤ cap ∧ cap ≤ 9223372036854775807 ∧ cur.size = cap ∧ cur.toList.take xs.length = xs ∧ Lo = [(g, cur, e)]
theorem OwnT.nil (e : TypeId) : OwnT (.slice none 0 0) e [] [] := .inl ⟨rfl, rfl, rfl⟩
inductive Tl : List Blk → List Blk → List Blk → Prop
  | nil {Lo : List Blk} : Tl Lo Lo []
  | cons {L Lo L0 : List Blk} {p : Blk} : Tl L Lo L0 → Tl (p :: L) Lo (p :: L0)
theorem Tl.eq {L Lo L0 : List Blk} (h : Tl L Lo L0) : L = L0 ++ Lo := by
  induction h with
  | nil => rfl
  | cons _ ih => rw [ih]; rfl
section
variable {P : Program} {B : Nat} {w0 w w' : World} {L L' L0 Lo : List Blk} {F : World → Prop} {ops : Array Oper} {rest : List Oper} {o : Oper} {a : Act} {Q : Exit → Act → World → Prop}
theorem St.perm (K : St B w0 L F w) (h : L.Perm L') : St B w0 L' F w :=
  ⟨K.below, K.size, fun p hp => K.has p (h.mem_iff.2 hp), (h.map (·.1)).nodup_iff.1 K.nodup, fun w' h1 h2 => K.keep w' h1 fun b hb1 hb2 => h2 b hb1 fun hm => hb2 ((h.map (·.1)).mem_iff.2 hm)⟩
theorem wm_appT {b : Nat} {x : Value} {e : TypeId} (K : St B w0 ((b, #[x], e) :: L) F w) (ht : Tl L Lo L0) (hg : o.guard = none) (s y : Operand) (t : TypeId) (ho : o.op = .call { callee := .builtin .append, args := #[s, y], argTypes := #[t, t] })
    (hu : P.underlying t = some (.slice e)) {k : IntKind} {bs : Nat} (hi : (P.info? e).map (fun i => (i.zero, i.size, i.bytes)) = some (some (.int k 0), 1, bs))
    {v : Value} (hs : a.eval s = v) {xs : List Value} (hown : OwnT v e xs Lo) (hy : a.eval y = .slice (some ⟨b, 0, none⟩) 1 1) (hx : x.oneCell' = true) (hb1 : (xs.length + 1) * bs ≤ 140737488355328) (hb2 : xs.length + 1 ≤ maxLen)
    (h : ∀ (v' : Value) (w' : World) (Lo' : List Blk), OwnT v' e (xs ++ [x]) Lo' → St B w0 (L0 ++ Lo') F w' → wpList P ops Q rest (a.put o.dst v') w') : wpList P ops Q (o :: rest) a w := by
  have hL := ht.eq
  subst hL
  have K1 : St B w0 ((b, #[x], e) :: (Lo ++ L0)) F w := K.perm (List.Perm.cons _ List.perm_append_comm)
  have hO : Own v e xs L0 (Lo ++ L0) := by
    rcases hown with ⟨h1, h2, h3⟩ | ⟨g, cap, cur, h1, h2, h3, h4, h5, h6⟩
    · exact .inl ⟨h1, h2, by rw [h3]; rfl⟩
    · exact .inr ⟨g, cap, cur, h1, h2, h3, h4, h5, by rw [h6]; rfl⟩
  refine wm_app K1 hg s y t ho hu hi hs hO hy hx hb1 hb2 ?_
  intro v' w' L' hO' K'
  rcases hO' with ⟨h1, h2, h3⟩ | ⟨g, cap, cur, h1, h2, h3, h4, h5, h6⟩
  · exact h v' w' [] (.inl ⟨h1, h2, rfl⟩) (by rw [List.append_nil, ← h3]; exact K')
  · exact h v' w' [(g, cur, e)] (.inr ⟨g, cap, cur, h1, h2, h3, h4, h5, rfl⟩) (K'.perm (by rw [h6]; exact (List.perm_append_comm (l₁ := [(g, cur, e)]) (l₂ := L0))))
end
end Go.Proofs.Ytpejoaefnnbghaa
namespace Go.Proofs.Ytpejoaefnnbghaa
open Go.RowKit
set_option linter.unusedVariables false
def Qn (K : Act → World → Prop) : Exit → Act → World → Prop
  | .normal, a, w => K a w
  | _, _, _ => False
section
variable {P : Program} {ops : Array Oper} {o : Oper} {r : List (Bool × Oper)} {a : Act} {w : World} {S : World → Prop} {Q : Exit → Act → World → Prop} {K : Act → World → Prop}
theorem wp_of_list (hgd : Region.wanted o (yielded ops a.tmps) = true) (h : wpList P ops (Qn K) [o] a w) : o.wp P a w K Q := by
  unfold wpList at h
  rw [if_pos hgd] at h
  rcases h with h | ⟨_, _, _, h⟩
  · unfold Oper.wp at h ⊢
    generalize (execOp a.eval o).run P w = x at h ⊢
    unfold Oper.upon at h ⊢
    split at h <;> first | exact h | exact h.elim | skip
    refine h.mono fun e w' hh => ?_
    cases e
    · exact hh
    · exact hh.elim
    · obtain ⟨_, _, hh⟩ := hh
      exact hh.elim
  · exact h.elim
theorem wl_nil (h : K a w) : wpList P ops (Qn K) [] a w := h
end
section
variable {B : Nat} {w0 w w' : World} {L L0 Lo : List Blk} {F : World → Prop}
theorem sl_take {w : World} {g m : Nat} {cur : Array Value} {t : TypeId} {xs : List Value} (h : Has w g cur t) (hx : cur.toList.take m = xs) (hm : m ≤ cur.size) : Sl w t (some ⟨g, 0, none⟩) m xs :=
  ⟨by rw [← hx, List.length_take]; simp; omega, fun _ => ⟨g, 0, cur, rfl, h, fun j u hu => by
    rw [← hx, List.getElem?_take] at hu
    split at hu
    · simpa using hu
    · cases hu⟩⟩
theorem Own.fix (K : St B w0 L F w) {v : Value} {e : TypeId} {xs : List Value} (h : Own v e xs L0 L) :
    ∃ A c, v = .slice A xs.length c ∧ xs.length ≤ c ∧ c ≤ 9223372036854775807 ∧ Nw B A ∧ St B w0 L0 (fun w => Rd w A xs.length xs ∧ F w) w := by
  rcases h with ⟨rfl, rfl, rfl⟩ | ⟨g, cap, cur, rfl, h1, h2, h3, h4, rfl⟩
  · exact ⟨none, 0, rfl, Nat.le_refl _, by omega, (fun b off p e => by cases e), K.weak fun _ h => ⟨Rd.nil _ _, h⟩⟩
  · refine ⟨some ⟨g, 0, none⟩, cap, rfl, h1, h2, Nw.mk _ _ _ (K.ge .hd), ?_⟩
    have hs := sl_take (K.get .hd) h4 (by omega)
    exact K.tail.add (fun w'' h1 h2 => (hs.stays K.head_ids w'' h1 h2).rd)
theorem OwnT.own {v : Value} {e : TypeId} {xs : List Value} (h : OwnT v e xs Lo) : Own v e xs L0 (Lo ++ L0) := by
  rcases h with ⟨h1, h2, h3⟩ | ⟨g, cap, cur, h1, h2, h3, h4, h5, h6⟩
  · exact .inl ⟨h1, h2, by rw [h3]; rfl⟩
  · exact .inr ⟨g, cap, cur, h1, h2, h3, h4, h5, by rw [h6]; rfl⟩
theorem OwnT.val {v : Value} {e : TypeId} {xs : List Value} (h : OwnT v e xs Lo) : ∃ A m c, v = .slice A m c ∧ Hid (m = xs.length) := by
  rcases h with ⟨rfl, rfl, _⟩ | ⟨g, cap, cur, rfl, h1, h2, _⟩
  · exact ⟨none, 0, 0, rfl, Lib.hid rfl⟩
  · exact ⟨_, _, cap, rfl, Lib.hid rfl⟩
theorem OwnT.fix (K : St B w0 (L0 ++ Lo) F w) {v : Value} {e : TypeId} {xs : List Value} (h : OwnT v e xs Lo) :
    ∃ A c, v = .slice A xs.length c ∧ xs.length ≤ c ∧ c ≤ 9223372036854775807 ∧ Nw B A ∧ St B w0 L0 (fun w => Rd w A xs.length xs ∧ F w) w :=
  Own.fix (K.perm List.perm_append_comm) h.own
theorem St.madeRd (K : St B w0 L F w) (hb : Below w.heap.size w w') {A : Option Addr} {n : Nat} {xs : List Value} (h : Rd w' A n xs) (hA : Nw w.heap.size A) : St B w0 L (fun w => Rd w A n xs ∧ F w) w' := by
  have K' := K.step hb
  refine K'.add fun w'' h1 h2 => ⟨h.1, fun hn => ?_⟩
  obtain ⟨b, off, rfl, hb', hc⟩ := h.2 hn
  have hbn := hA b off _ rfl
  refine ⟨b, off, rfl, by omega, fun j u hu => ?_⟩
  have hm : b ∉ L.map (·.1) := fun hm => by
    obtain ⟨p, hp, e⟩ := List.mem_map.1 hm
    have := (K.has p hp).2.lt
    omega
  have := h2 b hb' hm
  rw [← hc j u hu]
  unfold World.cell?
  simp only [this]
end
end Go.Proofs.Ytpejoaefnnbghaa
namespace Go.Proofs.Ytpejoaefnnbghaa
open Go.RowKit
set_option linter.unusedVariables false
section
variable {P : Program} {ops : Array Oper} {o : Oper} {i : Nat} {t m : Tr} {a : Act} {w : World} {S : World → Prop} {Q : Exit → Act → World → Prop}
theorem tree_list (hgd : Region.wanted (opAt ops i) (yielded ops a.tmps) = true) (h : wpList P ops (Qn fun a w => S w ∧ wpTree P ops S Q t a w) [opAt ops i] a w) (h2 : wpTree P ops S Q m a w) : wpTree P ops S Q (.alt i t m) a w := by
  refine ⟨?_, h2⟩
  rw [if_pos hgd]
  exact wp_of_list hgd h
end
end Go.Proofs.Ytpejoaefnnbghaa
namespace Go.Proofs.Ytpejoaefnnbghaa
open Go.RowKit
set_option linter.unusedVariables false
section
variable {P : Program} {B : Nat} {w0 w w' : World} {L L' L0 : List Blk} {F : World → Prop} {ops : Array Oper} {rest : List Oper} {o : Oper} {a : Act} {Q : Exit → Act → World → Prop}
theorem St.frozenRd {b : Nat} {cs : Array Value} {t : TypeId} (K : St B w0 ((b, cs, t) :: L) F w) {n : Nat} {l : List Value} (hl : cs.toList = l) (hn : cs.size = n) : St B w0 L (fun w => Rd w (some ⟨b, 0, none⟩) n l ∧ F w) w := by
  subst hl hn
  exact K.tail.add (fun w'' h1 h2 => ((Sl.of_has (K.get .hd)).stays K.head_ids w'' h1 h2).rd)
theorem wm_ints4 (K : St B w0 L F w) (hgd : Region.wanted o (yielded ops a.tmps) = true) (t : TypeId) (n : Nat) (l : Array (Nat × Operand)) (ho : o.op = .buildSlice t n l) {e : TypeId} (hu : P.underlying t = some (.slice e)) {k : IntKind} {bs : Nat} (zs : List Int)
    (hi : (P.info? e).map (fun i => (i.zero, i.size, i.bytes)) = some (some (.int k 0), 1, bs)) (hv : l.toList.map (fun p => (p.1, a.eval p.2)) = zs.zipIdx.map (fun p => (p.2, Value.int k p.1))) (hn : n = zs.length) (hb : 0 < zs.length ∧ zs.length ≤ 4)
    (h : ∀ (b : Nat) (w' : World), St B w0 L (fun w => Rd w (some ⟨b, 0, none⟩) n (ints k zs) ∧ F w) w' → wpList P ops Q rest (a.put o.dst (.slice (some ⟨b, 0, none⟩) n n)) w') : wpList P ops Q (o :: rest) a w :=
  wl_wanted hgd fun K' hK => by
    obtain ⟨i, hi1, hz, hs1, _⟩ := info_parts hi
    subst hn
    have hv' : l.map (fun p => (p.1, a.eval p.2)) = (zs.zipIdx.map (fun p => (p.2, Value.int k p.1))).toArray := by apply Array.ext'; rw [Array.toList_map, hv]
    have hr := run_buildSlice (P := P) w t e zs.length (zs.zipIdx.map (fun p => (p.2, Value.int k p.1))).toArray (ints k zs).toArray i (.int k 0) hu hi1 hz (by rw [hs1]; omega) (by rw [hs1]; omega) (by
      rw [hs1]
      rcases zs with _ | ⟨x, _ | ⟨y, _ | ⟨z, _ | ⟨u, _ | ⟨v, r⟩⟩⟩⟩⟩
      · simp at hb
      · simp [Instr.fill, Value.cells, ints]; apply Array.ext'; simp [Array.toList_setIfInBounds, List.range_succ]
      · simp [Instr.fill, Value.cells, ints]; apply Array.ext'; simp [Array.toList_setIfInBounds, List.range_succ]
      · simp [Instr.fill, Value.cells, ints]; apply Array.ext'; simp [Array.toList_setIfInBounds, List.range_succ]
      · simp [Instr.fill, Value.cells, ints]; apply Array.ext'; simp [Array.toList_setIfInBounds, List.range_succ]
      · simp at hb)
    unfold Oper.wp execOp
    simp only [ho, hv']
    simp [hr, Result.andThen_ok, Oper.upon]
    exact hK _ _ (h _ _ ((K.alloc _ e).frozenRd (by simp) (by simp [ints])))
theorem at_bsl4 {dst : Option Tmp} {type : TypeId} {pos : String} {after : Array Edge} {guard : Option (Nat × Bool)} {t : TypeId} {n : Nat} {l : Array (Nat × Operand)} (h : wpList P ops Q (⟨dst, .buildSlice t n l, type, pos, after, guard⟩ :: rest) a w) : wpList P ops Q (⟨dst, .buildSlice t n l, type, pos, after, guard⟩ :: rest) a w := h
end
end Go.Proofs.Ytpejoaefnnbghaa
