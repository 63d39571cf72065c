/-
  Lemmas and walks of this claim (the texts Apt Hel Ap2 of the work; what no proof here uses is left out). No claim of their own.
-/
import Derived.Test.YtpbginihkhfdmaaMT9
import Derived.Laws.BytesString
import Derived.Test.YtpbginihkhfdmaaMT6
import Derived.Test.YtpbginihkhfdmaaMT5
set_option linter.all false
set_option linter.unusedSimpArgs false
set_option linter.unusedVariables false
namespace Go.Proofs.Ytpbginihkhfdmaa
open Go.RowKit
set_option linter.unusedVariables false

inductive Tl : List Blk → List Blk → List Blk → Prop
  | nil {Lo : List Blk} : Tl Lo Lo []
  | cons {L Lo L0 : List Blk} {p : Blk} : Tl L Lo L0 → Tl (p :: L) Lo (p :: L0)
theorem Tl.eq {L Lo L0 : List Blk} (h : Tl L Lo L0) : L = L0 ++ Lo := by
  induction h with
  | nil => rfl
  | cons _ ih => rw [ih]; rfl
section
variable {P : Program} {B : Nat} {w0 w w' : World} {L L' L0 Lo : List Blk} {F : World → Prop} {ops : Array Oper} {rest : List Oper} {o : Oper} {a : Act} {Q : Exit → Act → World → Prop}
theorem St.perm (K : St B w0 L F w) (h : L.Perm L') : St B w0 L' F w :=
  ⟨K.below, K.size, fun p hp => K.has p (h.mem_iff.2 hp), (h.map (·.1)).nodup_iff.1 K.nodup, fun w' h1 h2 => K.keep w' h1 fun b hb1 hb2 => h2 b hb1 fun hm => hb2 ((h.map (·.1)).mem_iff.2 hm)⟩
end
end Go.Proofs.Ytpbginihkhfdmaa
namespace Go.Proofs.Ytpbginihkhfdmaa
open Go.RowKit
set_option linter.unusedVariables false
def Qn (K : Act → World → Prop) : Exit → Act → World → Prop
  | .normal, a, w => K a w
  | _, _, _ => False
section
variable {P : Program} {ops : Array Oper} {o : Oper} {r : List (Bool × Oper)} {a : Act} {w : World} {S : World → Prop} {Q : Exit → Act → World → Prop} {K : Act → World → Prop}
theorem wp_of_list (hgd : Region.wanted o (yielded ops a.tmps) = true) (h : wpList P ops (Qn K) [o] a w) : o.wp P a w K Q := by
  unfold wpList at h
  rw [if_pos hgd] at h
  rcases h with h | ⟨_, _, _, h⟩
  · unfold Oper.wp at h ⊢
    generalize (execOp a.eval o).run P w = x at h ⊢
    unfold Oper.upon at h ⊢
    split at h <;> first | exact h | exact h.elim | skip
    refine h.mono fun e w' hh => ?_
    cases e
    · exact hh
    · exact hh.elim
    · obtain ⟨_, _, hh⟩ := hh
      exact hh.elim
  · exact h.elim
end
section
variable {B : Nat} {w0 w w' : World} {L L0 Lo : List Blk} {F : World → Prop}
theorem sl_take {w : World} {g m : Nat} {cur : Array Value} {t : TypeId} {xs : List Value} (h : Has w g cur t) (hx : cur.toList.take m = xs) (hm : m ≤ cur.size) : Sl w t (some ⟨g, 0, none⟩) m xs :=
  ⟨by rw [← hx, List.length_take]; simp; omega, fun _ => ⟨g, 0, cur, rfl, h, fun j u hu => by
    rw [← hx, List.getElem?_take] at hu
    split at hu
    · simpa using hu
    · cases hu⟩⟩
theorem St.madeRd (K : St B w0 L F w) (hb : Below w.heap.size w w') {A : Option Addr} {n : Nat} {xs : List Value} (h : Rd w' A n xs) (hA : Nw w.heap.size A) : St B w0 L (fun w => Rd w A n xs ∧ F w) w' := by
  have K' := K.step hb
  refine K'.add fun w'' h1 h2 => ⟨h.1, fun hn => ?_⟩
  obtain ⟨b, off, rfl, hb', hc⟩ := h.2 hn
  have hbn := hA b off _ rfl
  refine ⟨b, off, rfl, by omega, fun j u hu => ?_⟩
  have hm : b ∉ L.map (·.1) := fun hm => by
    obtain ⟨p, hp, e⟩ := List.mem_map.1 hm
    have := (K.has p hp).2.lt
    omega
  have := h2 b hb' hm
  rw [← hc j u hu]
  unfold World.cell?
  simp only [this]
end
end Go.Proofs.Ytpbginihkhfdmaa
namespace Go.Proofs.Ytpbginihkhfdmaa
open Go.RowKit
set_option linter.unusedVariables false
def OwnP (v : Value) (e : TypeId) (m : Nat) (xs : List Value) (Lo : List Blk) : Prop :=
  (v = .slice none 0 0 ∧ m = 0 ∧ xs = [] ∧ Lo = []) ∨
  ∃ (g cap : Nat) (cur : Array Value), v = .slice (some ⟨g, 0, none⟩) m cap ∧ xs.length = m * 2 ∧ m ≤ cap ∧ cap ≤ 9223372036854775807 ∧ cur.size = cap * 2 ∧ cur.toList.take (m * 2) = xs ∧ Lo = [(g, cur, e)]
theorem OwnP.nil (e : TypeId) : OwnP (.slice none 0 0) e 0 [] [] := .inl ⟨rfl, rfl, rfl, rfl⟩
section
variable {P : Program} {B : Nat} {w0 w w' : World} {L L' L0 Lo : List Blk} {F : World → Prop} {ops : Array Oper} {rest : List Oper} {o : Oper} {a : Act} {Q : Exit → Act → World → Prop}
theorem OwnP.val {v : Value} {e : TypeId} {m : Nat} {xs : List Value} (h : OwnP v e m xs Lo) : ∃ A c, v = .slice A m c := by
  rcases h with ⟨rfl, rfl, _⟩ | ⟨g, cap, cur, rfl, _⟩
  · exact ⟨none, 0, rfl⟩
  · exact ⟨_, cap, rfl⟩
theorem OwnP.fix (K : St B w0 (L0 ++ Lo) F w) {v : Value} {e : TypeId} {m : Nat} {xs : List Value} (h : OwnP v e m xs Lo) :
    ∃ A c, v = .slice A m c ∧ Nw B A ∧ St B w0 L0 (fun w => Rd w A (m * 2) xs ∧ F w) w := by
  rcases h with ⟨rfl, rfl, rfl, rfl⟩ | ⟨g, cap, cur, rfl, hx, h1, h2, h3, h4, rfl⟩
  · rw [List.append_nil] at K
    exact ⟨none, 0, rfl, (fun b off p e => by cases e), K.weak fun _ h => ⟨Rd.nil _ _, h⟩⟩
  · have K1 : St B w0 ((g, cur, e) :: L0) F w := K.perm List.perm_append_comm
    refine ⟨some ⟨g, 0, none⟩, cap, rfl, Nw.mk _ _ _ (K1.ge .hd), ?_⟩
    have hs : Sl w e (some ⟨g, 0, none⟩) (m * 2) xs := by
      have := sl_take (m := m * 2) (K1.get .hd) h4 (by omega)
      exact this
    exact K1.tail.add (fun w'' h1 h2 => (hs.stays K1.head_ids w'' h1 h2).rd)
theorem St.rowP (K : St B w0 L F w) (hb : Below w.heap.size w w') {e : TypeId} {v : Value} {n : Nat} {xs : List Value} (ho : w'.ownsRow w.heap.size e 2 v n xs) (hn : 0 < n) :
    ∃ (g cap : Nat) (cur : Array Value), v = .slice (some ⟨g, 0, none⟩) n cap ∧ n ≤ cap ∧ cap ≤ 9223372036854775807 ∧ cur.size = cap * 2 ∧ cur.toList.take (n * 2) = xs ∧ St B w0 ((g, cur, e) :: L) F w' := by
  rcases ho.2 with ⟨_, h⟩ | ⟨g, cap, cur, hv, hg, hh, h1, h2, h3, h4⟩
  · omega
  · have K' := K.step hb
    refine ⟨g, cap, cur, hv, h1, h2, h3, h4, K'.below, K'.size, fun p hp => ?_, ?_, fun w'' hs hk => K.keep w'' (Nat.le_trans hb.size hs) fun b hb1 hb2 => ?_⟩
    · rcases List.mem_cons.1 hp with rfl | hp
      · exact ⟨Nat.le_trans K.size hg, hh⟩
      · exact K'.has p hp
    · rw [List.map_cons, List.nodup_cons]
      refine ⟨fun hm => ?_, K.nodup⟩
      obtain ⟨p, hp, e⟩ := List.mem_map.1 hm
      have := (K.has p hp).2.lt
      simp only at e
      omega
    · refine (hk b (Nat.lt_of_lt_of_le hb1 hb.size) ?_).trans (hb.block b hb1)
      rw [List.map_cons, List.mem_cons]
      rintro (e | e)
      · simp only at e; omega
      · exact hb2 e
theorem wm_oneP (K : St B w0 L F w) (hgd : Region.wanted o (yielded ops a.tmps) = true) (t : TypeId) (x : Operand) (ho : o.op = .buildSlice t 1 #[(0, x)]) {e : TypeId} (hu : P.underlying t = some (.slice e)) {z : Value} {bs : Nat}
    (hi : (P.info? e).map (fun i => (i.zero, i.size, i.bytes)) = some (some z, 2, bs)) (hzc : z.cells.size = 2) {x0 x1 : Value} (hx : a.eval x = .agg #[x0, x1])
    (h : ∀ (b : Nat) (w' : World), St B w0 ((b, #[x0, x1], e) :: L) F w' → wpList P ops Q rest (a.put o.dst (.slice (some ⟨b, 0, none⟩) 1 1)) w') : wpList P ops Q (o :: rest) a w :=
  wl_wanted hgd fun K' hK => by
    obtain ⟨i, hi1, hz, hs, _⟩ := info_parts hi
    have hr := run_buildSlice (P := P) w t e 1 #[(0, Value.agg #[x0, x1])] #[x0, x1] i z hu hi1 hz (by rw [hs]; omega) (by rw [hs]; omega) (by
      rw [hs]
      simp [Instr.fill, Value.cells]
      apply Array.ext'
      simp [Array.toList_setIfInBounds, List.range_succ])
    unfold Oper.wp execOp
    simp [ho, hx, hr, Result.andThen_ok, Oper.upon]
    exact hK _ _ (h _ _ (K.alloc _ e))
theorem wm_appP {b : Nat} {x0 x1 : Value} {e : TypeId} {Lo : List Blk} (K : St B w0 ((b, #[x0, x1], e) :: L) F w) (ht : Tl L Lo L0) (hg : o.guard = none) (s y : Operand) (t : TypeId) (ho : o.op = .call { callee := .builtin .append, args := #[s, y], argTypes := #[t, t] })
    (hu : P.underlying t = some (.slice e)) {z : Value} {bs : Nat} (hi : (P.info? e).map (fun i => (i.zero, i.size, i.bytes)) = some (some z, 2, bs)) (hzc : z.cells.size = 2)
    {v : Value} (hs : a.eval s = v) {m : Nat} {xs : List Value} (hown : OwnP v e m xs Lo) (hy : a.eval y = .slice (some ⟨b, 0, none⟩) 1 1) (hx0 : x0.oneCell' = true) (hx1 : x1.oneCell' = true) (hb1 : (m + 1) * bs ≤ 140737488355328) (hb2 : m + 1 ≤ maxLen)
    (h : ∀ (v' : Value) (w' : World) (Lo' : List Blk), OwnP v' e (m + 1) (xs ++ [x0, x1]) Lo' → St B w0 (L0 ++ Lo') F w' → wpList P ops Q rest (a.put o.dst v') w') : wpList P ops Q (o :: rest) a w := by
  obtain ⟨i, hi1, hz, hsz, hby⟩ := info_parts hi
  have hL := ht.eq
  subst hL
  have K1 : St B w0 ((b, #[x0, x1], e) :: (Lo ++ L0)) F w := K.perm (List.Perm.cons _ List.perm_append_comm)
  have hcell : ∀ (j : Nat) (u : Value), [x0, x1][j]? = some u → w.cell? ((⟨b, 0, none⟩ : Addr).add j) = some u := fun j u hj => by
    rw [Addr.add_mid]
    refine (K1.get .hd).cell ?_
    rw [Nat.zero_add]
    simpa using hj
  have h1 : ∀ u ∈ [x0, x1], u.oneCell' = true := fun u hu => by
    rcases List.mem_cons.1 hu with rfl | hu
    · exact hx0
    · rw [List.mem_singleton.1 hu]; exact hx1
  rcases hown with ⟨rfl, rfl, rfl, rfl⟩ | ⟨g, cap, cur, rfl, hxl, hc1, hc2, hcs, hct, rfl⟩
  · refine wpList_append_grows w hg s y t ho e i z 2 bs hu hi1 hz hsz hby hzc (by decide) none 0 0 [] hs (fun _ => ⟨rfl, rfl⟩) rfl (fun _ h => by cases h) ⟨b, 0, none⟩ 1 1 [x0, x1] hy rfl hcell h1 (by omega) hb2 hb1 ?_
    intro v' w' ho hgr
    obtain ⟨g, cap, cur, rfl, hc1, hc2, hcs, hct, K'⟩ := K1.tail.rowP (grown_below hgr) ho (by omega)
    exact h _ w' _ (.inr ⟨g, cap, cur, rfl, rfl, hc1, hc2, hcs, hct, rfl⟩) (K'.perm (List.perm_append_comm (l₁ := [(g, cur, e)]) (l₂ := L0)))
  · rcases Nat.lt_or_ge cap (m + 1) with hlt | hge
    · refine wpList_append_grows w hg s y t ho e i z 2 bs hu hi1 hz hsz hby hzc (by decide) (some ⟨g, 0, none⟩) m cap xs hs (fun h => by cases h) hxl (fun ad had j u hj => ?_) ⟨b, 0, none⟩ 1 1 [x0, x1] hy rfl hcell h1 (by omega) hb2 hb1 ?_
      · injection had with had
        subst had
        rw [Addr.add_mid]
        refine (K1.get (.tl .hd)).cell ?_
        rw [← hct, List.getElem?_take] at hj
        split at hj
        · simpa using hj
        · cases hj
      · intro v' w' ho hgr
        obtain ⟨g', cap', cur', rfl, hc1', hc2', hcs', hct', K'⟩ := K1.tail.tail.rowP (grown_below hgr) ho (by omega)
        exact h _ w' _ (.inr ⟨g', cap', cur', rfl, by rw [List.length_append, hxl]; simp; omega, hc1', hc2', hcs', hct', rfl⟩) (K'.perm (List.perm_append_comm (l₁ := [(g', cur', e)]) (l₂ := L0)))
    · have hown : w.ownsRow 0 e 2 (.slice (some ⟨g, 0, none⟩) m cap) m xs := ⟨hxl, .inr ⟨g, cap, cur, rfl, Nat.zero_le _, K1.get (.tl .hd), hc1, hc2, hcs, hct⟩⟩
      refine wpList_append_fits w hg s y t ho 0 e i 2 hu hi1 hsz g m cap xs hs hown ⟨b, 0, none⟩ 1 1 [x0, x1] hy rfl hcell h1 hge ?_
      intro w' ho hgr
      have Kt := K1.tail
      rcases ho.2 with ⟨hn, _⟩ | ⟨g', cap', cur', hv, _, hh, h1', h2', h3', h4'⟩
      · cases hn
      · injection hv with hv1 hv2 hv3
        injection hv1 with hv1
        injection hv1 with hv1
        subst hv1 hv3
        have K' := Kt.grown hgr hh
        exact h _ w' _ (.inr ⟨g, cap, cur', rfl, by rw [List.length_append, hxl]; simp; omega, h1', h2', h3', h4', rfl⟩) (K'.perm (List.perm_append_comm (l₁ := [(g, cur', e)]) (l₂ := L0)))
end
end Go.Proofs.Ytpbginihkhfdmaa
