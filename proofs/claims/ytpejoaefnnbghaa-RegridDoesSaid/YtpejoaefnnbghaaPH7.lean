/-
  Lemmas and walks of this claim (the texts Mem Held Ht Tree TreB TreC TreD of the work; what no proof here uses is left out). No claim of their own.
-/
import Derived.Test.YtpejoaefnnbghaaPH5
import Derived.Deep.QuietTactic
import Derived.StillTail
set_option linter.all false
set_option linter.unusedSimpArgs false
set_option linter.unusedVariables false
namespace Go.Proofs.Ytpejoaefnnbghaa
open Go.RowKit
set_option linter.unusedVariables false

abbrev Blk := Nat × Array Value × TypeId
inductive At : List Blk → Nat → Array Value → TypeId → Prop
  | hd {L : List Blk} {g : Nat} {cs : Array Value} {t : TypeId} : At ((g, cs, t) :: L) g cs t
  | tl {L : List Blk} {p : Blk} {g : Nat} {cs : Array Value} {t : TypeId} : At L g cs t → At (p :: L) g cs t
inductive Put : List Blk → Nat → Array Value → TypeId → Array Value → List Blk → Prop
  | hd {L : List Blk} {g : Nat} {cs new : Array Value} {t : TypeId} : Put ((g, cs, t) :: L) g cs t new ((g, new, t) :: L)
  | tl {L L' : List Blk} {p : Blk} {g : Nat} {cs new : Array Value} {t : TypeId} : Put L g cs t new L' → Put (p :: L) g cs t new (p :: L')

structure St (B : Nat) (w0 : World) (L : List Blk) (F : World → Prop) (w : World) : Prop where
  below : Below B w0 w
  size : B ≤ w.heap.size
  has : ∀ p ∈ L, B ≤ p.1 ∧ Has w p.1 p.2.1 p.2.2
  nodup : (L.map (·.1)).Nodup
  keep : ∀ w' : World, w.heap.size ≤ w'.heap.size → (∀ b, b < w.heap.size → b ∉ L.map (·.1) → w'.heap[b]? = w.heap[b]?) → F w'

def Any : World → Prop := fun _ => True

theorem At.mem {L : List Blk} {g : Nat} {cs : Array Value} {t : TypeId} (h : At L g cs t) : (g, cs, t) ∈ L := by
  induction h with
  | hd => simp
  | tl _ ih => exact List.mem_cons_of_mem _ ih
theorem Put.at {L L' : List Blk} {g : Nat} {cs new : Array Value} {t : TypeId} (h : Put L g cs t new L') : At L g cs t := by
  induction h with
  | hd => exact .hd
  | tl _ ih => exact .tl ih
theorem Put.ids {L L' : List Blk} {g : Nat} {cs new : Array Value} {t : TypeId} (h : Put L g cs t new L') : L'.map (·.1) = L.map (·.1) := by
  induction h with
  | hd => rfl
  | tl _ ih => simp [ih]
theorem Put.mem {L L' : List Blk} {g : Nat} {cs new : Array Value} {t : TypeId} (h : Put L g cs t new L') (hn : (L.map (·.1)).Nodup) : ∀ p ∈ L', p = (g, new, t) ∨ p ∈ L ∧ p.1 ≠ g := by
  induction h with
  | hd =>
    intro p hp
    simp only [List.map_cons, List.nodup_cons] at hn
    rcases List.mem_cons.1 hp with rfl | hp
    · exact .inl rfl
    · exact .inr ⟨List.mem_cons_of_mem _ hp, fun e => hn.1 (List.mem_map.2 ⟨p, hp, e⟩)⟩
  | tl h ih =>
    intro p hp
    simp only [List.map_cons, List.nodup_cons] at hn
    rcases List.mem_cons.1 hp with rfl | hp
    · exact .inr ⟨List.mem_cons_self, fun e => hn.1 (List.mem_map.2 ⟨_, h.at.mem, e.symm⟩)⟩
    · rcases ih hn.2 p hp with rfl | ⟨h1, h2⟩
      · exact .inl rfl
      · exact .inr ⟨List.mem_cons_of_mem _ h1, h2⟩

section
variable {B : Nat} {w0 w w' : World} {L L' : List Blk} {F G : World → Prop} {g : Nat} {cs new : Array Value} {t : TypeId}
theorem St.start (w : World) : St w.heap.size w [] Any w := ⟨Below.refl _ _, Nat.le_refl _, (fun _ h => by cases h), (by simp), fun _ _ _ => trivial⟩
theorem St.get (K : St B w0 L F w) (h : At L g cs t) : Has w g cs t := (K.has _ h.mem).2
theorem St.ge (K : St B w0 L F w) (h : At L g cs t) : B ≤ g := (K.has _ h.mem).1
theorem St.fact (K : St B w0 L F w) : F w := K.keep w (Nat.le_refl _) fun _ _ _ => rfl
theorem St.step (K : St B w0 L F w) (h : Below w.heap.size w w') : St B w0 L F w' :=
  ⟨below_step K.below h K.size, Nat.le_trans K.size h.size, fun p hp => ⟨(K.has p hp).1, (K.has p hp).2.below h⟩, K.nodup,
    fun w'' hs hb => K.keep w'' (Nat.le_trans h.size hs) fun b hb1 hb2 => (hb b (Nat.lt_of_lt_of_le hb1 h.size) hb2).trans (h.block b hb1)⟩
theorem St.drew (K : St B w0 L F w) : St B w0 L F w.drew := K.step (Below.refl _ _).drew
theorem St.alloc (K : St B w0 L F w) (cs : Array Value) (t : TypeId) : St B w0 ((w.heap.size, cs, t) :: L) F (w.alloc (.cells cs t)) := by
  have hb : Below w.heap.size w (w.alloc (.cells cs t)) := (Below.refl _ _).alloc (Nat.le_refl _) _
  refine ⟨below_step K.below hb K.size, Nat.le_trans K.size hb.size, fun p hp => ?_, ?_, fun w'' hs hk => K.keep w'' (Nat.le_trans hb.size hs) fun b h1 h2 => ?_⟩
  · rcases List.mem_cons.1 hp with rfl | hp
    · exact ⟨K.size, Has.new w cs t⟩
    · exact ⟨(K.has p hp).1, (K.has p hp).2.below hb⟩
  · rw [List.map_cons, List.nodup_cons]
    refine ⟨fun hm => ?_, K.nodup⟩
    obtain ⟨p, hp, e⟩ := List.mem_map.1 hm
    have := (K.has p hp).2.lt
    simp only at e
    omega
  · refine (hk b (Nat.lt_of_lt_of_le h1 hb.size) ?_).trans (hb.block b h1)
    rw [List.map_cons, List.mem_cons]
    rintro (e | e)
    · simp only at e; omega
    · exact h2 e
theorem St.write (K : St B w0 L F w) (hp : Put L g cs t new L') (hg : Has w' g new t) (hs : w'.heap.size = w.heap.size) (ho : ∀ b, b ≠ g → w'.heap[b]? = w.heap[b]?) (hw : Below B w w') : St B w0 L' F w' := by
  have ha := hp.at
  refine ⟨K.below.trans hw, by rw [hs]; exact K.size, fun p hm => ?_, by rw [hp.ids]; exact K.nodup, fun w'' hs' hk => K.keep w'' (by omega) fun b h1 h2 => ?_⟩
  · rcases hp.mem K.nodup p hm with rfl | ⟨h1, h2⟩
    · exact ⟨K.ge ha, hg⟩
    · exact ⟨(K.has p h1).1, (ho _ h2).trans (K.has p h1).2⟩
  · refine (hk b (by omega) (by rw [hp.ids]; exact h2)).trans (ho b ?_)
    rintro rfl
    exact h2 (List.mem_map.2 ⟨_, ha.mem, rfl⟩)
theorem St.setRow (K : St B w0 L F w) (hp : Put L g cs t new L') : St B w0 L' F (w.setRow g new) :=
  K.write hp ((K.get hp.at).row new) (size_setRow _ _ _) (fun b hb => setRow_other w g b new hb) (below_setRow (Below.refl _ _) (K.ge hp.at) new)
theorem St.setCell (K : St B w0 L F w) {i : Nat} {v : Value} (hp : Put L g cs t (cs.setIfInBounds i v) L') : St B w0 L' F (w.setCell ⟨g, i, none⟩ v) :=
  K.write hp ((K.get hp.at).set i v) (by simp [World.setCell]) (fun b hb => heap_setCell_other w _ b v hb) ((Below.refl _ _).setCell (K.ge hp.at) v)
theorem St.add (K : St B w0 L F w) (h : ∀ w' : World, w.heap.size ≤ w'.heap.size → (∀ b, b < w.heap.size → b ∉ L.map (·.1) → w'.heap[b]? = w.heap[b]?) → G w') : St B w0 L (fun w => G w ∧ F w) w :=
  ⟨K.below, K.size, K.has, K.nodup, fun w' h1 h2 => ⟨h w' h1 h2, K.keep w' h1 h2⟩⟩
theorem St.weak (K : St B w0 L F w) (h : ∀ w, F w → G w) : St B w0 L G w := ⟨K.below, K.size, K.has, K.nodup, fun w' h1 h2 => h _ (K.keep w' h1 h2)⟩
theorem St.tail {p : Blk} (K : St B w0 (p :: L) F w) : St B w0 L F w :=
  ⟨K.below, K.size, fun q hq => K.has q (List.mem_cons_of_mem _ hq), (List.nodup_cons.1 (by simpa using K.nodup)).2, fun w' h1 h2 => K.keep w' h1 fun b hb1 hb2 => h2 b hb1 fun hm => hb2 (by simp at hm ⊢; exact .inr hm)⟩
theorem Sl.stays {e : TypeId} {A : Option Addr} {n : Nat} {xs : List Value} (h : Sl w e A n xs) (hb : ∀ b off p, A = some ⟨b, off, p⟩ → b ∉ L.map (·.1)) :
    ∀ w' : World, w.heap.size ≤ w'.heap.size → (∀ b, b < w.heap.size → b ∉ L.map (·.1) → w'.heap[b]? = w.heap[b]?) → Sl w' e A n xs := fun w' hs hk =>
  ⟨h.1, fun hn => by
    obtain ⟨b, off, arr, rfl, hg, hc⟩ := h.2 hn
    exact ⟨b, off, arr, rfl, (hk b (Array.getElem?_eq_some_iff.1 hg).1 (hb b off _ rfl)).trans hg, hc⟩⟩
theorem St.head_ids {p : Blk} (K : St B w0 (p :: L) F w) : ∀ b off q, some (⟨p.1, 0, none⟩ : Addr) = some ⟨b, off, q⟩ → b ∉ L.map (·.1) := fun b off q e hm => by
  have := (List.nodup_cons.1 (show (p.1 :: L.map (·.1)).Nodup from K.nodup)).1
  injection e with e
  injection e with e
  subst e
  exact this hm
theorem St.row (K : St B w0 L F w) (hb : Below w.heap.size w w') {e : TypeId} {v : Value} {n : Nat} {xs : List Value} (ho : w'.ownsRow w.heap.size e 1 v n xs) (hn : 0 < n) :
    ∃ (g cap : Nat) (cur : Array Value), v = .slice (some ⟨g, 0, none⟩) n cap ∧ n ≤ cap ∧ cap ≤ 9223372036854775807 ∧ cur.size = cap ∧ cur.toList.take n = xs ∧ St B w0 ((g, cur, e) :: L) F w' := by
  rcases ho.2 with ⟨_, h⟩ | ⟨g, cap, cur, hv, hg, hh, h1, h2, h3, h4⟩
  · omega
  · have K' := K.step hb
    refine ⟨g, cap, cur, hv, h1, h2, by simpa using h3, by simpa using h4, K'.below, K'.size, fun p hp => ?_, ?_, fun w'' hs hk => K.keep w'' (Nat.le_trans hb.size hs) fun b hb1 hb2 => ?_⟩
    · rcases List.mem_cons.1 hp with rfl | hp
      · exact ⟨Nat.le_trans K.size hg, hh⟩
      · exact K'.has p hp
    · rw [List.map_cons, List.nodup_cons]
      refine ⟨fun hm => ?_, K.nodup⟩
      obtain ⟨p, hp, e⟩ := List.mem_map.1 hm
      have := (K.has p hp).2.lt
      simp only at e
      omega
    · refine (hk b (Nat.lt_of_lt_of_le hb1 hb.size) ?_).trans (hb.block b hb1)
      rw [List.map_cons, List.mem_cons]
      rintro (e | e)
      · simp only at e; omega
      · exact hb2 e
end

/-! The laws of one operation. -/
section
variable {P : Program} {B : Nat} {w0 w : World} {L L' : List Blk} {F : World → Prop} {ops : Array Oper} {rest : List Oper} {o : Oper} {a : Act} {Q : Exit → Act → World → Prop}
theorem wm_box (K : St B w0 L F w) (hgd : Region.wanted o (yielded ops a.tmps) = true) (ty : TypeId) (x : Operand) (ho : o.op = .box ty x) {v : Value} (hv : a.eval x = v) {cs : Array Value} (hc : v.cells = cs)
    (h : ∀ (b : Nat) (w' : World), St B w0 ((b, cs, ty) :: L) F w' → wpList P ops Q rest (a.put o.dst (.pointer (some ⟨b, 0, none⟩))) w') : wpList P ops Q (o :: rest) a w :=
  wl_wanted hgd fun K' hK => by
    subst hv hc
    unfold Oper.wp execOp
    simp only [ho, Instr.box, newVar, newRow, newObj, Sem.run_bind, Sem.run_pure]
    exact hK _ _ (h _ _ (K.alloc _ ty))
theorem wm_alloc (K : St B w0 L F w) (hgd : Region.wanted o (yielded ops a.tmps) = true) (ty : TypeId) (ho : o.op = .alloc ty) {v : Value} (hz : (P.info? ty).map (·.zero) = some (some v)) {cs : Array Value} (hc : v.cells = cs)
    (h : ∀ (b : Nat) (w' : World), St B w0 ((b, cs, ty) :: L) F w' → wpList P ops Q rest (a.put o.dst (.pointer (some ⟨b, 0, none⟩))) w') : wpList P ops Q (o :: rest) a w :=
  wl_wanted hgd fun K' hK => by
    subst hc
    have hz' : (zeroValue ty).run P w = .ok v w := by
      cases hq : P.info? ty with
      | none => simp [hq] at hz
      | some i =>
        have : i.zero = some v := by simpa [hq] using hz
        simp [zeroValue, typeInfo, hq, this]
    unfold Oper.wp execOp
    simp only [ho, Instr.alloc, newVar, newRow, newObj, Sem.run_bind, Sem.run_pure, Result.andThen_ok, hz']
    exact hK _ _ (h _ _ (K.alloc _ ty))
def RowTy (P : Program) (ty : TypeId) (n : Nat) : Prop := ∃ d, P.underlying ty = some d ∧ (match d with | .struct _ | .array _ _ => true | _ => false) = true ∧ (P.info? ty).map (·.size) = some n
def OneTy (P : Program) (ty : TypeId) : Prop := ∃ d, P.underlying ty = some d ∧ (match d with | .struct _ | .array _ _ => true | _ => false) = false ∧ (P.info? ty).map (·.size) = some 1
theorem wm_load (K : St B w0 L F w) (hgd : Region.wanted o (yielded ops a.tmps) = true) (ty : TypeId) (x : Operand) (ho : o.op = .load ty x) {g : Nat} (hx : a.eval x = .pointer (some ⟨g, 0, none⟩)) {cs : Array Value} {t : TypeId} (ha : At L g cs t)
    {n : Nat} (hu : RowTy P ty n) (hn : cs.size = n)
    (h : wpList P ops Q rest (a.put o.dst (.agg cs)) w) : wpList P ops Q (o :: rest) a w := by
  obtain ⟨d, h1, h2, h3⟩ := hu
  exact wl_load hgd ty x ho g hx (K.get ha) h1 (by cases d <;> simp_all) h3 hn h
theorem run_load_cell {ty : TypeId} (hu : OneTy P ty) {p : Addr} {v : Value} (hv : w.cell? p = some v) : (Instr.loadAt ty (.pointer (some p))).run P w = .ok v w := by
  obtain ⟨d, h1, h2, _⟩ := hu
  have hagg : (isAgg ty).run P w = .ok false w := by
    unfold isAgg
    rw [Sem.run_bind, run_underlying h1 w]
    cases d <;> simp_all
  simp [Instr.loadAt, Instr.sureAddr, loadVar, Sem.run_bind, hagg, run_load, hv]
theorem wm_cell (hgd : Region.wanted o (yielded ops a.tmps) = true) (ty : TypeId) (x : Operand) (ho : o.op = .load ty x) {p : Addr} (hx : a.eval x = .pointer (some p)) {v : Value} (hv : w.cell? p = some v) (hu : OneTy P ty)
    (h : wpList P ops Q rest (a.put o.dst v) w) : wpList P ops Q (o :: rest) a w :=
  wl_wanted hgd fun K' hK => by
    unfold Oper.wp execOp
    simp only [ho, hx, Sem.run_bind, run_load_cell hu hv, Sem.run_pure, Result.andThen_ok]
    exact hK _ _ h
theorem wm_own (K : St B w0 L F w) (hgd : Region.wanted o (yielded ops a.tmps) = true) (ty : TypeId) (x : Operand) (ho : o.op = .load ty x) {g off : Nat} (hx : a.eval x = .pointer (some ⟨g, off, none⟩)) {cs : Array Value} {t : TypeId} (ha : At L g cs t)
    {v : Value} (hv : cs[off]? = some v) (hu : OneTy P ty) (h : wpList P ops Q rest (a.put o.dst v) w) : wpList P ops Q (o :: rest) a w :=
  wm_cell hgd ty x ho hx ((K.get ha).cell hv) hu h
theorem wm_store (K : St B w0 L F w) (hgd : Region.wanted o (yielded ops a.tmps) = true) (ty : TypeId) (x y : Operand) (ho : o.op = .store ty x y) (hdst : o.dst = none) {g : Nat} (hx : a.eval x = .pointer (some ⟨g, 0, none⟩)) {new : Array Value} (hy : a.eval y = .agg new)
    {cs : Array Value} {t : TypeId} (hp : Put L g cs t new L') {n : Nat} (hu : RowTy P ty n) (hn : new.size = n) (hold : cs.size = n) (h1 : Ones new)
    (h : ∀ w' : World, St B w0 L' F w' → wpList P ops Q rest a w') : wpList P ops Q (o :: rest) a w := by
  obtain ⟨d, _, _, h3⟩ := hu
  exact wl_store hgd ty x y ho g new hx hy (K.get hp.at) h3 hn hold h1 hdst (h _ (K.setRow hp))
theorem run_store_cell {ty : TypeId} (hu : OneTy P ty) {p : Addr} {v u : Value} (hv : w.cell? p = some u) (hf : w.frozen? p = false) (h1 : v.oneCell' = true) (hc : v.cells = #[v]) :
    (Instr.storeAt ty (.pointer (some p)) v).run P w = .ok () (w.setCell p v) := by
  obtain ⟨d, _, _, h3⟩ := hu
  cases hq : P.info? ty with
  | none => simp [hq] at h3
  | some i =>
    have hs : i.size = 1 := by simpa [hq] using h3
    have ha : p.add 0 = p := by cases p; unfold Addr.add; split <;> simp_all
    simp [Instr.storeAt, Instr.sureAddr, storeVar, sizeOf, typeInfo, hq, hs, hc, storeCells, run_store P w p v _ h1, hv, hf, ha]
theorem wm_put (K : St B w0 L F w) (hgd : Region.wanted o (yielded ops a.tmps) = true) (ty : TypeId) (x y : Operand) (ho : o.op = .store ty x y) (hdst : o.dst = none) {g off : Nat} (hx : a.eval x = .pointer (some ⟨g, off, none⟩)) {v : Value} (hy : a.eval y = v)
    {cs new : Array Value} {t : TypeId} (hp : Put L g cs t new L') (hs : off < cs.size) (hnew : cs.setIfInBounds off v = new) (hu : OneTy P ty) (h1 : v.oneCell' = true) (hc : v.cells = #[v])
    (h : ∀ w' : World, St B w0 L' F w' → wpList P ops Q rest a w') : wpList P ops Q (o :: rest) a w :=
  wl_wanted hgd fun K' hK => by
    subst hnew
    have hcell := (K.get hp.at).cell (Array.getElem?_eq_getElem (i := off) hs)
    unfold Oper.wp execOp
    simp only [ho, hx, hy, Sem.run_bind, run_store_cell hu hcell ((K.get hp.at).free off) h1 hc, Sem.run_pure, Result.andThen_ok, Oper.upon, hdst]
    exact hK _ _ (h _ (K.setCell hp))
end

/-! Regions that draw their order, over the class of the worlds that one such fact is true of. -/
section
variable {P : Program} {B : Nat} {w0 w : World} {L L' : List Blk} {F : World → Prop} {ops : Array Oper} {rest : List Oper} {o : Oper} {a : Act} {Q : Exit → Act → World → Prop} {C : World → Prop} {R : Act → Prop}
theorem St.res (K : St B w0 L F w) {fn : Func} {p : Tmp} {ty : TypeId} (h : fn.results = #[.cell p ty]) (tmps : Array Value) {g : Nat} {cs : Array Value} {t : TypeId} (hp : tmps.getD p undef = .pointer (some ⟨g, 0, none⟩)) (ha : At L g cs t)
    {n : Nat} (hu : RowTy P ty n) (hn : cs.size = n) : (results fn tmps).run P w = .ok (.agg cs) w := by
  obtain ⟨d, h1, h2, h3⟩ := hu
  exact results_has h tmps hp (K.get ha) h1 (by cases d <;> simp_all) h3 hn
theorem St.res2 (K : St B w0 L F w) {fn : Func} {p q : Tmp} {ty : TypeId} (h : fn.results = #[.cell p ty, .tmp q]) (tmps : Array Value) {g : Nat} {cs : Array Value} {t : TypeId} (hp : tmps.getD p undef = .pointer (some ⟨g, 0, none⟩)) (ha : At L g cs t)
    {n : Nat} (hu : RowTy P ty n) (hn : cs.size = n) {v : Value} (hq : tmps.getD q undef = v) : (results fn tmps).run P w = .ok (.tuple #[.agg cs, v]) w := by
  obtain ⟨d, h1, h2, h3⟩ := hu
  subst hq
  exact results_has2 h tmps hp (K.get ha) h1 (by cases d <;> simp_all) h3 hn
end

/-! Guards, which do nothing, and fail at once where another operation stands. -/
section
variable {P : Program} {w : World} {ops : Array Oper} {rest : List Oper} {a : Act} {Q : Exit → Act → World → Prop} {C : World → Prop} {R : Act → Prop} {dst : Option Tmp} {type : TypeId} {pos : String} {after : Array Edge} {guard : Option (Nat × Bool)} {ty : TypeId} {x y : Operand}
theorem at_load (h : wpList P ops Q (⟨dst, .load ty x, type, pos, after, guard⟩ :: rest) a w) : wpList P ops Q (⟨dst, .load ty x, type, pos, after, guard⟩ :: rest) a w := h
theorem at_store (h : wpList P ops Q (⟨dst, .store ty x y, type, pos, after, guard⟩ :: rest) a w) : wpList P ops Q (⟨dst, .store ty x y, type, pos, after, guard⟩ :: rest) a w := h
theorem at_box (h : wpList P ops Q (⟨dst, .box ty x, type, pos, after, guard⟩ :: rest) a w) : wpList P ops Q (⟨dst, .box ty x, type, pos, after, guard⟩ :: rest) a w := h
theorem at_alloc (h : wpList P ops Q (⟨dst, .alloc ty, type, pos, after, guard⟩ :: rest) a w) : wpList P ops Q (⟨dst, .alloc ty, type, pos, after, guard⟩ :: rest) a w := h
theorem at_makeSl (h : wpList P ops Q (⟨dst, .makeSlice ty x y, type, pos, after, guard⟩ :: rest) a w) : wpList P ops Q (⟨dst, .makeSlice ty x y, type, pos, after, guard⟩ :: rest) a w := h
end
section
variable {P : Program} {B : Nat} {w0 w : World} {L L' : List Blk} {F : World → Prop} {ops : Array Oper} {rest : List Oper} {o : Oper} {a : Act} {Q : Exit → Act → World → Prop}
theorem wm_make (K : St B w0 L F w) (hgd : Region.wanted o (yielded ops a.tmps) = true) (l c : Operand) (t : TypeId) (ho : o.op = .makeSlice t l c) {e : TypeId} (ht : P.underlying t = some (.slice e)) {k : IntKind} {bs : Nat}
    (hi : (P.info? e).map (fun i => (i.zero, i.size, i.bytes)) = some (some (.int k 0), 1, bs)) (n : Nat) {kl kc : IntKind} {N C : Int} (hl : a.eval l = .int kl N) (hc : a.eval c = .int kc C) (hL : N = (n : Int)) (hC : C = (n : Int)) (hb : bs * n ≤ 281474976710656) (hn : n ≤ 4611686018427387904)
    (h : ∀ (b : Nat) (w' : World), St B w0 ((b, (nums k (List.replicate n 0)).toArray, e) :: L) F w' → wpList P ops Q rest (a.put o.dst (.slice (some ⟨b, 0, none⟩) n n)) w') : wpList P ops Q (o :: rest) a w :=
  wl_make hgd l c t ho e ht hi n hl hc hL hC hb hn (h _ _ (K.alloc _ e))
end
end Go.Proofs.Ytpejoaefnnbghaa
namespace Go.Proofs.Ytpejoaefnnbghaa
open Go.RowKit
set_option linter.unusedVariables false

section
variable {P : Program} {ops : Array Oper} {md : Region.Mode} {S : World → Prop} {Q : Exit → Act → World → Prop}
def orderB (md : Region.Mode) (ops : Array Oper) : List (Bool × Nat) → Array Bool → Bool
  | [], d => (Region.ready md ops d).isEmpty
  | (true, i) :: r, d => (Region.ready md ops d).contains i && Region.free md ops d i && orderB md ops r (d.setIfInBounds i true)
  | (false, i) :: r, d => decide (Region.ready md ops d = [i]) && orderB md ops r (d.setIfInBounds i true)
def pick (ops : Array Oper) : List (Bool × Nat) → List (Bool × Oper)
  | [] => []
  | (b, i) :: r => match ops[i]? with
    | some o => (b, o) :: pick ops r
    | none => pick ops r
def wpHeld (P : Program) (ops : Array Oper) (S : World → Prop) (Q : Exit → Act → World → Prop) : List (Bool × Oper) → Act → World → Prop
  | [], a, w => Q .normal a w
  | (true, o) :: r, a, w => if Region.wanted o (yielded ops a.tmps) then ∃ v, (∀ w', S w' → (match (execOp a.eval o).run P w' with | .ok (.value u) w'' => w'' = w' ∧ u = v | _ => False)) ∧ wpHeld P ops S Q r (a.put o.dst v) w else wpHeld P ops S Q r (a.put o.dst undef) w
  | (false, o) :: r, a, w => if Region.wanted o (yielded ops a.tmps) then o.wp P a w (fun a' w' => S w' ∧ wpHeld P ops S Q r a' w') Q else S w ∧ wpHeld P ops S Q r (a.put o.dst undef) w

theorem wpHeld_any (hs : Region.noSelect ops = true) (hQ : ∀ (c : List PanicEntry) a d v w, Q (.panic c) (Act.put a d v) w → Q (.panic c) a w) : ∀ (ord : List (Bool × Nat)) (d : Array Bool) (a : Act) (w : World), orderB md ops ord d = true → S w →
    wpHeld P ops S Q (pick ops ord) a w → wpAnyH P md ops Q S ord.length d a w
  | [], d, a, w, hB, hS, h => wpAnyH_done (by simpa [orderB] using hB) h 0
  | (true, i) :: r, d, a, w, hB, hS, h => by
    simp only [orderB, Bool.and_eq_true] at hB
    have hr : i ∈ Region.ready md ops d := by simpa using hB.1.1
    obtain ⟨_, o, ho, _⟩ := mem_ready.1 hr
    simp only [pick, ho, wpHeld] at h
    by_cases hw : Region.wanted o (yielded ops a.tmps) = true
    · rw [if_pos hw] at h
      obtain ⟨v, hv, h⟩ := h
      refine wpAnyH_take ho hs hB.1.2 hB.1.1 (fun c a w => hQ c a o.dst v w) (.inl ⟨hw, fun w' hw' => ?_⟩) hS (wpHeld_any hs hQ r _ _ _ hB.2 hS h)
      have := hv w' hw'
      generalize (execOp a.eval o).run P w' = z at this
      rcases z with ⟨n, w''⟩ | _
      · cases n <;> simp only at this
        obtain ⟨rfl, rfl⟩ := this
        rfl
      · exact this.elim
    · rw [if_neg hw] at h
      exact wpAnyH_take ho hs hB.1.2 hB.1.1 (fun c a w => hQ c a o.dst undef w) (.inr ⟨by simpa using hw, rfl⟩) hS (wpHeld_any hs hQ r _ _ _ hB.2 hS h)
  | (false, i) :: r, d, a, w, hB, hS, h => by
    simp only [orderB, Bool.and_eq_true, decide_eq_true_eq] at hB
    have hr : i ∈ Region.ready md ops d := by rw [hB.1]; simp
    obtain ⟨_, o, ho, _⟩ := mem_ready.1 hr
    simp only [pick, ho, wpHeld] at h
    refine wpAnyH_all hB.1 (by simp) fun j hj => ?_
    simp only [List.mem_singleton] at hj
    subst hj
    unfold wpOp
    simp only [ho]
    by_cases hw : Region.wanted o (yielded ops a.tmps) = true
    · rw [if_pos hw] at h ⊢
      exact .inl (Oper.wp_mono (fun a' w' h' => ⟨h'.1, wpHeld_any hs hQ r _ _ _ hB.2 h'.1 h'.2⟩) h)
    · rw [if_neg hw] at h ⊢
      exact ⟨h.1, wpHeld_any hs hQ r _ _ _ hB.2 h.1 h.2⟩

def NoP (Q : Exit → Act → World → Prop) : Exit → Act → World → Prop
  | .panic _, _, _ => False
  | e, a, w => Q e a w
theorem NoP.imp {Q : Exit → Act → World → Prop} : ∀ (e : Exit) (a : Act) (w : World), NoP Q e a w → Q e a w := fun e a w h => by
  cases e <;> first | exact h | exact (h : False).elim
theorem wp_held {id : Nat} {os : List Oper} {a : Act} {w : World} (ord : List (Bool × Nat)) (hm : P.follows .mixedOrders = true) (hB : (Region.noSelect os.toArray && decide (ord.length = os.length) && orderB .any os.toArray ord (Array.replicate os.length false)) = true)
    (hS : S w.drew) (h : wpHeld P os.toArray S (NoP Q) (pick os.toArray ord) a w.drew) : (Code.region id os.toArray true).wp P Q a w := by
  simp only [Bool.and_eq_true, decide_eq_true_eq] at hB
  refine Code.wp_mono NoP.imp (wp_region_held (S := S) (Q := NoP Q) hm ?_)
  have := wpHeld_any (Q := NoP Q) hB.1.1 (fun _ _ _ _ _ h => h) ord _ a w.drew hB.2 hS h
  rw [hB.1.2] at this
  simpa using this

variable {r : List (Bool × Oper)} {o : Oper} {a : Act} {w : World}
theorem held_nil (h : Q .normal a w) : wpHeld P ops S (NoP Q) [] a w := h
theorem held_take (h : ∀ K : Act → Prop, (∀ a, wpHeld P ops S Q r a w → K a) →
    if Region.wanted o (yielded ops a.tmps) then ∃ v, (∀ w', S w' → (match (execOp a.eval o).run P w' with | .ok (.value u) w'' => w'' = w' ∧ u = v | _ => False)) ∧ K (a.put o.dst v) else K (a.put o.dst undef)) : wpHeld P ops S Q ((true, o) :: r) a w := by
  have := h (fun a => wpHeld P ops S Q r a w) (fun _ h => h)
  exact this
theorem held_do (h : ∀ K : Act → World → Prop, (∀ a w, S w → wpHeld P ops S Q r a w → K a w) →
    if Region.wanted o (yielded ops a.tmps) then o.wp P a w K Q else K (a.put o.dst undef) w) : wpHeld P ops S Q ((false, o) :: r) a w := by
  have := h (fun a w => S w ∧ wpHeld P ops S Q r a w) (fun _ _ h1 h2 => ⟨h1, h2⟩)
  exact this
theorem held_val (hgd : Region.wanted o (yielded ops a.tmps) = true) (v : Value) (hv : ∀ w', S w' → (execOp a.eval o).run P w' = .ok (.value v) w') (h : wpHeld P ops S Q r (a.put o.dst v) w) : wpHeld P ops S Q ((true, o) :: r) a w := by
  unfold wpHeld
  rw [if_pos hgd]
  exact ⟨v, fun w' hw' => by rw [hv w' hw']; exact ⟨rfl, rfl⟩, h⟩
end
theorem sbk1 {q p : Blk} {r : List Blk} : List.Sublist (q :: r) (q :: p :: r) := (List.Sublist.cons_cons _ (List.Sublist.cons _ (List.Sublist.refl _)))
theorem sbk2 {q q1 p : Blk} {r : List Blk} : List.Sublist (q :: q1 :: r) (q :: q1 :: p :: r) := (List.Sublist.cons_cons _ (List.Sublist.cons_cons _ (List.Sublist.cons _ (List.Sublist.refl _))))
theorem sbc1 {p : Blk} {r : List Blk} : List.Sublist r (p :: r) := (List.Sublist.cons _ (List.Sublist.refl _))
theorem sbc2 {p p1 : Blk} {r : List Blk} : List.Sublist r (p :: p1 :: r) := (List.Sublist.cons _ (List.Sublist.cons _ (List.Sublist.refl _)))
theorem wk1 {A F : World → Prop} : ∀ w, A w ∧ F w → F w := fun _ h => h.2
theorem wk2 {A A2 F : World → Prop} : ∀ w, A w ∧ A2 w ∧ F w → F w := fun _ h => h.2.2
theorem wk3 {A A2 A3 F : World → Prop} : ∀ w, A w ∧ A2 w ∧ A3 w ∧ F w → F w := fun _ h => h.2.2.2
theorem wk4 {A A2 A3 A4 F : World → Prop} : ∀ w, A w ∧ A2 w ∧ A3 w ∧ A4 w ∧ F w → F w := fun _ h => h.2.2.2.2
theorem wk5 {A A2 A3 A4 A5 F : World → Prop} : ∀ w, A w ∧ A2 w ∧ A3 w ∧ A4 w ∧ A5 w ∧ F w → F w := fun _ h => h.2.2.2.2.2
theorem wk6 {A A2 A3 A4 A5 A6 F : World → Prop} : ∀ w, A w ∧ A2 w ∧ A3 w ∧ A4 w ∧ A5 w ∧ A6 w ∧ F w → F w := fun _ h => h.2.2.2.2.2.2
theorem wk7 {A A2 A3 A4 A5 A6 A7 F : World → Prop} : ∀ w, A w ∧ A2 w ∧ A3 w ∧ A4 w ∧ A5 w ∧ A6 w ∧ A7 w ∧ F w → F w := fun _ h => h.2.2.2.2.2.2.2
theorem sbr {L : List Blk} : L.Sublist L := List.Sublist.refl _
theorem sbz {L : List Blk} : List.Sublist [] L := List.nil_sublist _
/-! Which blocks stay: the first ones dropped, the next ones kept, the rest dropped. -/
theorem sb1s {q0 : Blk} {r : List Blk} : List.Sublist [q0] (q0 :: r) := (List.Sublist.cons_cons _ (List.nil_sublist _))
theorem sb2s {q0 q1 : Blk} {r : List Blk} : List.Sublist [q0, q1] (q0 :: q1 :: r) := (List.Sublist.cons_cons _ (List.Sublist.cons_cons _ (List.nil_sublist _)))
theorem sb3s {q0 q1 q2 : Blk} {r : List Blk} : List.Sublist [q0, q1, q2] (q0 :: q1 :: q2 :: r) := (List.Sublist.cons_cons _ (List.Sublist.cons_cons _ (List.Sublist.cons_cons _ (List.nil_sublist _))))
theorem sb4s {q0 q1 q2 q3 : Blk} {r : List Blk} : List.Sublist [q0, q1, q2, q3] (q0 :: q1 :: q2 :: q3 :: r) := (List.Sublist.cons_cons _ (List.Sublist.cons_cons _ (List.Sublist.cons_cons _ (List.Sublist.cons_cons _ (List.nil_sublist _)))))
theorem sb5s {q0 q1 q2 q3 q4 : Blk} {r : List Blk} : List.Sublist [q0, q1, q2, q3, q4] (q0 :: q1 :: q2 :: q3 :: q4 :: r) := (List.Sublist.cons_cons _ (List.Sublist.cons_cons _ (List.Sublist.cons_cons _ (List.Sublist.cons_cons _ (List.Sublist.cons_cons _ (List.nil_sublist _))))))
theorem sb6s {q0 q1 q2 q3 q4 q5 : Blk} {r : List Blk} : List.Sublist [q0, q1, q2, q3, q4, q5] (q0 :: q1 :: q2 :: q3 :: q4 :: q5 :: r) := (List.Sublist.cons_cons _ (List.Sublist.cons_cons _ (List.Sublist.cons_cons _ (List.Sublist.cons_cons _ (List.Sublist.cons_cons _ (List.Sublist.cons_cons _ (List.nil_sublist _)))))))
theorem sb7s {q0 q1 q2 q3 q4 q5 q6 : Blk} {r : List Blk} : List.Sublist [q0, q1, q2, q3, q4, q5, q6] (q0 :: q1 :: q2 :: q3 :: q4 :: q5 :: q6 :: r) := (List.Sublist.cons_cons _ (List.Sublist.cons_cons _ (List.Sublist.cons_cons _ (List.Sublist.cons_cons _ (List.Sublist.cons_cons _ (List.Sublist.cons_cons _ (List.Sublist.cons_cons _ (List.nil_sublist _))))))))
theorem sb8s {q0 q1 q2 q3 q4 q5 q6 q7 : Blk} {r : List Blk} : List.Sublist [q0, q1, q2, q3, q4, q5, q6, q7] (q0 :: q1 :: q2 :: q3 :: q4 :: q5 :: q6 :: q7 :: r) := (List.Sublist.cons_cons _ (List.Sublist.cons_cons _ (List.Sublist.cons_cons _ (List.Sublist.cons_cons _ (List.Sublist.cons_cons _ (List.Sublist.cons_cons _ (List.Sublist.cons_cons _ (List.Sublist.cons_cons _ (List.nil_sublist _)))))))))
theorem sbd1k1 {p0 q0 : Blk} {r : List Blk} : List.Sublist [q0] (p0 :: q0 :: r) := (List.Sublist.cons _ (List.Sublist.cons_cons _ (List.nil_sublist _)))
theorem sbd1k2 {p0 q0 q1 : Blk} {r : List Blk} : List.Sublist [q0, q1] (p0 :: q0 :: q1 :: r) := (List.Sublist.cons _ (List.Sublist.cons_cons _ (List.Sublist.cons_cons _ (List.nil_sublist _))))
theorem sbd1k3 {p0 q0 q1 q2 : Blk} {r : List Blk} : List.Sublist [q0, q1, q2] (p0 :: q0 :: q1 :: q2 :: r) := (List.Sublist.cons _ (List.Sublist.cons_cons _ (List.Sublist.cons_cons _ (List.Sublist.cons_cons _ (List.nil_sublist _)))))
theorem sbd1k4 {p0 q0 q1 q2 q3 : Blk} {r : List Blk} : List.Sublist [q0, q1, q2, q3] (p0 :: q0 :: q1 :: q2 :: q3 :: r) := (List.Sublist.cons _ (List.Sublist.cons_cons _ (List.Sublist.cons_cons _ (List.Sublist.cons_cons _ (List.Sublist.cons_cons _ (List.nil_sublist _))))))
theorem sbd1k5 {p0 q0 q1 q2 q3 q4 : Blk} {r : List Blk} : List.Sublist [q0, q1, q2, q3, q4] (p0 :: q0 :: q1 :: q2 :: q3 :: q4 :: r) := (List.Sublist.cons _ (List.Sublist.cons_cons _ (List.Sublist.cons_cons _ (List.Sublist.cons_cons _ (List.Sublist.cons_cons _ (List.Sublist.cons_cons _ (List.nil_sublist _)))))))
theorem sbd2k1 {p0 p1 q0 : Blk} {r : List Blk} : List.Sublist [q0] (p0 :: p1 :: q0 :: r) := (List.Sublist.cons _ (List.Sublist.cons _ (List.Sublist.cons_cons _ (List.nil_sublist _))))
theorem sbd2k2 {p0 p1 q0 q1 : Blk} {r : List Blk} : List.Sublist [q0, q1] (p0 :: p1 :: q0 :: q1 :: r) := (List.Sublist.cons _ (List.Sublist.cons _ (List.Sublist.cons_cons _ (List.Sublist.cons_cons _ (List.nil_sublist _)))))
theorem sbd2k3 {p0 p1 q0 q1 q2 : Blk} {r : List Blk} : List.Sublist [q0, q1, q2] (p0 :: p1 :: q0 :: q1 :: q2 :: r) := (List.Sublist.cons _ (List.Sublist.cons _ (List.Sublist.cons_cons _ (List.Sublist.cons_cons _ (List.Sublist.cons_cons _ (List.nil_sublist _))))))
theorem sbd2k4 {p0 p1 q0 q1 q2 q3 : Blk} {r : List Blk} : List.Sublist [q0, q1, q2, q3] (p0 :: p1 :: q0 :: q1 :: q2 :: q3 :: r) := (List.Sublist.cons _ (List.Sublist.cons _ (List.Sublist.cons_cons _ (List.Sublist.cons_cons _ (List.Sublist.cons_cons _ (List.Sublist.cons_cons _ (List.nil_sublist _)))))))
theorem sbd2k5 {p0 p1 q0 q1 q2 q3 q4 : Blk} {r : List Blk} : List.Sublist [q0, q1, q2, q3, q4] (p0 :: p1 :: q0 :: q1 :: q2 :: q3 :: q4 :: r) := (List.Sublist.cons _ (List.Sublist.cons _ (List.Sublist.cons_cons _ (List.Sublist.cons_cons _ (List.Sublist.cons_cons _ (List.Sublist.cons_cons _ (List.Sublist.cons_cons _ (List.nil_sublist _))))))))
theorem sbd3k1 {p0 p1 p2 q0 : Blk} {r : List Blk} : List.Sublist [q0] (p0 :: p1 :: p2 :: q0 :: r) := (List.Sublist.cons _ (List.Sublist.cons _ (List.Sublist.cons _ (List.Sublist.cons_cons _ (List.nil_sublist _)))))
theorem sbd3k2 {p0 p1 p2 q0 q1 : Blk} {r : List Blk} : List.Sublist [q0, q1] (p0 :: p1 :: p2 :: q0 :: q1 :: r) := (List.Sublist.cons _ (List.Sublist.cons _ (List.Sublist.cons _ (List.Sublist.cons_cons _ (List.Sublist.cons_cons _ (List.nil_sublist _))))))
theorem sbd3k3 {p0 p1 p2 q0 q1 q2 : Blk} {r : List Blk} : List.Sublist [q0, q1, q2] (p0 :: p1 :: p2 :: q0 :: q1 :: q2 :: r) := (List.Sublist.cons _ (List.Sublist.cons _ (List.Sublist.cons _ (List.Sublist.cons_cons _ (List.Sublist.cons_cons _ (List.Sublist.cons_cons _ (List.nil_sublist _)))))))
theorem sbd3k4 {p0 p1 p2 q0 q1 q2 q3 : Blk} {r : List Blk} : List.Sublist [q0, q1, q2, q3] (p0 :: p1 :: p2 :: q0 :: q1 :: q2 :: q3 :: r) := (List.Sublist.cons _ (List.Sublist.cons _ (List.Sublist.cons _ (List.Sublist.cons_cons _ (List.Sublist.cons_cons _ (List.Sublist.cons_cons _ (List.Sublist.cons_cons _ (List.nil_sublist _))))))))
theorem sbd3k5 {p0 p1 p2 q0 q1 q2 q3 q4 : Blk} {r : List Blk} : List.Sublist [q0, q1, q2, q3, q4] (p0 :: p1 :: p2 :: q0 :: q1 :: q2 :: q3 :: q4 :: r) := (List.Sublist.cons _ (List.Sublist.cons _ (List.Sublist.cons _ (List.Sublist.cons_cons _ (List.Sublist.cons_cons _ (List.Sublist.cons_cons _ (List.Sublist.cons_cons _ (List.Sublist.cons_cons _ (List.nil_sublist _)))))))))
section
variable {P : Program} {B : Nat} {w0 w : World} {L L' Ls : List Blk} {F : World → Prop} {ops : Array Oper} {r : List (Bool × Oper)} {o : Oper} {a : Act} {S : World → Prop} {Q : Exit → Act → World → Prop}
theorem St.sub (K : St B w0 L F w) (h : Ls.Sublist L) : St B w0 Ls F w :=
  ⟨K.below, K.size, fun p hp => K.has p (h.subset hp), K.nodup.sublist (h.map _), fun w' h1 h2 => K.keep w' h1 fun b hb1 hb2 => h2 b hb1 fun hm => hb2 ((h.map _).subset hm)⟩
theorem via {B : Nat} {w0 w : World} {L Ls : List Blk} {F : World → Prop} (h : Ls.Sublist L) (K : St B w0 L F w) : St B w0 Ls F w := K.sub h
theorem hm_load (hgd : Region.wanted o (yielded ops a.tmps) = true) (ty : TypeId) (x : Operand) (ho : o.op = .load ty x) {g : Nat} (hx : a.eval x = .pointer (some ⟨g, 0, none⟩)) {cs : Array Value} {t : TypeId} (ha : At Ls g cs t)
    {n : Nat} (hu : RowTy P ty n) (hn : cs.size = n) (h : wpHeld P ops (St B w0 Ls F) Q r (a.put o.dst (.agg cs)) w) : wpHeld P ops (St B w0 Ls F) Q ((true, o) :: r) a w := by
  obtain ⟨d, h1, h2, h3⟩ := hu
  refine held_val hgd (.agg cs) (fun w K => ?_) h
  have := run_loadVar_row (P := P) w g t ty cs (0, 0) d (K.get ha) h1 (by cases d <;> simp_all) (by rw [hn]; exact h3)
  unfold execOp
  simp only [ho, hx, Instr.loadAt, Instr.sureAddr, Sem.run_bind, Sem.run_pure, Result.andThen_ok, this]
theorem hm_cell (hgd : Region.wanted o (yielded ops a.tmps) = true) (ty : TypeId) (x : Operand) (ho : o.op = .load ty x) {p : Addr} (hx : a.eval x = .pointer (some p)) {v : Value} (hv : ∀ w, S w → w.cell? p = some v) (hu : OneTy P ty)
    (h : wpHeld P ops S Q r (a.put o.dst v) w) : wpHeld P ops S Q ((true, o) :: r) a w :=
  held_val hgd v (fun w hS => by
    unfold execOp
    simp only [ho, hx, Sem.run_bind, run_load_cell hu (hv w hS), Sem.run_pure, Result.andThen_ok]) h
theorem hm_own (hgd : Region.wanted o (yielded ops a.tmps) = true) (ty : TypeId) (x : Operand) (ho : o.op = .load ty x) {g off : Nat} (hx : a.eval x = .pointer (some ⟨g, off, none⟩)) {cs : Array Value} {t : TypeId} (ha : At Ls g cs t)
    {v : Value} (hv : cs[off]? = some v) (hu : OneTy P ty) (h : wpHeld P ops (St B w0 Ls F) Q r (a.put o.dst v) w) : wpHeld P ops (St B w0 Ls F) Q ((true, o) :: r) a w :=
  hm_cell hgd ty x ho hx (fun w K => (K.get ha).cell hv) hu h
theorem hm_now (hgd : Region.wanted o (yielded ops a.tmps) = true) (ty : TypeId) (x : Operand) (ho : o.op = .load ty x) {p : Addr} (hx : a.eval x = .pointer (some p)) {v : Value} (hv : w.cell? p = some v) (hu : OneTy P ty) (hS : S w)
    (h : wpHeld P ops S Q r (a.put o.dst v) w) : wpHeld P ops S Q ((false, o) :: r) a w := by
  unfold wpHeld
  rw [if_pos hgd]
  unfold Oper.wp execOp
  simp only [ho, hx, Sem.run_bind, run_load_cell hu hv, Sem.run_pure, Result.andThen_ok]
  exact ⟨hS, h⟩
theorem hm_store (K : St B w0 L F w) (hgd : Region.wanted o (yielded ops a.tmps) = true) (ty : TypeId) (x y : Operand) (ho : o.op = .store ty x y) (hdst : o.dst = none) {g : Nat} (hx : a.eval x = .pointer (some ⟨g, 0, none⟩)) {new : Array Value} (hy : a.eval y = .agg new)
    {cs : Array Value} {t : TypeId} (hp : Put L g cs t new L') {n : Nat} (hu : RowTy P ty n) (hn : new.size = n) (hold : cs.size = n) (h1 : Ones new)
    (h : ∀ w' : World, St B w0 L' F w' → S w' ∧ wpHeld P ops S Q r a w') : wpHeld P ops S Q ((false, o) :: r) a w := by
  obtain ⟨d, _, _, h3⟩ := hu
  unfold wpHeld
  rw [if_pos hgd]
  have hK := h _ (K.setRow hp)
  exact wp_store_row ty x y ho g new hx hy t cs (K.get hp.at) (by rw [hn]; exact h3) (by omega) h1 (by rw [hdst]; exact hK)
theorem hm_put (K : St B w0 L F w) (hgd : Region.wanted o (yielded ops a.tmps) = true) (ty : TypeId) (x y : Operand) (ho : o.op = .store ty x y) (hdst : o.dst = none) {g off : Nat} (hx : a.eval x = .pointer (some ⟨g, off, none⟩)) {v : Value} (hy : a.eval y = v)
    {cs new : Array Value} {t : TypeId} (hp : Put L g cs t new L') (hs : off < cs.size) (hnew : cs.setIfInBounds off v = new) (hu : OneTy P ty) (h1 : v.oneCell' = true) (hc : v.cells = #[v])
    (h : ∀ w' : World, St B w0 L' F w' → S w' ∧ wpHeld P ops S Q r a w') : wpHeld P ops S Q ((false, o) :: r) a w := by
  subst hnew
  have hcell := (K.get hp.at).cell (Array.getElem?_eq_getElem (i := off) hs)
  unfold wpHeld
  rw [if_pos hgd]
  unfold Oper.wp execOp
  simp only [ho, hx, hy, Sem.run_bind, run_store_cell hu hcell ((K.get hp.at).free off) h1 hc, Sem.run_pure, Result.andThen_ok, Oper.upon, hdst]
  exact h _ (K.setCell hp)
theorem ht_load {b : Bool} {dst : Option Tmp} {type : TypeId} {pos : String} {after : Array Edge} {guard : Option (Nat × Bool)} {ty : TypeId} {x : Operand} (h : wpHeld P ops S Q ((b, ⟨dst, .load ty x, type, pos, after, guard⟩) :: r) a w) : wpHeld P ops S Q ((b, ⟨dst, .load ty x, type, pos, after, guard⟩) :: r) a w := h
theorem ht_store {b : Bool} {dst : Option Tmp} {type : TypeId} {pos : String} {after : Array Edge} {guard : Option (Nat × Bool)} {ty : TypeId} {x y : Operand} (h : wpHeld P ops S Q ((b, ⟨dst, .store ty x y, type, pos, after, guard⟩) :: r) a w) : wpHeld P ops S Q ((b, ⟨dst, .store ty x y, type, pos, after, guard⟩) :: r) a w := h
theorem wm_held {id : Nat} {os : List Oper} (Ls : List Blk) (ord : List (Bool × Nat)) (K : St B w0 L F w) (hsub : Ls.Sublist L) (hm : P.follows .mixedOrders = true) (hB : (Region.noSelect os.toArray && decide (ord.length = os.length) && orderB .any os.toArray ord (Array.replicate os.length false)) = true)
    (h : ∀ w', St B w0 L F w' → wpHeld P os.toArray (St B w0 Ls F) (NoP Q) (pick os.toArray ord) a w') : (Code.region id os.toArray true).wp P Q a w :=
  wp_held (S := St B w0 Ls F) ord hm hB (K.drew.sub hsub) (h _ K.drew)
end
end Go.Proofs.Ytpejoaefnnbghaa
namespace Go.Proofs.Ytpejoaefnnbghaa
open Go.RowKit
set_option linter.unusedVariables false
section
variable {P : Program} {ops : Array Oper} {md : Region.Mode} {S : World → Prop} {Q : Exit → Act → World → Prop}

theorem oper_wp_Q {Q' : Exit → Act → World → Prop} {o : Oper} {a : Act} {w : World} {K : Act → World → Prop} (hp : ∀ c a w, Q (.panic c) a w → Q' (.panic c) a w) (hl : LetsOut Q → LetsOut Q') (h : o.wp P a w K Q) : o.wp P a w K Q' := by
  unfold Oper.wp at *
  generalize (execOp a.eval o).run P w = r at *
  cases r with
  | ok n w' =>
    cases n <;> simp only [Oper.upon] at h ⊢ <;>
      first
        | exact h
        | exact Calls.mono h (fun e w'' he => by cases e <;> first | exact he | exact hp _ _ _ he | exact hl he)
        | exact Rows.mono h (fun _ _ he => he)
  | halt x w' => cases x <;> simp only [Oper.upon] at h ⊢ <;> first | exact h | exact hp _ _ _ h

def HeadH (P : Program) (md : Region.Mode) (ops : Array Oper) (Q : Exit → Act → World → Prop) (S : World → Prop) (n : Nat) (L : Array Bool → Act → World → Prop) : Nat → Array Bool → Act → World → Prop
  | 0, d, a, w => L d a w
  | f + 1, d, a, w => Region.ready md ops d ≠ [] ∧ ∀ i ∈ Region.ready md ops d, i < n ∧ wpOp P ops Q i (fun a' w' => S w' ∧ HeadH P md ops Q S n L f (d.setIfInBounds i true) a' w') a w

theorem HeadH.first {n i : Nat} {o : Oper} {v : Value} {L : Array Bool → Act → World → Prop} (hi : ops[i]? = some o) (hsel : Region.noSelect ops = true) (hs : Region.sinkB md ops n = true) (hc : Region.chainB md ops n = true)
    (hn : n < ops.size) (hin : i < n) (hQ : ∀ c a w, Q (.panic c) (Act.put a o.dst v) w → Q (.panic c) a w) (hdone : ∀ d a w, L d a w → ∀ j ∈ Region.ready md ops d, n ≤ j) (f : Nat) :
    ∀ (d : Array Bool) (a : Act) (w : World), HeadInv md ops n d → (∀ j p, ops[j]? = some p → j ≠ i → d.getD j true = false → (∀ e ∈ p.after, Region.binds md e = true → e.on ≠ i) → o.apart ops p = true) →
      i ∈ Region.ready md ops d → YieldsIf P ops S o v a → S w → HeadH P md ops Q S n L f (d.setIfInBounds i true) (a.put o.dst v) w → HeadH P md ops Q S n L (f + 1) d a w := by
  induction f with
  | zero =>
    intro d a w inv _ hr hy hS H
    refine ⟨List.ne_nil_of_mem hr, fun j hj => ?_⟩
    have hjn : j < n := Nat.lt_of_not_le fun h => tail_waits hs hc hn inv _ i rfl hin (mem_ready.1 hr).1 j h hj
    rcases Decidable.em (j = i) with rfl | hji
    · exact ⟨hjn, hy.wpOp hi hS ⟨hS, H⟩⟩
    · have := hdone _ _ _ H j (ready_mono hj hji); omega
  | succ f ih =>
    intro d a w inv hfree hr hy hS H
    refine ⟨List.ne_nil_of_mem hr, fun j hj => ?_⟩
    have hun := (mem_ready.1 hr).1
    have hjn : j < n := Nat.lt_of_not_le fun h => tail_waits hs hc hn inv _ i rfl hin hun j h hj
    refine ⟨hjn, ?_⟩
    rcases Decidable.em (j = i) with rfl | hji
    · exact hy.wpOp hi hS ⟨hS, H⟩
    obtain ⟨hjun, p, hp, hall⟩ := mem_ready.1 hj
    have hno : ∀ e ∈ p.after, Region.binds md e = true → e.on ≠ i := by
      intro e he hb heq
      have := hall e he hb
      rw [heq, getD_both hun] at this
      cases this
    have q := wpOp_putIf hp (hfree j p hp hji hjun hno) (fun cs b => Region.noSelect_spec hsel i o cs b hi) (fun cs b => Region.noSelect_spec hsel j p cs b hp) hQ hy (H.2 j (ready_mono hj hji)).2
    refine wpOp_mono (fun a' w' h3 => ⟨h3.2.1, ih (d.setIfInBounds j true) a' w' (inv.set hj hjn) ?_ (ready_mono hr (Ne.symm hji)) h3.1 h3.2.1 ?_⟩) q
    · intro k r hk hki hku hkn
      refine hfree k r hk hki ?_ hkn
      rcases Decidable.em (j = k) with rfl | hjk
      · exact hjun
      · rwa [getD_set_ne true hjk] at hku
    · rw [Array.setIfInBounds_comm _ _ hji]; exact h3.2.2

def orderT (md : Region.Mode) (ops : Array Oper) (g n : Nat) : List (Bool × Nat) → Array Bool → Bool
  | [], d => Region.seqB md ops g n d
  | (true, i) :: r, d => decide (i < n) && (Region.ready md ops d).contains i && Region.free md ops d i && orderT md ops g n r (d.setIfInBounds i true)
  | (false, i) :: r, d => decide (i < n) && decide (Region.ready md ops d = [i]) && orderT md ops g n r (d.setIfInBounds i true)
def Behind (T : Act → World → Prop) (Q : Exit → Act → World → Prop) : Exit → Act → World → Prop
  | .normal, a, w => T a w
  | e, a, w => Q e a w

theorem wpHeld_head {g n : Nat} {T : Act → World → Prop} (hs : Region.noSelect ops = true) (hsk : Region.sinkB md ops n = true) (hc : Region.chainB md ops n = true) (hn : n < ops.size) (hQ : ∀ (c : List PanicEntry) a d v w, Q (.panic c) (Act.put a d v) w → Q (.panic c) a w) (hlo : LetsOut (Behind T Q) → LetsOut Q) :
    ∀ (ord : List (Bool × Nat)) (d : Array Bool) (a : Act) (w : World), orderT md ops g n ord d = true → HeadInv md ops n d → S w → wpHeld P ops S (Behind T Q) (pick ops ord) a w →
      HeadH P md ops Q S n (fun d' a' w' => Region.seqB md ops g n d' = true ∧ T a' w') ord.length d a w
  | [], d, a, w, hB, inv, hS, h => ⟨hB, h⟩
  | (true, i) :: r, d, a, w, hB, inv, hS, h => by
    simp only [orderT, Bool.and_eq_true, decide_eq_true_eq] at hB
    have hr : i ∈ Region.ready md ops d := by simpa using hB.1.1.2
    obtain ⟨_, o, ho, _⟩ := mem_ready.1 hr
    simp only [pick, ho, wpHeld] at h
    by_cases hw : Region.wanted o (yielded ops a.tmps) = true
    · rw [if_pos hw] at h
      obtain ⟨v, hv, h⟩ := h
      refine HeadH.first ho hs hsk hc hn hB.1.1.1 (fun c a w => hQ c a o.dst v w) (fun d a w hL => seqB_ready hL.1) r.length d a w inv (Region.free_spec ho hB.1.2) hr (.inl ⟨hw, fun w' hw' => ?_⟩) hS (wpHeld_head hs hsk hc hn hQ hlo r _ _ _ hB.2 (inv.set hr hB.1.1.1) hS h)
      have := hv w' hw'
      generalize (execOp a.eval o).run P w' = z at this
      rcases z with ⟨n, w''⟩ | _
      · cases n <;> simp only at this
        obtain ⟨rfl, rfl⟩ := this
        rfl
      · exact this.elim
    · rw [if_neg hw] at h
      exact HeadH.first ho hs hsk hc hn hB.1.1.1 (fun c a w => hQ c a o.dst undef w) (fun d a w hL => seqB_ready hL.1) r.length d a w inv (Region.free_spec ho hB.1.2) hr (.inr ⟨by simpa using hw, rfl⟩) hS (wpHeld_head hs hsk hc hn hQ hlo r _ _ _ hB.2 (inv.set hr hB.1.1.1) hS h)
  | (false, i) :: r, d, a, w, hB, inv, hS, h => by
    simp only [orderT, Bool.and_eq_true, decide_eq_true_eq] at hB
    have hr : i ∈ Region.ready md ops d := by rw [hB.1.2]; simp
    obtain ⟨_, o, ho, _⟩ := mem_ready.1 hr
    simp only [pick, ho, wpHeld] at h
    refine ⟨by rw [hB.1.2]; simp, fun j hj => ?_⟩
    rw [hB.1.2, List.mem_singleton] at hj
    subst hj
    refine ⟨hB.1.1, ?_⟩
    unfold wpOp
    simp only [ho]
    by_cases hw : Region.wanted o (yielded ops a.tmps) = true
    · rw [if_pos hw] at h ⊢
      refine .inl (oper_wp_Q (Q := Behind T Q) (fun _ _ _ h => h) hlo (Oper.wp_mono (K := fun a' w' => S w' ∧ wpHeld P ops S (Behind T Q) (pick ops r) a' w') (fun a' w' h' => ?_) h))
      exact ⟨h'.1, wpHeld_head hs hsk hc hn hQ hlo r _ _ _ hB.2 (inv.set hr hB.1.1) h'.1 h'.2⟩
    · rw [if_neg hw] at h ⊢
      exact ⟨h.1, wpHeld_head hs hsk hc hn hQ hlo r _ _ _ hB.2 (inv.set hr hB.1.1) h.1 h.2⟩

variable {B : Nat} {w0 w : World} {L Ls : List Blk} {F : World → Prop} {a : Act}
end
end Go.Proofs.Ytpejoaefnnbghaa
namespace Go.Proofs.Ytpejoaefnnbghaa
open Go.RowKit
set_option linter.unusedVariables false
inductive Tr | done | stop | take (i : Nat) (t : Tr) | alt (i : Nat) (t : Tr) (more : Tr)
def Tr.firsts : Tr → List Nat
  | .alt i _ m => i :: m.firsts
  | _ => []
section
variable {P : Program} {ops : Array Oper} {md : Region.Mode} {S : World → Prop} {Q : Exit → Act → World → Prop}
def treeB (md : Region.Mode) (ops : Array Oper) : Bool → Nat → Tr → Array Bool → Bool
  | true, f, .done, d => (Region.ready md ops d).isEmpty
  | false, _, .stop, _ => true
  | true, f + 1, .take i t, d => (Region.ready md ops d).contains i && Region.free md ops d i && treeB md ops true f t (d.setIfInBounds i true)
  | true, f + 1, .alt i t m, d => decide (Region.ready md ops d = i :: m.firsts) && treeB md ops true f t (d.setIfInBounds i true) && treeB md ops false (f + 1) m d
  | false, f + 1, .alt i t m, d => treeB md ops true f t (d.setIfInBounds i true) && treeB md ops false (f + 1) m d
  | _, _, _, _ => false
def opAt (ops : Array Oper) (i : Nat) : Oper := (ops[i]?).getD default
def wpTree (P : Program) (ops : Array Oper) (S : World → Prop) (Q : Exit → Act → World → Prop) : Tr → Act → World → Prop
  | .done, a, w => Q .normal a w
  | .stop, _, _ => True
  | .take i t, a, w => if Region.wanted (opAt ops i) (yielded ops a.tmps) then ∃ v, (∀ w', S w' → (match (execOp a.eval (opAt ops i)).run P w' with | .ok (.value u) w'' => w'' = w' ∧ u = v | _ => False)) ∧ wpTree P ops S Q t (a.put (opAt ops i).dst v) w else wpTree P ops S Q t (a.put (opAt ops i).dst undef) w
  | .alt i t m, a, w => (if Region.wanted (opAt ops i) (yielded ops a.tmps) then (opAt ops i).wp P a w (fun a' w' => S w' ∧ wpTree P ops S Q t a' w') Q else S w ∧ wpTree P ops S Q t (a.put (opAt ops i).dst undef) w) ∧ wpTree P ops S Q m a w
theorem opAt_eq {i : Nat} {o : Oper} (h : ops[i]? = some o) : opAt ops i = o := by simp [opAt, h]
theorem wpTree_any (hs : Region.noSelect ops = true) (hQ : ∀ (c : List PanicEntry) a d v w, Q (.panic c) (Act.put a d v) w → Q (.panic c) a w) : ∀ (f : Nat) (t : Tr) (d : Array Bool) (a : Act) (w : World), treeB md ops true f t d = true → S w →
    wpTree P ops S Q t a w → wpAnyH P md ops Q S f d a w := by
  intro f
  induction f with
  | zero =>
    intro t d a w hB hS h
    cases t <;> simp only [treeB] at hB <;> first | cases hB | skip
    exact wpAnyH_done (by simpa using hB) h 0
  | succ f ih =>
    intro t d a w hB hS h
    cases t with
    | done => simp only [treeB] at hB; exact wpAnyH_done (by simpa using hB) h (f + 1)
    | stop => simp only [treeB] at hB; cases hB
    | take i t =>
      simp only [treeB, Bool.and_eq_true] at hB
      have hr : i ∈ Region.ready md ops d := by simpa using hB.1.1
      obtain ⟨_, o, ho, _⟩ := mem_ready.1 hr
      simp only [wpTree, opAt_eq ho] at h
      by_cases hw : Region.wanted o (yielded ops a.tmps) = true
      · rw [if_pos hw] at h
        obtain ⟨v, hv, h⟩ := h
        refine wpAnyH_take ho hs hB.1.2 hB.1.1 (fun c a w => hQ c a o.dst v w) (.inl ⟨hw, fun w' hw' => ?_⟩) hS (ih t _ _ _ hB.2 hS h)
        have := hv w' hw'
        generalize (execOp a.eval o).run P w' = z at this
        rcases z with ⟨n, w''⟩ | _
        · cases n <;> simp only at this
          obtain ⟨rfl, rfl⟩ := this
          rfl
        · exact this.elim
      · rw [if_neg hw] at h
        exact wpAnyH_take ho hs hB.1.2 hB.1.1 (fun c a w => hQ c a o.dst undef w) (.inr ⟨by simpa using hw, rfl⟩) hS (ih t _ _ _ hB.2 hS h)
    | alt i t m =>
      simp only [treeB, Bool.and_eq_true, decide_eq_true_eq] at hB
      have key : ∀ (m : Tr), treeB md ops false (f + 1) m d = true → wpTree P ops S Q m a w → ∀ j ∈ m.firsts, j ∈ Region.ready md ops d → wpOp P ops Q j (fun a' w' => S w' ∧ wpAnyH P md ops Q S f (d.setIfInBounds j true) a' w') a w := by
        intro m
        induction m with
        | alt j t m _ ihm =>
          intro hB hm k hk hkr
          simp only [treeB, Bool.and_eq_true] at hB
          rcases List.mem_cons.1 hk with rfl | hk
          · obtain ⟨_, o, ho, _⟩ := mem_ready.1 hkr
            have h1 := hm.1
            simp only [opAt_eq ho] at h1
            unfold wpOp
            simp only [ho]
            by_cases hw : Region.wanted o (yielded ops a.tmps) = true
            · rw [if_pos hw] at h1 ⊢
              exact .inl (Oper.wp_mono (fun a' w' h' => ⟨h'.1, ih t _ _ _ hB.1 h'.1 h'.2⟩) h1)
            · rw [if_neg hw] at h1 ⊢
              exact ⟨h1.1, ih t _ _ _ hB.1 h1.1 h1.2⟩
          · exact ihm hB.2 hm.2 k hk hkr
        | _ => intro _ _ j hj; cases hj
      refine wpAnyH_all hB.1.1 (by simp) fun j hj => ?_
      exact key (.alt i t m) (by simp only [treeB, Bool.and_eq_true]; exact ⟨hB.1.2, hB.2⟩) h j hj (by rw [hB.1.1]; exact hj)
variable {B : Nat} {w0 w : World} {L L' Ls : List Blk} {F : World → Prop} {a : Act} {t m : Tr} {i : Nat} {o : Oper}
theorem wm_tree {id : Nat} {os : List Oper} (Ls : List Blk) (T : Tr) (K : St B w0 L F w) (hsub : Ls.Sublist L) (hm : P.follows .mixedOrders = true) (hB : (Region.noSelect os.toArray && treeB .any os.toArray true os.length T (Array.replicate os.length false)) = true)
    (h : ∀ w', St B w0 L F w' → wpTree P os.toArray (St B w0 Ls F) (NoP Q) T a w') : (Code.region id os.toArray true).wp P Q a w := by
  simp only [Bool.and_eq_true] at hB
  refine Code.wp_mono NoP.imp (wp_region_held (S := St B w0 Ls F) (Q := NoP Q) hm ?_)
  have := wpTree_any (P := P) (Q := NoP Q) (S := St B w0 Ls F) hB.1 (fun _ _ _ _ _ h => h) _ T _ a w.drew hB.2 (K.drew.sub hsub) (h _ K.drew)
  simpa using this
theorem tree_take (h : ∀ K : Act → Prop, (∀ a, wpTree P ops S Q t a w → K a) →
    if Region.wanted (opAt ops i) (yielded ops a.tmps) then ∃ v, (∀ w', S w' → (match (execOp a.eval (opAt ops i)).run P w' with | .ok (.value u) w'' => w'' = w' ∧ u = v | _ => False)) ∧ K (a.put (opAt ops i).dst v) else K (a.put (opAt ops i).dst undef)) : wpTree P ops S Q (.take i t) a w :=
  h (fun a => wpTree P ops S Q t a w) (fun _ h => h)
theorem tree_alt (h : (∀ K : Act → World → Prop, (∀ a w, S w → wpTree P ops S Q t a w → K a w) →
    if Region.wanted (opAt ops i) (yielded ops a.tmps) then (opAt ops i).wp P a w K Q else K (a.put (opAt ops i).dst undef) w)) (h2 : wpTree P ops S Q m a w) : wpTree P ops S Q (.alt i t m) a w :=
  ⟨h (fun a w => S w ∧ wpTree P ops S Q t a w) (fun _ _ h1 h2 => ⟨h1, h2⟩), h2⟩
theorem tree_done (h : Q .normal a w) : wpTree P ops S (NoP Q) .done a w := h
theorem tree_stop : wpTree P ops S Q .stop a w := trivial
theorem tm_load (ho : opAt ops i = o) (hgd : Region.wanted o (yielded ops a.tmps) = true) (ty : TypeId) (x : Operand) (hop : o.op = .load ty x) {g : Nat} (hx : a.eval x = .pointer (some ⟨g, 0, none⟩)) {cs : Array Value} {t0 : TypeId} (ha : At Ls g cs t0)
    {n : Nat} (hu : RowTy P ty n) (hn : cs.size = n) (h : wpTree P ops (St B w0 Ls F) Q t (a.put o.dst (.agg cs)) w) : wpTree P ops (St B w0 Ls F) Q (.take i t) a w := by
  subst ho
  obtain ⟨d, h1, h2, h3⟩ := hu
  unfold wpTree
  rw [if_pos hgd]
  refine ⟨.agg cs, fun w K => ?_, h⟩
  have := run_loadVar_row (P := P) w g t0 ty cs (0, 0) d (K.get ha) h1 (by cases d <;> simp_all) (by rw [hn]; exact h3)
  unfold execOp
  simp only [hop, hx, Instr.loadAt, Instr.sureAddr, Sem.run_bind, Sem.run_pure, Result.andThen_ok, this, and_self]
theorem tm_alloc (K : St B w0 L F w) (ho : opAt ops i = o) (hgd : Region.wanted o (yielded ops a.tmps) = true) (ty : TypeId) (hop : o.op = .alloc ty) {v : Value} (hz : (P.info? ty).map (·.zero) = some (some v)) {cs : Array Value} (hc : v.cells = cs)
    (h : ∀ (b : Nat) (w' : World), St B w0 ((b, cs, ty) :: L) F w' → S w' ∧ wpTree P ops S Q t (a.put o.dst (.pointer (some ⟨b, 0, none⟩))) w') (h2 : wpTree P ops S Q m a w) : wpTree P ops S Q (.alt i t m) a w := by
  subst ho hc
  have hz' : (zeroValue ty).run P w = .ok v w := by
    cases hq : P.info? ty with
    | none => simp [hq] at hz
    | some i =>
      have : i.zero = some v := by simpa [hq] using hz
      simp [zeroValue, typeInfo, hq, this]
  refine ⟨?_, h2⟩
  rw [if_pos hgd]
  unfold Oper.wp execOp
  simp only [hop, Instr.alloc, newVar, newRow, newObj, Sem.run_bind, Sem.run_pure, Result.andThen_ok, hz']
  exact h _ _ (K.alloc _ ty)
theorem tm_store (K : St B w0 L F w) (ho : opAt ops i = o) (hgd : Region.wanted o (yielded ops a.tmps) = true) (ty : TypeId) (x y : Operand) (hop : o.op = .store ty x y) (hdst : o.dst = none) {g : Nat} (hx : a.eval x = .pointer (some ⟨g, 0, none⟩)) {new : Array Value} (hy : a.eval y = .agg new)
    {cs : Array Value} {t0 : TypeId} (hp : Put L g cs t0 new L') {n : Nat} (hu : RowTy P ty n) (hn : new.size = n) (hold : cs.size = n) (h1 : Ones new)
    (h : ∀ w' : World, St B w0 L' F w' → S w' ∧ wpTree P ops S Q t a w') (h2 : wpTree P ops S Q m a w) : wpTree P ops S Q (.alt i t m) a w := by
  subst ho
  obtain ⟨d, _, _, h3⟩ := hu
  refine ⟨?_, h2⟩
  rw [if_pos hgd]
  have hK := h _ (K.setRow hp)
  exact wp_store_row ty x y hop g new hx hy t0 cs (K.get hp.at) (by rw [hn]; exact h3) (by omega) h1 (by rw [hdst]; exact hK)
end
end Go.Proofs.Ytpejoaefnnbghaa
namespace Go.Proofs.Ytpejoaefnnbghaa
open Go.RowKit
set_option linter.unusedVariables false
section
variable {P : Program} {B : Nat} {w0 w : World} {L L' Ls : List Blk} {F : World → Prop} {ops : Array Oper} {o : Oper} {a : Act} {S : World → Prop} {Q : Exit → Act → World → Prop} {i : Nat} {t m : Tr}
theorem tm_own (ho : opAt ops i = o) (hgd : Region.wanted o (yielded ops a.tmps) = true) (ty : TypeId) (x : Operand) (hop : o.op = .load ty x) {g off : Nat} (hx : a.eval x = .pointer (some ⟨g, off, none⟩)) {cs : Array Value} {t0 : TypeId} (ha : At Ls g cs t0)
    {v : Value} (hv : cs[off]? = some v) (hu : OneTy P ty) (h : wpTree P ops (St B w0 Ls F) Q t (a.put o.dst v) w) : wpTree P ops (St B w0 Ls F) Q (.take i t) a w := by
  subst ho
  unfold wpTree
  rw [if_pos hgd]
  refine ⟨v, fun w K => ?_, h⟩
  unfold execOp
  simp only [hop, hx, Sem.run_bind, run_load_cell hu ((K.get ha).cell hv), Sem.run_pure, Result.andThen_ok, and_self]
end
end Go.Proofs.Ytpejoaefnnbghaa
namespace Go.Proofs.Ytpejoaefnnbghaa
open Go.RowKit
set_option linter.unusedVariables false
section
variable {P : Program} {B : Nat} {w0 w : World} {L L' Ls : List Blk} {F : World → Prop} {ops : Array Oper} {o : Oper} {a : Act} {S : World → Prop} {Q : Exit → Act → World → Prop} {i : Nat} {t m : Tr}
theorem tm_now (ho : opAt ops i = o) (hgd : Region.wanted o (yielded ops a.tmps) = true) (ty : TypeId) (x : Operand) (hop : o.op = .load ty x) {p : Addr} (hx : a.eval x = .pointer (some p)) {v : Value} (hv : w.cell? p = some v) (hu : OneTy P ty) (hS : S w)
    (h : wpTree P ops S Q t (a.put o.dst v) w) (h2 : wpTree P ops S Q m a w) : wpTree P ops S Q (.alt i t m) a w := by
  subst ho
  refine ⟨?_, h2⟩
  rw [if_pos hgd]
  unfold Oper.wp execOp
  simp only [hop, hx, Sem.run_bind, run_load_cell hu hv, Sem.run_pure, Result.andThen_ok]
  exact ⟨hS, h⟩
theorem tm_nowAt (K : St B w0 L F w) (ho : opAt ops i = o) (hgd : Region.wanted o (yielded ops a.tmps) = true) (ty : TypeId) (x : Operand) (hop : o.op = .load ty x) {g off : Nat} (hx : a.eval x = .pointer (some ⟨g, off, none⟩)) {cs : Array Value} {t0 : TypeId} (ha : At L g cs t0)
    {v : Value} (hv : cs[off]? = some v) (hu : OneTy P ty) (hS : S w) (h : wpTree P ops S Q t (a.put o.dst v) w) (h2 : wpTree P ops S Q m a w) : wpTree P ops S Q (.alt i t m) a w :=
  tm_now ho hgd ty x hop hx ((K.get ha).cell hv) hu hS h h2
theorem tm_put (K : St B w0 L F w) (ho : opAt ops i = o) (hgd : Region.wanted o (yielded ops a.tmps) = true) (ty : TypeId) (x y : Operand) (hop : o.op = .store ty x y) (hdst : o.dst = none) {g off : Nat} (hx : a.eval x = .pointer (some ⟨g, off, none⟩)) {v : Value} (hy : a.eval y = v)
    {cs new : Array Value} {t0 : TypeId} (hp : Put L g cs t0 new L') (hs : off < cs.size) (hnew : cs.setIfInBounds off v = new) (hu : OneTy P ty) (h1 : v.oneCell' = true) (hc : v.cells = #[v])
    (h : ∀ w' : World, St B w0 L' F w' → S w' ∧ wpTree P ops S Q t a w') (h2 : wpTree P ops S Q m a w) : wpTree P ops S Q (.alt i t m) a w := by
  subst ho hnew
  refine ⟨?_, h2⟩
  rw [if_pos hgd]
  have hcell := (K.get hp.at).cell (Array.getElem?_eq_getElem (i := off) hs)
  unfold Oper.wp execOp
  simp only [hop, hx, hy, Sem.run_bind, run_store_cell hu hcell ((K.get hp.at).free off) h1 hc, Sem.run_pure, Result.andThen_ok, Oper.upon, hdst]
  exact h _ (K.setCell hp)
end
end Go.Proofs.Ytpejoaefnnbghaa
namespace Go.Proofs.Ytpejoaefnnbghaa
open Go.RowKit
set_option linter.unusedVariables false
section
variable {P : Program} {B : Nat} {w0 w : World} {L L' Ls : List Blk} {F : World → Prop} {ops : Array Oper} {o : Oper} {a : Act} {S : World → Prop} {Q : Exit → Act → World → Prop} {i : Nat} {t m : Tr}
theorem tm_nowRow (K : St B w0 L F w) (ho : opAt ops i = o) (hgd : Region.wanted o (yielded ops a.tmps) = true) (ty : TypeId) (x : Operand) (hop : o.op = .load ty x) {g : Nat} (hx : a.eval x = .pointer (some ⟨g, 0, none⟩)) {cs : Array Value} {t0 : TypeId} (ha : At L g cs t0)
    {n : Nat} (hu : RowTy P ty n) (hn : cs.size = n) (hS : S w) (h : wpTree P ops S Q t (a.put o.dst (.agg cs)) w) (h2 : wpTree P ops S Q m a w) : wpTree P ops S Q (.alt i t m) a w := by
  subst ho
  refine ⟨?_, h2⟩
  rw [if_pos hgd]
  obtain ⟨d, h1, h2, h3⟩ := hu
  have := run_loadVar_row (P := P) w g t0 ty cs (0, 0) d (K.get ha) h1 (by cases d <;> simp_all) (by rw [hn]; exact h3)
  unfold Oper.wp execOp
  simp only [hop, hx, Instr.loadAt, Instr.sureAddr, Sem.run_bind, Sem.run_pure, Result.andThen_ok, this]
  exact ⟨hS, h⟩
theorem tm_farD (ho : opAt ops i = o) (hgd : Region.wanted o (yielded ops a.tmps) = true) (ty : TypeId) (x : Operand) (hop : o.op = .load ty x) {p : Addr} (hx : a.eval x = .pointer (some p)) {v : Value} (hv : ∀ w, St B w0 Ls F w → w.cell? p = some v) (hu : OneTy P ty)
    (h : wpTree P ops (St B w0 Ls F) Q t (a.put o.dst v) w) : wpTree P ops (St B w0 Ls F) Q (.take i t) a w := by
  subst ho
  unfold wpTree
  rw [if_pos hgd]
  refine ⟨v, fun w K => ?_, h⟩
  unfold execOp
  simp only [hop, hx, Sem.run_bind, run_load_cell hu (hv w K), Sem.run_pure, Result.andThen_ok, and_self]
end
end Go.Proofs.Ytpejoaefnnbghaa
