/-
  A walk's memory as one fact: the blocks that the call has made (each with its number, its cells and its type), what else is known of the world ('F'), and that what was there before the call is as it was ('St'). The laws of box, alloc, load, store, and of regions that draw their order, in these words: each hands on one such fact of a new world. No condition: a kit of lemmas, no claim of its own.
-/
import Derived.Test.YteancdipmpmjpaaTail
namespace Go.Proofs.Yteancdipmpmjpaa
open Go.RowKit
set_option linter.unusedVariables false

/-- A block: its number, its cells, its type. -/
abbrev Blk := Nat × Array Value × TypeId
/-- Block g is among these. -/
inductive At : List Blk → Nat → Array Value → TypeId → Prop
  | hd {L : List Blk} {g : Nat} {cs : Array Value} {t : TypeId} : At ((g, cs, t) :: L) g cs t
  | tl {L : List Blk} {p : Blk} {g : Nat} {cs : Array Value} {t : TypeId} : At L g cs t → At (p :: L) g cs t
/-- The same blocks, but that g holds new cells. -/
inductive Put : List Blk → Nat → Array Value → TypeId → Array Value → List Blk → Prop
  | hd {L : List Blk} {g : Nat} {cs new : Array Value} {t : TypeId} : Put ((g, cs, t) :: L) g cs t new ((g, new, t) :: L)
  | tl {L L' : List Blk} {p : Blk} {g : Nat} {cs new : Array Value} {t : TypeId} : Put L g cs t new L' → Put (p :: L) g cs t new (p :: L')

structure St (B : Nat) (w0 : World) (L : List Blk) (F : World → Prop) (w : World) : Prop where
  below : Below B w0 w
  size : B ≤ w.heap.size
  has : ∀ p ∈ L, B ≤ p.1 ∧ Has w p.1 p.2.1 p.2.2
  nodup : (L.map (·.1)).Nodup
  keep : ∀ w' : World, w.heap.size ≤ w'.heap.size → (∀ b, b < w.heap.size → b ∉ L.map (·.1) → w'.heap[b]? = w.heap[b]?) → F w'

/-- Nothing else is known. -/
def Any : World → Prop := fun _ => True

theorem At.mem {L : List Blk} {g : Nat} {cs : Array Value} {t : TypeId} (h : At L g cs t) : (g, cs, t) ∈ L := by
  induction h with
  | hd => simp
  | tl _ ih => exact List.mem_cons_of_mem _ ih
theorem Put.at {L L' : List Blk} {g : Nat} {cs new : Array Value} {t : TypeId} (h : Put L g cs t new L') : At L g cs t := by
  induction h with
  | hd => exact .hd
  | tl _ ih => exact .tl ih
theorem Put.ids {L L' : List Blk} {g : Nat} {cs new : Array Value} {t : TypeId} (h : Put L g cs t new L') : L'.map (·.1) = L.map (·.1) := by
  induction h with
  | hd => rfl
  | tl _ ih => simp [ih]
theorem Put.mem {L L' : List Blk} {g : Nat} {cs new : Array Value} {t : TypeId} (h : Put L g cs t new L') (hn : (L.map (·.1)).Nodup) : ∀ p ∈ L', p = (g, new, t) ∨ p ∈ L ∧ p.1 ≠ g := by
  induction h with
  | hd =>
    intro p hp
    simp only [List.map_cons, List.nodup_cons] at hn
    rcases List.mem_cons.1 hp with rfl | hp
    · exact .inl rfl
    · exact .inr ⟨List.mem_cons_of_mem _ hp, fun e => hn.1 (List.mem_map.2 ⟨p, hp, e⟩)⟩
  | tl h ih =>
    intro p hp
    simp only [List.map_cons, List.nodup_cons] at hn
    rcases List.mem_cons.1 hp with rfl | hp
    · exact .inr ⟨List.mem_cons_self, fun e => hn.1 (List.mem_map.2 ⟨_, h.at.mem, e.symm⟩)⟩
    · rcases ih hn.2 p hp with rfl | ⟨h1, h2⟩
      · exact .inl rfl
      · exact .inr ⟨List.mem_cons_of_mem _ h1, h2⟩

section
variable {B : Nat} {w0 w w' : World} {L L' : List Blk} {F G : World → Prop} {g : Nat} {cs new : Array Value} {t : TypeId}
theorem St.start (w : World) : St w.heap.size w [] Any w := ⟨Below.refl _ _, Nat.le_refl _, (fun _ h => by cases h), (by simp), fun _ _ _ => trivial⟩
theorem St.startF (w : World) (F : World → Prop) (h : ∀ w', Below w.heap.size w w' → F w') (hF : ∀ a b : World, a.heap = b.heap → F a → F b) : St w.heap.size w [] F w :=
  ⟨Below.refl _ _, Nat.le_refl _, (fun _ h => by cases h), (by simp), fun w' hs hb => hF { w with heap := w'.heap } w' rfl (h _ ⟨rfl, rfl, rfl, hs, fun k hk => hb k hk (by simp)⟩)⟩
theorem St.get (K : St B w0 L F w) (h : At L g cs t) : Has w g cs t := (K.has _ h.mem).2
theorem St.ge (K : St B w0 L F w) (h : At L g cs t) : B ≤ g := (K.has _ h.mem).1
theorem St.fact (K : St B w0 L F w) : F w := K.keep w (Nat.le_refl _) fun _ _ _ => rfl
/-- A world that is as this one was on all that was there. -/
theorem St.step (K : St B w0 L F w) (h : Below w.heap.size w w') : St B w0 L F w' :=
  ⟨below_step K.below h K.size, Nat.le_trans K.size h.size, fun p hp => ⟨(K.has p hp).1, (K.has p hp).2.below h⟩, K.nodup,
    fun w'' hs hb => K.keep w'' (Nat.le_trans h.size hs) fun b hb1 hb2 => (hb b (Nat.lt_of_lt_of_le hb1 h.size) hb2).trans (h.block b hb1)⟩
theorem St.drew (K : St B w0 L F w) : St B w0 L F w.drew := K.step (Below.refl _ _).drew
theorem St.alloc (K : St B w0 L F w) (cs : Array Value) (t : TypeId) : St B w0 ((w.heap.size, cs, t) :: L) F (w.alloc (.cells cs t)) := by
  have hb : Below w.heap.size w (w.alloc (.cells cs t)) := (Below.refl _ _).alloc (Nat.le_refl _) _
  refine ⟨below_step K.below hb K.size, Nat.le_trans K.size hb.size, fun p hp => ?_, ?_, fun w'' hs hk => K.keep w'' (Nat.le_trans hb.size hs) fun b h1 h2 => ?_⟩
  · rcases List.mem_cons.1 hp with rfl | hp
    · exact ⟨K.size, Has.new w cs t⟩
    · exact ⟨(K.has p hp).1, (K.has p hp).2.below hb⟩
  · rw [List.map_cons, List.nodup_cons]
    refine ⟨fun hm => ?_, K.nodup⟩
    obtain ⟨p, hp, e⟩ := List.mem_map.1 hm
    have := (K.has p hp).2.lt
    simp only at e
    omega
  · refine (hk b (Nat.lt_of_lt_of_le h1 hb.size) ?_).trans (hb.block b h1)
    rw [List.map_cons, List.mem_cons]
    rintro (e | e)
    · simp only at e; omega
    · exact h2 e
/-- One of its blocks is written. -/
theorem St.write (K : St B w0 L F w) (hp : Put L g cs t new L') (hg : Has w' g new t) (hs : w'.heap.size = w.heap.size) (ho : ∀ b, b ≠ g → w'.heap[b]? = w.heap[b]?) (hw : Below B w w') : St B w0 L' F w' := by
  have ha := hp.at
  refine ⟨K.below.trans hw, by rw [hs]; exact K.size, fun p hm => ?_, by rw [hp.ids]; exact K.nodup, fun w'' hs' hk => K.keep w'' (by omega) fun b h1 h2 => ?_⟩
  · rcases hp.mem K.nodup p hm with rfl | ⟨h1, h2⟩
    · exact ⟨K.ge ha, hg⟩
    · exact ⟨(K.has p h1).1, (ho _ h2).trans (K.has p h1).2⟩
  · refine (hk b (by omega) (by rw [hp.ids]; exact h2)).trans (ho b ?_)
    rintro rfl
    exact h2 (List.mem_map.2 ⟨_, ha.mem, rfl⟩)
theorem St.setRow (K : St B w0 L F w) (hp : Put L g cs t new L') : St B w0 L' F (w.setRow g new) :=
  K.write hp ((K.get hp.at).row new) (size_setRow _ _ _) (fun b hb => setRow_other w g b new hb) (below_setRow (Below.refl _ _) (K.ge hp.at) new)
theorem St.setCell (K : St B w0 L F w) {i : Nat} {v : Value} (hp : Put L g cs t (cs.setIfInBounds i v) L') : St B w0 L' F (w.setCell ⟨g, i, none⟩ v) :=
  K.write hp ((K.get hp.at).set i v) (by simp [World.setCell]) (fun b hb => heap_setCell_other w _ b v hb) ((Below.refl _ _).setCell (K.ge hp.at) v)
theorem heap_setCells_other (w : World) (g o b : Nat) (hb : b ≠ g) : ∀ (xs : List Value) {w : World} (o : Nat), (w.setCells g o xs).heap[b]? = w.heap[b]?
  | [], _, _ => rfl
  | v :: r, w, o => by rw [World.setCells, heap_setCells_other w g o b hb r]; exact heap_setCell_other w _ b v hb
theorem St.setCells (K : St B w0 L F w) {o : Nat} {xs : List Value} (hp : Put L g cs t (over cs o xs) L') : St B w0 L' F (w.setCells g o xs) :=
  K.write hp (Has.cells xs o (K.get hp.at)) (size_setCells xs o) (fun b hb => heap_setCells_other w g o b hb xs o) (below_setCells (K.ge hp.at) xs o (Below.refl _ _))
/-- A fact more, which hangs on no block of these. -/
theorem St.add (K : St B w0 L F w) (h : ∀ w' : World, w.heap.size ≤ w'.heap.size → (∀ b, b < w.heap.size → b ∉ L.map (·.1) → w'.heap[b]? = w.heap[b]?) → G w') : St B w0 L (fun w => G w ∧ F w) w :=
  ⟨K.below, K.size, K.has, K.nodup, fun w' h1 h2 => ⟨h w' h1 h2, K.keep w' h1 h2⟩⟩
theorem St.weak (K : St B w0 L F w) (h : ∀ w, F w → G w) : St B w0 L G w := ⟨K.below, K.size, K.has, K.nodup, fun w' h1 h2 => h _ (K.keep w' h1 h2)⟩
theorem below_of_eq (h : w = w') : Below w.heap.size w w' := h ▸ Below.refl _ _
theorem St.tail {p : Blk} (K : St B w0 (p :: L) F w) : St B w0 L F w :=
  ⟨K.below, K.size, fun q hq => K.has q (List.mem_cons_of_mem _ hq), (List.nodup_cons.1 (by simpa using K.nodup)).2, fun w' h1 h2 => K.keep w' h1 fun b hb1 hb2 => h2 b hb1 fun hm => hb2 (by simp at hm ⊢; exact .inr hm)⟩
/-- A slice hangs on its own block alone. -/
theorem Sl.stays {e : TypeId} {A : Option Addr} {n : Nat} {xs : List Value} (h : Sl w e A n xs) (hb : ∀ b off p, A = some ⟨b, off, p⟩ → b ∉ L.map (·.1)) :
    ∀ w' : World, w.heap.size ≤ w'.heap.size → (∀ b, b < w.heap.size → b ∉ L.map (·.1) → w'.heap[b]? = w.heap[b]?) → Sl w' e A n xs := fun w' hs hk =>
  ⟨h.1, fun hn => by
    obtain ⟨b, off, arr, rfl, hg, hc⟩ := h.2 hn
    exact ⟨b, off, arr, rfl, (hk b (Array.getElem?_eq_some_iff.1 hg).1 (hb b off _ rfl)).trans hg, hc⟩⟩
theorem St.new_ids (K : St B w0 L F w) {A : Option Addr} {n : Nat} (h : Nw n A) (hn : w.heap.size ≤ n) : ∀ b off p, A = some ⟨b, off, p⟩ → b ∉ L.map (·.1) := fun b off p e hm => by
  obtain ⟨q, hq, rfl⟩ := List.mem_map.1 hm
  have h1 := (K.has q hq).2.lt
  have h2 := h _ _ _ e
  omega
theorem St.head_ids {p : Blk} (K : St B w0 (p :: L) F w) : ∀ b off q, some (⟨p.1, 0, none⟩ : Addr) = some ⟨b, off, q⟩ → b ∉ L.map (·.1) := fun b off q e hm => by
  have := (List.nodup_cons.1 (show (p.1 :: L.map (·.1)).Nodup from K.nodup)).1
  injection e with e
  injection e with e
  subst e
  exact this hm
/-- A callee has made a slice: it is known from here on. -/
theorem St.made (K : St B w0 L F w) (hb : Below w.heap.size w w') {e : TypeId} {A : Option Addr} {n : Nat} {xs : List Value} (h : Sl w' e A n xs) (hA : Nw w.heap.size A) : St B w0 L (fun w => Sl w e A n xs ∧ F w) w' :=
  (K.step hb).add (h.stays (K.new_ids hA (Nat.le_refl _)))
/-- A row that the call owns, as one of its blocks. -/
theorem St.row (K : St B w0 L F w) (hb : Below w.heap.size w w') {e : TypeId} {v : Value} {n : Nat} {xs : List Value} (ho : w'.ownsRow w.heap.size e 1 v n xs) (hn : 0 < n) :
    ∃ (g cap : Nat) (cur : Array Value), v = .slice (some ⟨g, 0, none⟩) n cap ∧ n ≤ cap ∧ cap ≤ 9223372036854775807 ∧ cur.size = cap ∧ cur.toList.take n = xs ∧ St B w0 ((g, cur, e) :: L) F w' := by
  rcases ho.2 with ⟨_, h⟩ | ⟨g, cap, cur, hv, hg, hh, h1, h2, h3, h4⟩
  · omega
  · have K' := K.step hb
    refine ⟨g, cap, cur, hv, h1, h2, by simpa using h3, by simpa using h4, K'.below, K'.size, fun p hp => ?_, ?_, fun w'' hs hk => K.keep w'' (Nat.le_trans hb.size hs) fun b hb1 hb2 => ?_⟩
    · rcases List.mem_cons.1 hp with rfl | hp
      · exact ⟨Nat.le_trans K.size hg, hh⟩
      · exact K'.has p hp
    · rw [List.map_cons, List.nodup_cons]
      refine ⟨fun hm => ?_, K.nodup⟩
      obtain ⟨p, hp, e⟩ := List.mem_map.1 hm
      have := (K.has p hp).2.lt
      simp only at e
      omega
    · refine (hk b (Nat.lt_of_lt_of_le hb1 hb.size) ?_).trans (hb.block b hb1)
      rw [List.map_cons, List.mem_cons]
      rintro (e | e)
      · simp only at e; omega
      · exact hb2 e
theorem St.lt (K : St B w0 L F w) (h : At L g cs t) : g < w.heap.size := (K.get h).lt
end

/-! The laws of one operation. -/
section
variable {P : Program} {B : Nat} {w0 w : World} {L L' : List Blk} {F : World → Prop} {ops : Array Oper} {rest : List Oper} {o : Oper} {a : Act} {Q : Exit → Act → World → Prop}
theorem wm_box (K : St B w0 L F w) (hgd : Region.wanted o (yielded ops a.tmps) = true) (ty : TypeId) (x : Operand) (ho : o.op = .box ty x) {v : Value} (hv : a.eval x = v) {cs : Array Value} (hc : v.cells = cs)
    (h : ∀ (b : Nat) (w' : World), St B w0 ((b, cs, ty) :: L) F w' → wpList P ops Q rest (a.put o.dst (.pointer (some ⟨b, 0, none⟩))) w') : wpList P ops Q (o :: rest) a w :=
  wl_wanted hgd fun K' hK => by
    subst hv hc
    unfold Oper.wp execOp
    simp only [ho, Instr.box, newVar, newRow, newObj, Sem.run_bind, Sem.run_pure]
    exact hK _ _ (h _ _ (K.alloc _ ty))
theorem wm_alloc (K : St B w0 L F w) (hgd : Region.wanted o (yielded ops a.tmps) = true) (ty : TypeId) (ho : o.op = .alloc ty) {v : Value} (hz : (P.info? ty).map (·.zero) = some (some v)) {cs : Array Value} (hc : v.cells = cs)
    (h : ∀ (b : Nat) (w' : World), St B w0 ((b, cs, ty) :: L) F w' → wpList P ops Q rest (a.put o.dst (.pointer (some ⟨b, 0, none⟩))) w') : wpList P ops Q (o :: rest) a w :=
  wl_wanted hgd fun K' hK => by
    subst hc
    have hz' : (zeroValue ty).run P w = .ok v w := by
      cases hq : P.info? ty with
      | none => simp [hq] at hz
      | some i =>
        have : i.zero = some v := by simpa [hq] using hz
        simp [zeroValue, typeInfo, hq, this]
    unfold Oper.wp execOp
    simp only [ho, Instr.alloc, newVar, newRow, newObj, Sem.run_bind, Sem.run_pure, Result.andThen_ok, hz']
    exact hK _ _ (h _ _ (K.alloc _ ty))
/-- A type whose values lie in n cells, as a whole: a struct or an array. -/
def RowTy (P : Program) (ty : TypeId) (n : Nat) : Prop := ∃ d, P.underlying ty = some d ∧ (match d with | .struct _ | .array _ _ => true | _ => false) = true ∧ (P.info? ty).map (·.size) = some n
/-- A type whose values lie in one cell. -/
def OneTy (P : Program) (ty : TypeId) : Prop := ∃ d, P.underlying ty = some d ∧ (match d with | .struct _ | .array _ _ => true | _ => false) = false ∧ (P.info? ty).map (·.size) = some 1
theorem wm_load (K : St B w0 L F w) (hgd : Region.wanted o (yielded ops a.tmps) = true) (ty : TypeId) (x : Operand) (ho : o.op = .load ty x) {g : Nat} (hx : a.eval x = .pointer (some ⟨g, 0, none⟩)) {cs : Array Value} {t : TypeId} (ha : At L g cs t)
    {n : Nat} (hu : RowTy P ty n) (hn : cs.size = n)
    (h : wpList P ops Q rest (a.put o.dst (.agg cs)) w) : wpList P ops Q (o :: rest) a w := by
  obtain ⟨d, h1, h2, h3⟩ := hu
  exact wl_load hgd ty x ho g hx (K.get ha) h1 (by cases d <;> simp_all) h3 hn h
theorem wm_part (K : St B w0 L F w) (hgd : Region.wanted o (yielded ops a.tmps) = true) (ty : TypeId) (x : Operand) (ho : o.op = .load ty x) {g off : Nat} (hx : a.eval x = .pointer (some ⟨g, off, none⟩)) {cs : Array Value} {t : TypeId} (ha : At L g cs t)
    {n : Nat} (hu : RowTy P ty n) (part : Array Value) (hp : ∀ (j : Nat) (v : Value), part[j]? = some v → cs[off + j]? = some v) (hn : part.size = n)
    (h : wpList P ops Q rest (a.put o.dst (.agg part)) w) : wpList P ops Q (o :: rest) a w := by
  obtain ⟨d, h1, h2, h3⟩ := hu
  exact wl_loadPart hgd ty x ho g off hx (K.get ha) part hp h1 (by cases d <;> simp_all) h3 hn h
theorem run_load_cell {ty : TypeId} (hu : OneTy P ty) {p : Addr} {v : Value} (hv : w.cell? p = some v) : (Instr.loadAt ty (.pointer (some p))).run P w = .ok v w := by
  obtain ⟨d, h1, h2, _⟩ := hu
  have hagg : (isAgg ty).run P w = .ok false w := by
    unfold isAgg
    rw [Sem.run_bind, run_underlying h1 w]
    cases d <;> simp_all
  simp [Instr.loadAt, Instr.sureAddr, loadVar, Sem.run_bind, hagg, run_load, hv]
/-- A cell, wherever it is known. -/
theorem wm_cell (hgd : Region.wanted o (yielded ops a.tmps) = true) (ty : TypeId) (x : Operand) (ho : o.op = .load ty x) {p : Addr} (hx : a.eval x = .pointer (some p)) {v : Value} (hv : w.cell? p = some v) (hu : OneTy P ty)
    (h : wpList P ops Q rest (a.put o.dst v) w) : wpList P ops Q (o :: rest) a w :=
  wl_wanted hgd fun K' hK => by
    unfold Oper.wp execOp
    simp only [ho, hx, Sem.run_bind, run_load_cell hu hv, Sem.run_pure, Result.andThen_ok]
    exact hK _ _ h
theorem wm_own (K : St B w0 L F w) (hgd : Region.wanted o (yielded ops a.tmps) = true) (ty : TypeId) (x : Operand) (ho : o.op = .load ty x) {g off : Nat} (hx : a.eval x = .pointer (some ⟨g, off, none⟩)) {cs : Array Value} {t : TypeId} (ha : At L g cs t)
    {v : Value} (hv : cs[off]? = some v) (hu : OneTy P ty) (h : wpList P ops Q rest (a.put o.dst v) w) : wpList P ops Q (o :: rest) a w :=
  wm_cell hgd ty x ho hx ((K.get ha).cell hv) hu h
theorem wm_store (K : St B w0 L F w) (hgd : Region.wanted o (yielded ops a.tmps) = true) (ty : TypeId) (x y : Operand) (ho : o.op = .store ty x y) (hdst : o.dst = none) {g : Nat} (hx : a.eval x = .pointer (some ⟨g, 0, none⟩)) {new : Array Value} (hy : a.eval y = .agg new)
    {cs : Array Value} {t : TypeId} (hp : Put L g cs t new L') {n : Nat} (hu : RowTy P ty n) (hn : new.size = n) (hold : cs.size = n) (h1 : Ones new)
    (h : ∀ w' : World, St B w0 L' F w' → wpList P ops Q rest a w') : wpList P ops Q (o :: rest) a w := by
  obtain ⟨d, _, _, h3⟩ := hu
  exact wl_store hgd ty x y ho g new hx hy (K.get hp.at) h3 hn hold h1 hdst (h _ (K.setRow hp))
theorem wm_storePart (K : St B w0 L F w) (hgd : Region.wanted o (yielded ops a.tmps) = true) (ty : TypeId) (x y : Operand) (ho : o.op = .store ty x y) (hdst : o.dst = none) {g off : Nat} (hx : a.eval x = .pointer (some ⟨g, off, none⟩)) {new : Array Value} (hy : a.eval y = .agg new)
    {cs : Array Value} {t : TypeId} (hp : Put L g cs t (over cs off new.toList) L') {n : Nat} (hu : RowTy P ty n) (hn : new.size = n) (hold : off + n ≤ cs.size) (h1 : Ones new)
    (h : ∀ w' : World, St B w0 L' F w' → wpList P ops Q rest a w') : wpList P ops Q (o :: rest) a w := by
  obtain ⟨d, _, _, h3⟩ := hu
  exact wl_storePart hgd ty x y ho g off new hx hy (K.get hp.at) h3 hn hold h1 hdst (h _ (K.setCells hp))
theorem run_store_cell {ty : TypeId} (hu : OneTy P ty) {p : Addr} {v u : Value} (hv : w.cell? p = some u) (hf : w.frozen? p = false) (h1 : v.oneCell' = true) (hc : v.cells = #[v]) :
    (Instr.storeAt ty (.pointer (some p)) v).run P w = .ok () (w.setCell p v) := by
  obtain ⟨d, _, _, h3⟩ := hu
  cases hq : P.info? ty with
  | none => simp [hq] at h3
  | some i =>
    have hs : i.size = 1 := by simpa [hq] using h3
    have ha : p.add 0 = p := by cases p; unfold Addr.add; split <;> simp_all
    simp [Instr.storeAt, Instr.sureAddr, storeVar, sizeOf, typeInfo, hq, hs, hc, storeCells, run_store P w p v _ h1, hv, hf, ha]
theorem wm_put (K : St B w0 L F w) (hgd : Region.wanted o (yielded ops a.tmps) = true) (ty : TypeId) (x y : Operand) (ho : o.op = .store ty x y) (hdst : o.dst = none) {g off : Nat} (hx : a.eval x = .pointer (some ⟨g, off, none⟩)) {v : Value} (hy : a.eval y = v)
    {cs new : Array Value} {t : TypeId} (hp : Put L g cs t new L') (hs : off < cs.size) (hnew : cs.setIfInBounds off v = new) (hu : OneTy P ty) (h1 : v.oneCell' = true) (hc : v.cells = #[v])
    (h : ∀ w' : World, St B w0 L' F w' → wpList P ops Q rest a w') : wpList P ops Q (o :: rest) a w :=
  wl_wanted hgd fun K' hK => by
    subst hnew
    have hcell := (K.get hp.at).cell (Array.getElem?_eq_getElem (i := off) hs)
    unfold Oper.wp execOp
    simp only [ho, hx, hy, Sem.run_bind, run_store_cell hu hcell ((K.get hp.at).free off) h1 hc, Sem.run_pure, Result.andThen_ok, Oper.upon, hdst]
    exact hK _ _ (h _ (K.setCell hp))
end

/-! Regions that draw their order, over the class of the worlds that one such fact is true of. -/
section
variable {P : Program} {B : Nat} {w0 w : World} {L L' : List Blk} {F : World → Prop} {ops : Array Oper} {rest : List Oper} {o : Oper} {a : Act} {Q : Exit → Act → World → Prop} {C : World → Prop} {R : Act → Prop}
theorem wm_region {id : Nat} {os : List Oper} (K : St B w0 L F w) (hm : P.follows .mixedOrders = true) (hB : Region.lexB .any os.toArray = true)
    (h : wpQuiet P os.toArray (St B w0 L F) (fun a' => ∀ w', St B w0 L F w' → Q .normal a' w') os a) : (Code.region id os.toArray true).wp P Q a w :=
  wp_region_quiet (C := St B w0 L F) hm hB K.drew (by simpa using h)
theorem wm_region_tail {id : Nat} {os : List Oper} (n : Nat) (K : St B w0 L F w) (hm : P.follows .mixedOrders = true) (hB : Region.lexTailB .any os.toArray n = true)
    (h : wpQuiet P os.toArray (St B w0 L F) (fun a' => ∀ w', St B w0 L F w' → wpList P os.toArray Q (os.drop n) a' w') (os.take n) a) : (Code.region id os.toArray true).wp P Q a w :=
  wp_region_class_tail (C := St B w0 L F) n hm hB K.drew h
theorem wn_load (hgd : Region.wanted o (yielded ops a.tmps) = true) (ty : TypeId) (x : Operand) (ho : o.op = .load ty x) {g : Nat} (hx : a.eval x = .pointer (some ⟨g, 0, none⟩)) {cs : Array Value} {t : TypeId} (ha : At L g cs t)
    {n : Nat} (hu : RowTy P ty n) (hn : cs.size = n)
    (h : wpQuiet P ops (St B w0 L F) R rest (a.put o.dst (.agg cs))) : wpQuiet P ops (St B w0 L F) R (o :: rest) a := by
  obtain ⟨d, h1, h2, h3⟩ := hu
  exact wq_load hgd ty x ho g hx (fun w K => K.get ha) h1 (by cases d <;> simp_all) h3 hn h
theorem wn_part (hgd : Region.wanted o (yielded ops a.tmps) = true) (ty : TypeId) (x : Operand) (ho : o.op = .load ty x) {g off : Nat} (hx : a.eval x = .pointer (some ⟨g, off, none⟩)) {cs : Array Value} {t : TypeId} (ha : At L g cs t)
    {n : Nat} (hu : RowTy P ty n) (part : Array Value) (hp : ∀ (j : Nat) (v : Value), part[j]? = some v → cs[off + j]? = some v) (hn : part.size = n)
    (h : wpQuiet P ops (St B w0 L F) R rest (a.put o.dst (.agg part))) : wpQuiet P ops (St B w0 L F) R (o :: rest) a := by
  obtain ⟨d, h1, h2, h3⟩ := hu
  refine wq_cell hgd (.agg part) (fun w K => ?_) h
  have := run_loadVar_mid (P := P) w g off ty part.toList d (fun j v hv => (K.get ha).cell (hp j v (by simpa using hv))) h1 (by cases d <;> simp_all) (by rw [Array.length_toList, hn]; exact h3)
  unfold execOp
  simp only [ho, hx, Instr.loadAt, Instr.sureAddr, Sem.run_bind, Sem.run_pure, Result.andThen_ok, this, Array.toArray_toList]
theorem wn_cell (hgd : Region.wanted o (yielded ops a.tmps) = true) (ty : TypeId) (x : Operand) (ho : o.op = .load ty x) {p : Addr} (hx : a.eval x = .pointer (some p)) {v : Value} (hv : ∀ w, C w → w.cell? p = some v) (hu : OneTy P ty)
    (h : wpQuiet P ops C R rest (a.put o.dst v)) : wpQuiet P ops C R (o :: rest) a :=
  wq_cell hgd v (fun w hC => by
    unfold execOp
    simp only [ho, hx, Sem.run_bind, run_load_cell hu (hv w hC), Sem.run_pure, Result.andThen_ok]) h
theorem wn_own (hgd : Region.wanted o (yielded ops a.tmps) = true) (ty : TypeId) (x : Operand) (ho : o.op = .load ty x) {g off : Nat} (hx : a.eval x = .pointer (some ⟨g, off, none⟩)) {cs : Array Value} {t : TypeId} (ha : At L g cs t)
    {v : Value} (hv : cs[off]? = some v) (hu : OneTy P ty) (h : wpQuiet P ops (St B w0 L F) R rest (a.put o.dst v)) : wpQuiet P ops (St B w0 L F) R (o :: rest) a :=
  wn_cell hgd ty x ho hx (fun w K => (K.get ha).cell hv) hu h
/-- The results of a function, the first or the second in a block. -/
theorem St.res (K : St B w0 L F w) {fn : Func} {p : Tmp} {ty : TypeId} (h : fn.results = #[.cell p ty]) (tmps : Array Value) {g : Nat} {cs : Array Value} {t : TypeId} (hp : tmps.getD p undef = .pointer (some ⟨g, 0, none⟩)) (ha : At L g cs t)
    {n : Nat} (hu : RowTy P ty n) (hn : cs.size = n) : (results fn tmps).run P w = .ok (.agg cs) w := by
  obtain ⟨d, h1, h2, h3⟩ := hu
  exact results_has h tmps hp (K.get ha) h1 (by cases d <;> simp_all) h3 hn
theorem St.res2 (K : St B w0 L F w) {fn : Func} {p q : Tmp} {ty : TypeId} (h : fn.results = #[.cell p ty, .tmp q]) (tmps : Array Value) {g : Nat} {cs : Array Value} {t : TypeId} (hp : tmps.getD p undef = .pointer (some ⟨g, 0, none⟩)) (ha : At L g cs t)
    {n : Nat} (hu : RowTy P ty n) (hn : cs.size = n) {v : Value} (hq : tmps.getD q undef = v) : (results fn tmps).run P w = .ok (.tuple #[.agg cs, v]) w := by
  obtain ⟨d, h1, h2, h3⟩ := hu
  subst hq
  exact results_has2 h tmps hp (K.get ha) h1 (by cases d <;> simp_all) h3 hn
end

/-! Guards, which do nothing, and fail at once where another operation stands. -/
section
variable {P : Program} {w : World} {ops : Array Oper} {rest : List Oper} {a : Act} {Q : Exit → Act → World → Prop} {C : World → Prop} {R : Act → Prop} {dst : Option Tmp} {type : TypeId} {pos : String} {after : Array Edge} {guard : Option (Nat × Bool)} {ty : TypeId} {x y : Operand}
theorem at_load (h : wpList P ops Q (⟨dst, .load ty x, type, pos, after, guard⟩ :: rest) a w) : wpList P ops Q (⟨dst, .load ty x, type, pos, after, guard⟩ :: rest) a w := h
theorem at_store (h : wpList P ops Q (⟨dst, .store ty x y, type, pos, after, guard⟩ :: rest) a w) : wpList P ops Q (⟨dst, .store ty x y, type, pos, after, guard⟩ :: rest) a w := h
theorem at_box (h : wpList P ops Q (⟨dst, .box ty x, type, pos, after, guard⟩ :: rest) a w) : wpList P ops Q (⟨dst, .box ty x, type, pos, after, guard⟩ :: rest) a w := h
theorem at_alloc (h : wpList P ops Q (⟨dst, .alloc ty, type, pos, after, guard⟩ :: rest) a w) : wpList P ops Q (⟨dst, .alloc ty, type, pos, after, guard⟩ :: rest) a w := h
theorem at_makeSl (h : wpList P ops Q (⟨dst, .makeSlice ty x y, type, pos, after, guard⟩ :: rest) a w) : wpList P ops Q (⟨dst, .makeSlice ty x y, type, pos, after, guard⟩ :: rest) a w := h
theorem qt_load (h : wpQuiet P ops C R (⟨dst, .load ty x, type, pos, after, guard⟩ :: rest) a) : wpQuiet P ops C R (⟨dst, .load ty x, type, pos, after, guard⟩ :: rest) a := h
end
section
variable {P : Program} {B : Nat} {w0 w : World} {L L' : List Blk} {F : World → Prop} {ops : Array Oper} {rest : List Oper} {o : Oper} {a : Act} {Q : Exit → Act → World → Prop}
/-- make([]T, n) of numbers. -/
theorem wm_make (K : St B w0 L F w) (hgd : Region.wanted o (yielded ops a.tmps) = true) (l c : Operand) (t : TypeId) (ho : o.op = .makeSlice t l c) {e : TypeId} (ht : P.underlying t = some (.slice e)) {k : IntKind} {bs : Nat}
    (hi : (P.info? e).map (fun i => (i.zero, i.size, i.bytes)) = some (some (.int k 0), 1, bs)) (n : Nat) {kl kc : IntKind} {N C : Int} (hl : a.eval l = .int kl N) (hc : a.eval c = .int kc C) (hL : N = (n : Int)) (hC : C = (n : Int)) (hb : bs * n ≤ 281474976710656) (hn : n ≤ 4611686018427387904)
    (h : ∀ (b : Nat) (w' : World), St B w0 ((b, (nums k (List.replicate n 0)).toArray, e) :: L) F w' → wpList P ops Q rest (a.put o.dst (.slice (some ⟨b, 0, none⟩) n n)) w') : wpList P ops Q (o :: rest) a w :=
  wl_make hgd l c t ho e ht hi n hl hc hL hC hb hn (h _ _ (K.alloc _ e))
end
end Go.Proofs.Yteancdipmpmjpaa
