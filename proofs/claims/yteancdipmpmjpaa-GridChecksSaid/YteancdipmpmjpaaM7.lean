/-
  Regions that draw their order and whose last operations, one behind the other, do what they like (a store, say), while all that stand ahead of these only read, or call functions that leave what was there as it was: walked once, in the order of the text, over a class of worlds. No condition: a law of the walk, no claim of its own.
  A walk's memory as one fact: the blocks that the call has made (each with its number, its cells and its type), what else is known of the world ('F'), and that what was there before the call is as it was ('St'). The laws of box, alloc, load, store, and of regions that draw their order, in these words: each hands on one such fact of a new world. No condition: a kit of lemmas, no claim of its own.
  The types of the program: whether their values lie in one cell or in a row of cells, and what a new one holds. (Printed by a small program of mine off the program's types.) No condition.
  Regions that draw their order, walked in one order that is told: an operation that only reads, and reads the same in every world that meets 'S', may be taken as soon as it may come up; another one where it alone may come up. One check of the order, by the kernel, serves the whole region. No condition: laws of the walk, no claim of their own.
  Regions that draw their order, walked in one order that is told, as in the text before, whose last operations, one behind the other, do what they like: what they write may have been read ahead of them. No condition: laws of the walk, no claim of their own.
  Drawn regions with one order: a load of a whole row as it is now. No condition: a law of the walk.
  Regions that draw their order, walked in all the orders that are left behind those operations that may be taken first: the orders are told as a tree. No condition: laws of the walk, no claim of their own.
  Regions whose allocations float, the rest: a load of one cell. No condition: a law of the walk.
  Regions whose operations come in several orders, the rest: a load of what is known now, a store into one cell. No condition: laws of the walk.
  Small laws of a walk's memory, the rest. No condition: a kit of lemmas, no claim of its own.
  A block of the caller's, to which a callee is handed a pointer: where it stands among the blocks is told by a function of its cells. No condition: laws of the walk.
  Regions whose operations come in several orders: a load of a whole row as it is now. No condition: laws of the walk.
  The check of a region's order, quick for the kernel: what is listed, what an operation waits for, writes and looks at, each as a number's bits. No condition: laws of the walk, no claim of their own.
-/
import Derived.Test.YteancdipmpmjpaaM6
import Derived.StillTail
import Derived.Test.YteancdipmpmjpaaProg
namespace Go.Proofs.Yteancdipmpmjpaa
open Go.RowKit
set_option linter.unusedVariables false

section
variable {P : Program} {ops : Array Oper} {md : Region.Mode} {C : World → Prop}

/-- Whatever order is picked among the first n operations, each of which is quiet in the class, 'L' holds of what is left. -/
def HeadQ (P : Program) (md : Region.Mode) (ops : Array Oper) (C : World → Prop) (n : Nat) (L : Array Bool → Act → Prop) : Nat → Array Bool → Act → Prop
  | 0, d, a => L d a
  | f + 1, d, a => Region.ready md ops d ≠ [] ∧ ∀ i ∈ Region.ready md ops d, i < n ∧ qOp P ops C i (HeadQ P md ops C n L f (d.setIfInBounds i true)) a

theorem HeadQ.any {n g : Nat} {L : Array Bool → Act → Prop} {Q : Exit → Act → World → Prop} (hL : ∀ d a w, C w → L d a → wpAny P md ops Q g d a w) (f : Nat) :
    ∀ (d : Array Bool) (a : Act) (w : World), C w → HeadQ P md ops C n L f d a → wpAny P md ops Q (f + g) d a w := by
  induction f with
  | zero => intro d a w hC h; rw [Nat.zero_add]; exact hL d a w hC h
  | succ f ih =>
    intro d a w hC h
    rw [Nat.add_right_comm]
    refine ⟨fun h0 => absurd h0 h.1, fun i hi => ?_⟩
    exact wpOp_of_qOp hC (fun a' w' hC' h' => ih _ a' w' hC' h') (h.2 i hi).2

theorem HeadQ.first {n i : Nat} {o : Oper} {v : Value} {L : Array Bool → Act → Prop} (hi : ops[i]? = some o) (hsel : Region.noSelect ops = true) (hs : Region.sinkB md ops n = true) (hc : Region.chainB md ops n = true)
    (hn : n < ops.size) (hin : i < n) (hdone : ∀ d a, L d a → ∀ j ∈ Region.ready md ops d, n ≤ j) (f : Nat) :
    ∀ (d : Array Bool) (a : Act), HeadInv md ops n d → (∀ j p, ops[j]? = some p → j ≠ i → d.getD j true = false → (∀ e ∈ p.after, Region.binds md e = true → e.on ≠ i) → o.apart ops p = true) →
      i ∈ Region.ready md ops d → YieldsIn P ops C o v a → HeadQ P md ops C n L f (d.setIfInBounds i true) (a.put o.dst v) → HeadQ P md ops C n L (f + 1) d a := by
  induction f with
  | zero =>
    intro d a inv _ hr hy H
    refine ⟨List.ne_nil_of_mem hr, fun j hj => ?_⟩
    have hjn : j < n := Nat.lt_of_not_le fun h => tail_waits hs hc hn inv _ i rfl hin (mem_ready.1 hr).1 j h hj
    rcases Decidable.em (j = i) with rfl | hji
    · exact ⟨hjn, hy.qOp hi H⟩
    · have := hdone _ _ H j (ready_mono hj hji); omega
  | succ f ih =>
    intro d a inv hfree hr hy H
    refine ⟨List.ne_nil_of_mem hr, fun j hj => ?_⟩
    have hun := (mem_ready.1 hr).1
    have hjn : j < n := Nat.lt_of_not_le fun h => tail_waits hs hc hn inv _ i rfl hin hun j h hj
    refine ⟨hjn, ?_⟩
    rcases Decidable.em (j = i) with rfl | hji
    · exact hy.qOp hi H
    obtain ⟨hjun, p, hp, hall⟩ := mem_ready.1 hj
    have hno : ∀ e ∈ p.after, Region.binds md e = true → e.on ≠ i := by
      intro e he hb heq
      have := hall e he hb
      rw [heq, getD_both hun] at this
      cases this
    have q := qOp_put hp (hfree j p hp hji hjun hno) (fun cs b => Region.noSelect_spec hsel i o cs b hi) (fun cs b => Region.noSelect_spec hsel j p cs b hp) hy (H.2 j (ready_mono hj hji)).2
    refine qOp_mono (fun a' h3 => ih (d.setIfInBounds j true) a' (inv.set hj hjn) ?_ (ready_mono hr (Ne.symm hji)) h3.1 ?_) q
    · intro k r hk hki hku hkn
      refine hfree k r hk hki ?_ hkn
      rcases Decidable.em (j = k) with rfl | hjk
      · exact hjun
      · rwa [getD_set_ne true hjk] at hku
    · rw [Array.setIfInBounds_comm _ _ hji]; exact h3.2

theorem HeadQ.lex {n g : Nat} {Lq : Act → Prop} (hsel : Region.noSelect ops = true) (hs : Region.sinkB md ops n = true) (hc : Region.chainB md ops n = true) (hn : n < ops.size) :
    ∀ (l : List Oper) (k : Nat) (d : Array Bool) (a : Act), (∀ j, j < l.length → l[j]? = ops[k + j]?) → k + l.length = n → HeadInv md ops n d → Region.lexHead md ops g l.length k d = true →
      wpQuiet P ops C Lq l a → HeadQ P md ops C n (fun d' a' => Region.seqB md ops g n d' = true ∧ Lq a') l.length d a := by
  intro l
  induction l with
  | nil =>
    intro k d a _ hk _ hB h
    have : k = n := by simpa using hk
    subst this
    exact ⟨by simpa [Region.lexHead] using hB, h⟩
  | cons o l ih =>
    intro k d a hl hk inv hB h
    simp only [List.length_cons] at hk hl
    have h0 : ops[k]? = some o := by simpa using (hl 0 (by omega)).symm
    simp only [List.length_cons, Region.lexHead, Bool.and_eq_true] at hB
    have hr : k ∈ Region.ready md ops d := by simpa using hB.1.1
    have hq : qOp P ops C k (wpQuiet P ops C Lq l) a := by unfold qOp; simp only [h0]; exact h
    obtain ⟨v, hy, hK⟩ := yieldsIn_of_qOp h0 hq
    refine HeadQ.first h0 hsel hs hc hn (by omega) (fun d' a' hL => seqB_ready hL.1) l.length d a inv (Region.free_spec h0 hB.1.2) hr hy ?_
    refine ih (k + 1) _ _ (fun j hj => ?_) (by omega) (inv.set hr (by omega)) hB.2 hK
    have := hl (j + 1) (by omega)
    rw [List.getElem?_cons_succ] at this
    rw [this]
    congr 1
    omega

/-- The law: quiet operations over the class, in the order of the text, then the last ones, one behind the other. -/
theorem wp_region_class_tail {id : Nat} {Q : Exit → Act → World → Prop} {a : Act} {w : World} {l : List Oper} (n : Nat) (hm : P.follows .mixedOrders = true) (hB : Region.lexTailB .any l.toArray n = true) (hC : C w.drew)
    (h : wpQuiet P l.toArray C (fun a' => ∀ w', C w' → wpList P l.toArray Q (l.drop n) a' w') (l.take n) a) : (Code.region id l.toArray true).wp P Q a w := by
  simp only [Region.lexTailB, Bool.and_eq_true, decide_eq_true_eq] at hB
  obtain ⟨⟨⟨⟨hsel, hn⟩, hs⟩, hc⟩, hlex⟩ := hB
  have hn' : n < l.length := by simpa using hn
  have htl : (l.take n).length = n := by rw [List.length_take]; omega
  have hdl : (l.drop n).length = l.toArray.size - n := by simp
  have inv : HeadInv .any l.toArray n (Array.replicate l.toArray.size false) :=
    ⟨by simp, fun j p _ hl => (by rw [getD_replicate_false] at hl; cases hl), fun t _ ht => getD_in (by simpa using ht) (getD_replicate_false _ _)⟩
  have H := HeadQ.lex (md := .any) (g := l.toArray.size - n) hsel hs hc hn (l.take n) 0 _ a (fun j hj => by
    have hj' : j < n := by omega
    simp [hj']) (by omega) inv (by rw [htl]; exact hlex) h
  refine wp_region_any hm ?_
  have := HeadQ.any (C := C) (Q := Q) (g := l.toArray.size - n) (fun d a' w' hC' hL => by
    have := wpAny_of_seq (md := .any) (Q' := Q) (l.drop n) n d a' w' (fun j => by simp [List.getElem?_drop]) (by rw [hdl]; exact hL.1) (hL.2 w' hC')
    rwa [hdl] at this) _ _ a _ hC H
  rw [htl, show n + (l.toArray.size - n) = l.toArray.size by omega] at this
  exact this

theorem wp_region_keeps_tail {id : Nat} {Q : Exit → Act → World → Prop} {a : Act} {w w0 : World} {B : Nat} {bl : List (Nat × Array Value × TypeId)} {l : List Oper} (n : Nat) (hm : P.follows .mixedOrders = true) (hB : Region.lexTailB .any l.toArray n = true) (hC : Keeps B w0 bl w)
    (h : wpQuiet P l.toArray (Keeps B w0 bl) (fun a' => ∀ w', Keeps B w0 bl w' → wpList P l.toArray Q (l.drop n) a' w') (l.take n) a) : (Code.region id l.toArray true).wp P Q a w :=
  wp_region_class_tail n hm hB hC.drew h
end
end Go.Proofs.Yteancdipmpmjpaa
namespace Go.Proofs.Yteancdipmpmjpaa
open Go.RowKit
set_option linter.unusedVariables false

/-- A block: its number, its cells, its type. -/
abbrev Blk := Nat × Array Value × TypeId
/-- Block g is among these. -/
inductive At : List Blk → Nat → Array Value → TypeId → Prop
  | hd {L : List Blk} {g : Nat} {cs : Array Value} {t : TypeId} : At ((g, cs, t) :: L) g cs t
  | tl {L : List Blk} {p : Blk} {g : Nat} {cs : Array Value} {t : TypeId} : At L g cs t → At (p :: L) g cs t
/-- The same blocks, but that g holds new cells. -/
inductive Put : List Blk → Nat → Array Value → TypeId → Array Value → List Blk → Prop
  | hd {L : List Blk} {g : Nat} {cs new : Array Value} {t : TypeId} : Put ((g, cs, t) :: L) g cs t new ((g, new, t) :: L)
  | tl {L L' : List Blk} {p : Blk} {g : Nat} {cs new : Array Value} {t : TypeId} : Put L g cs t new L' → Put (p :: L) g cs t new (p :: L')

structure St (B : Nat) (w0 : World) (L : List Blk) (F : World → Prop) (w : World) : Prop where
  below : Below B w0 w
  size : B ≤ w.heap.size
  has : ∀ p ∈ L, B ≤ p.1 ∧ Has w p.1 p.2.1 p.2.2
  nodup : (L.map (·.1)).Nodup
  keep : ∀ w' : World, w.heap.size ≤ w'.heap.size → (∀ b, b < w.heap.size → b ∉ L.map (·.1) → w'.heap[b]? = w.heap[b]?) → F w'

/-- Nothing else is known. -/
def Any : World → Prop := fun _ => True

theorem At.mem {L : List Blk} {g : Nat} {cs : Array Value} {t : TypeId} (h : At L g cs t) : (g, cs, t) ∈ L := by
  induction h with
  | hd => simp
  | tl _ ih => exact List.mem_cons_of_mem _ ih
theorem Put.at {L L' : List Blk} {g : Nat} {cs new : Array Value} {t : TypeId} (h : Put L g cs t new L') : At L g cs t := by
  induction h with
  | hd => exact .hd
  | tl _ ih => exact .tl ih
theorem Put.ids {L L' : List Blk} {g : Nat} {cs new : Array Value} {t : TypeId} (h : Put L g cs t new L') : L'.map (·.1) = L.map (·.1) := by
  induction h with
  | hd => rfl
  | tl _ ih => simp [ih]
theorem Put.mem {L L' : List Blk} {g : Nat} {cs new : Array Value} {t : TypeId} (h : Put L g cs t new L') (hn : (L.map (·.1)).Nodup) : ∀ p ∈ L', p = (g, new, t) ∨ p ∈ L ∧ p.1 ≠ g := by
  induction h with
  | hd =>
    intro p hp
    simp only [List.map_cons, List.nodup_cons] at hn
    rcases List.mem_cons.1 hp with rfl | hp
    · exact .inl rfl
    · exact .inr ⟨List.mem_cons_of_mem _ hp, fun e => hn.1 (List.mem_map.2 ⟨p, hp, e⟩)⟩
  | tl h ih =>
    intro p hp
    simp only [List.map_cons, List.nodup_cons] at hn
    rcases List.mem_cons.1 hp with rfl | hp
    · exact .inr ⟨List.mem_cons_self, fun e => hn.1 (List.mem_map.2 ⟨_, h.at.mem, e.symm⟩)⟩
    · rcases ih hn.2 p hp with rfl | ⟨h1, h2⟩
      · exact .inl rfl
      · exact .inr ⟨List.mem_cons_of_mem _ h1, h2⟩

section
variable {B : Nat} {w0 w w' : World} {L L' : List Blk} {F G : World → Prop} {g : Nat} {cs new : Array Value} {t : TypeId}
theorem St.start (w : World) : St w.heap.size w [] Any w := ⟨Below.refl _ _, Nat.le_refl _, (fun _ h => by cases h), (by simp), fun _ _ _ => trivial⟩
theorem St.startF (w : World) (F : World → Prop) (h : ∀ w', Below w.heap.size w w' → F w') (hF : ∀ a b : World, a.heap = b.heap → F a → F b) : St w.heap.size w [] F w :=
  ⟨Below.refl _ _, Nat.le_refl _, (fun _ h => by cases h), (by simp), fun w' hs hb => hF { w with heap := w'.heap } w' rfl (h _ ⟨rfl, rfl, rfl, hs, fun k hk => hb k hk (by simp)⟩)⟩
theorem St.get (K : St B w0 L F w) (h : At L g cs t) : Has w g cs t := (K.has _ h.mem).2
theorem St.ge (K : St B w0 L F w) (h : At L g cs t) : B ≤ g := (K.has _ h.mem).1
theorem St.fact (K : St B w0 L F w) : F w := K.keep w (Nat.le_refl _) fun _ _ _ => rfl
/-- A world that is as this one was on all that was there. -/
theorem St.step (K : St B w0 L F w) (h : Below w.heap.size w w') : St B w0 L F w' :=
  ⟨below_step K.below h K.size, Nat.le_trans K.size h.size, fun p hp => ⟨(K.has p hp).1, (K.has p hp).2.below h⟩, K.nodup,
    fun w'' hs hb => K.keep w'' (Nat.le_trans h.size hs) fun b hb1 hb2 => (hb b (Nat.lt_of_lt_of_le hb1 h.size) hb2).trans (h.block b hb1)⟩
theorem St.drew (K : St B w0 L F w) : St B w0 L F w.drew := K.step (Below.refl _ _).drew
theorem St.alloc (K : St B w0 L F w) (cs : Array Value) (t : TypeId) : St B w0 ((w.heap.size, cs, t) :: L) F (w.alloc (.cells cs t)) := by
  have hb : Below w.heap.size w (w.alloc (.cells cs t)) := (Below.refl _ _).alloc (Nat.le_refl _) _
  refine ⟨below_step K.below hb K.size, Nat.le_trans K.size hb.size, fun p hp => ?_, ?_, fun w'' hs hk => K.keep w'' (Nat.le_trans hb.size hs) fun b h1 h2 => ?_⟩
  · rcases List.mem_cons.1 hp with rfl | hp
    · exact ⟨K.size, Has.new w cs t⟩
    · exact ⟨(K.has p hp).1, (K.has p hp).2.below hb⟩
  · rw [List.map_cons, List.nodup_cons]
    refine ⟨fun hm => ?_, K.nodup⟩
    obtain ⟨p, hp, e⟩ := List.mem_map.1 hm
    have := (K.has p hp).2.lt
    simp only at e
    omega
  · refine (hk b (Nat.lt_of_lt_of_le h1 hb.size) ?_).trans (hb.block b h1)
    rw [List.map_cons, List.mem_cons]
    rintro (e | e)
    · simp only at e; omega
    · exact h2 e
/-- One of its blocks is written. -/
theorem St.write (K : St B w0 L F w) (hp : Put L g cs t new L') (hg : Has w' g new t) (hs : w'.heap.size = w.heap.size) (ho : ∀ b, b ≠ g → w'.heap[b]? = w.heap[b]?) (hw : Below B w w') : St B w0 L' F w' := by
  have ha := hp.at
  refine ⟨K.below.trans hw, by rw [hs]; exact K.size, fun p hm => ?_, by rw [hp.ids]; exact K.nodup, fun w'' hs' hk => K.keep w'' (by omega) fun b h1 h2 => ?_⟩
  · rcases hp.mem K.nodup p hm with rfl | ⟨h1, h2⟩
    · exact ⟨K.ge ha, hg⟩
    · exact ⟨(K.has p h1).1, (ho _ h2).trans (K.has p h1).2⟩
  · refine (hk b (by omega) (by rw [hp.ids]; exact h2)).trans (ho b ?_)
    rintro rfl
    exact h2 (List.mem_map.2 ⟨_, ha.mem, rfl⟩)
theorem St.setRow (K : St B w0 L F w) (hp : Put L g cs t new L') : St B w0 L' F (w.setRow g new) :=
  K.write hp ((K.get hp.at).row new) (size_setRow _ _ _) (fun b hb => setRow_other w g b new hb) (below_setRow (Below.refl _ _) (K.ge hp.at) new)
theorem St.setCell (K : St B w0 L F w) {i : Nat} {v : Value} (hp : Put L g cs t (cs.setIfInBounds i v) L') : St B w0 L' F (w.setCell ⟨g, i, none⟩ v) :=
  K.write hp ((K.get hp.at).set i v) (by simp [World.setCell]) (fun b hb => heap_setCell_other w _ b v hb) ((Below.refl _ _).setCell (K.ge hp.at) v)
theorem heap_setCells_other (w : World) (g o b : Nat) (hb : b ≠ g) : ∀ (xs : List Value) {w : World} (o : Nat), (w.setCells g o xs).heap[b]? = w.heap[b]?
  | [], _, _ => rfl
  | v :: r, w, o => by rw [World.setCells, heap_setCells_other w g o b hb r]; exact heap_setCell_other w _ b v hb
theorem St.setCells (K : St B w0 L F w) {o : Nat} {xs : List Value} (hp : Put L g cs t (over cs o xs) L') : St B w0 L' F (w.setCells g o xs) :=
  K.write hp (Has.cells xs o (K.get hp.at)) (size_setCells xs o) (fun b hb => heap_setCells_other w g o b hb xs o) (below_setCells (K.ge hp.at) xs o (Below.refl _ _))
/-- A fact more, which hangs on no block of these. -/
theorem St.add (K : St B w0 L F w) (h : ∀ w' : World, w.heap.size ≤ w'.heap.size → (∀ b, b < w.heap.size → b ∉ L.map (·.1) → w'.heap[b]? = w.heap[b]?) → G w') : St B w0 L (fun w => G w ∧ F w) w :=
  ⟨K.below, K.size, K.has, K.nodup, fun w' h1 h2 => ⟨h w' h1 h2, K.keep w' h1 h2⟩⟩
theorem St.weak (K : St B w0 L F w) (h : ∀ w, F w → G w) : St B w0 L G w := ⟨K.below, K.size, K.has, K.nodup, fun w' h1 h2 => h _ (K.keep w' h1 h2)⟩
theorem below_of_eq (h : w = w') : Below w.heap.size w w' := h ▸ Below.refl _ _
theorem St.tail {p : Blk} (K : St B w0 (p :: L) F w) : St B w0 L F w :=
  ⟨K.below, K.size, fun q hq => K.has q (List.mem_cons_of_mem _ hq), (List.nodup_cons.1 (by simpa using K.nodup)).2, fun w' h1 h2 => K.keep w' h1 fun b hb1 hb2 => h2 b hb1 fun hm => hb2 (by simp at hm ⊢; exact .inr hm)⟩
/-- A slice hangs on its own block alone. -/
theorem Sl.stays {e : TypeId} {A : Option Addr} {n : Nat} {xs : List Value} (h : Sl w e A n xs) (hb : ∀ b off p, A = some ⟨b, off, p⟩ → b ∉ L.map (·.1)) :
    ∀ w' : World, w.heap.size ≤ w'.heap.size → (∀ b, b < w.heap.size → b ∉ L.map (·.1) → w'.heap[b]? = w.heap[b]?) → Sl w' e A n xs := fun w' hs hk =>
  ⟨h.1, fun hn => by
    obtain ⟨b, off, arr, rfl, hg, hc⟩ := h.2 hn
    exact ⟨b, off, arr, rfl, (hk b (Array.getElem?_eq_some_iff.1 hg).1 (hb b off _ rfl)).trans hg, hc⟩⟩
theorem St.new_ids (K : St B w0 L F w) {A : Option Addr} {n : Nat} (h : Nw n A) (hn : w.heap.size ≤ n) : ∀ b off p, A = some ⟨b, off, p⟩ → b ∉ L.map (·.1) := fun b off p e hm => by
  obtain ⟨q, hq, rfl⟩ := List.mem_map.1 hm
  have h1 := (K.has q hq).2.lt
  have h2 := h _ _ _ e
  omega
theorem St.head_ids {p : Blk} (K : St B w0 (p :: L) F w) : ∀ b off q, some (⟨p.1, 0, none⟩ : Addr) = some ⟨b, off, q⟩ → b ∉ L.map (·.1) := fun b off q e hm => by
  have := (List.nodup_cons.1 (show (p.1 :: L.map (·.1)).Nodup from K.nodup)).1
  injection e with e
  injection e with e
  subst e
  exact this hm
/-- A callee has made a slice: it is known from here on. -/
theorem St.made (K : St B w0 L F w) (hb : Below w.heap.size w w') {e : TypeId} {A : Option Addr} {n : Nat} {xs : List Value} (h : Sl w' e A n xs) (hA : Nw w.heap.size A) : St B w0 L (fun w => Sl w e A n xs ∧ F w) w' :=
  (K.step hb).add (h.stays (K.new_ids hA (Nat.le_refl _)))
/-- A row that the call owns, as one of its blocks. -/
theorem St.row (K : St B w0 L F w) (hb : Below w.heap.size w w') {e : TypeId} {v : Value} {n : Nat} {xs : List Value} (ho : w'.ownsRow w.heap.size e 1 v n xs) (hn : 0 < n) :
    ∃ (g cap : Nat) (cur : Array Value), v = .slice (some ⟨g, 0, none⟩) n cap ∧ n ≤ cap ∧ cap ≤ 9223372036854775807 ∧ cur.size = cap ∧ cur.toList.take n = xs ∧ St B w0 ((g, cur, e) :: L) F w' := by
  rcases ho.2 with ⟨_, h⟩ | ⟨g, cap, cur, hv, hg, hh, h1, h2, h3, h4⟩
  · omega
  · have K' := K.step hb
    refine ⟨g, cap, cur, hv, h1, h2, by simpa using h3, by simpa using h4, K'.below, K'.size, fun p hp => ?_, ?_, fun w'' hs hk => K.keep w'' (Nat.le_trans hb.size hs) fun b hb1 hb2 => ?_⟩
    · rcases List.mem_cons.1 hp with rfl | hp
      · exact ⟨Nat.le_trans K.size hg, hh⟩
      · exact K'.has p hp
    · rw [List.map_cons, List.nodup_cons]
      refine ⟨fun hm => ?_, K.nodup⟩
      obtain ⟨p, hp, e⟩ := List.mem_map.1 hm
      have := (K.has p hp).2.lt
      simp only at e
      omega
    · refine (hk b (Nat.lt_of_lt_of_le hb1 hb.size) ?_).trans (hb.block b hb1)
      rw [List.map_cons, List.mem_cons]
      rintro (e | e)
      · simp only at e; omega
      · exact hb2 e
theorem St.lt (K : St B w0 L F w) (h : At L g cs t) : g < w.heap.size := (K.get h).lt
end

/-! The laws of one operation. -/
section
variable {P : Program} {B : Nat} {w0 w : World} {L L' : List Blk} {F : World → Prop} {ops : Array Oper} {rest : List Oper} {o : Oper} {a : Act} {Q : Exit → Act → World → Prop}
theorem wm_box (K : St B w0 L F w) (hgd : Region.wanted o (yielded ops a.tmps) = true) (ty : TypeId) (x : Operand) (ho : o.op = .box ty x) {v : Value} (hv : a.eval x = v) {cs : Array Value} (hc : v.cells = cs)
    (h : ∀ (b : Nat) (w' : World), St B w0 ((b, cs, ty) :: L) F w' → wpList P ops Q rest (a.put o.dst (.pointer (some ⟨b, 0, none⟩))) w') : wpList P ops Q (o :: rest) a w :=
  wl_wanted hgd fun K' hK => by
    subst hv hc
    unfold Oper.wp execOp
    simp only [ho, Instr.box, newVar, newRow, newObj, Sem.run_bind, Sem.run_pure]
    exact hK _ _ (h _ _ (K.alloc _ ty))
theorem wm_alloc (K : St B w0 L F w) (hgd : Region.wanted o (yielded ops a.tmps) = true) (ty : TypeId) (ho : o.op = .alloc ty) {v : Value} (hz : (P.info? ty).map (·.zero) = some (some v)) {cs : Array Value} (hc : v.cells = cs)
    (h : ∀ (b : Nat) (w' : World), St B w0 ((b, cs, ty) :: L) F w' → wpList P ops Q rest (a.put o.dst (.pointer (some ⟨b, 0, none⟩))) w') : wpList P ops Q (o :: rest) a w :=
  wl_wanted hgd fun K' hK => by
    subst hc
    have hz' : (zeroValue ty).run P w = .ok v w := by
      cases hq : P.info? ty with
      | none => simp [hq] at hz
      | some i =>
        have : i.zero = some v := by simpa [hq] using hz
        simp [zeroValue, typeInfo, hq, this]
    unfold Oper.wp execOp
    simp only [ho, Instr.alloc, newVar, newRow, newObj, Sem.run_bind, Sem.run_pure, Result.andThen_ok, hz']
    exact hK _ _ (h _ _ (K.alloc _ ty))
/-- A type whose values lie in n cells, as a whole: a struct or an array. -/
def RowTy (P : Program) (ty : TypeId) (n : Nat) : Prop := ∃ d, P.underlying ty = some d ∧ (match d with | .struct _ | .array _ _ => true | _ => false) = true ∧ (P.info? ty).map (·.size) = some n
/-- A type whose values lie in one cell. -/
def OneTy (P : Program) (ty : TypeId) : Prop := ∃ d, P.underlying ty = some d ∧ (match d with | .struct _ | .array _ _ => true | _ => false) = false ∧ (P.info? ty).map (·.size) = some 1
theorem wm_load (K : St B w0 L F w) (hgd : Region.wanted o (yielded ops a.tmps) = true) (ty : TypeId) (x : Operand) (ho : o.op = .load ty x) {g : Nat} (hx : a.eval x = .pointer (some ⟨g, 0, none⟩)) {cs : Array Value} {t : TypeId} (ha : At L g cs t)
    {n : Nat} (hu : RowTy P ty n) (hn : cs.size = n)
    (h : wpList P ops Q rest (a.put o.dst (.agg cs)) w) : wpList P ops Q (o :: rest) a w := by
  obtain ⟨d, h1, h2, h3⟩ := hu
  exact wl_load hgd ty x ho g hx (K.get ha) h1 (by cases d <;> simp_all) h3 hn h
theorem wm_part (K : St B w0 L F w) (hgd : Region.wanted o (yielded ops a.tmps) = true) (ty : TypeId) (x : Operand) (ho : o.op = .load ty x) {g off : Nat} (hx : a.eval x = .pointer (some ⟨g, off, none⟩)) {cs : Array Value} {t : TypeId} (ha : At L g cs t)
    {n : Nat} (hu : RowTy P ty n) (part : Array Value) (hp : ∀ (j : Nat) (v : Value), part[j]? = some v → cs[off + j]? = some v) (hn : part.size = n)
    (h : wpList P ops Q rest (a.put o.dst (.agg part)) w) : wpList P ops Q (o :: rest) a w := by
  obtain ⟨d, h1, h2, h3⟩ := hu
  exact wl_loadPart hgd ty x ho g off hx (K.get ha) part hp h1 (by cases d <;> simp_all) h3 hn h
theorem run_load_cell {ty : TypeId} (hu : OneTy P ty) {p : Addr} {v : Value} (hv : w.cell? p = some v) : (Instr.loadAt ty (.pointer (some p))).run P w = .ok v w := by
  obtain ⟨d, h1, h2, _⟩ := hu
  have hagg : (isAgg ty).run P w = .ok false w := by
    unfold isAgg
    rw [Sem.run_bind, run_underlying h1 w]
    cases d <;> simp_all
  simp [Instr.loadAt, Instr.sureAddr, loadVar, Sem.run_bind, hagg, run_load, hv]
/-- A cell, wherever it is known. -/
theorem wm_cell (hgd : Region.wanted o (yielded ops a.tmps) = true) (ty : TypeId) (x : Operand) (ho : o.op = .load ty x) {p : Addr} (hx : a.eval x = .pointer (some p)) {v : Value} (hv : w.cell? p = some v) (hu : OneTy P ty)
    (h : wpList P ops Q rest (a.put o.dst v) w) : wpList P ops Q (o :: rest) a w :=
  wl_wanted hgd fun K' hK => by
    unfold Oper.wp execOp
    simp only [ho, hx, Sem.run_bind, run_load_cell hu hv, Sem.run_pure, Result.andThen_ok]
    exact hK _ _ h
theorem wm_own (K : St B w0 L F w) (hgd : Region.wanted o (yielded ops a.tmps) = true) (ty : TypeId) (x : Operand) (ho : o.op = .load ty x) {g off : Nat} (hx : a.eval x = .pointer (some ⟨g, off, none⟩)) {cs : Array Value} {t : TypeId} (ha : At L g cs t)
    {v : Value} (hv : cs[off]? = some v) (hu : OneTy P ty) (h : wpList P ops Q rest (a.put o.dst v) w) : wpList P ops Q (o :: rest) a w :=
  wm_cell hgd ty x ho hx ((K.get ha).cell hv) hu h
theorem wm_store (K : St B w0 L F w) (hgd : Region.wanted o (yielded ops a.tmps) = true) (ty : TypeId) (x y : Operand) (ho : o.op = .store ty x y) (hdst : o.dst = none) {g : Nat} (hx : a.eval x = .pointer (some ⟨g, 0, none⟩)) {new : Array Value} (hy : a.eval y = .agg new)
    {cs : Array Value} {t : TypeId} (hp : Put L g cs t new L') {n : Nat} (hu : RowTy P ty n) (hn : new.size = n) (hold : cs.size = n) (h1 : Ones new)
    (h : ∀ w' : World, St B w0 L' F w' → wpList P ops Q rest a w') : wpList P ops Q (o :: rest) a w := by
  obtain ⟨d, _, _, h3⟩ := hu
  exact wl_store hgd ty x y ho g new hx hy (K.get hp.at) h3 hn hold h1 hdst (h _ (K.setRow hp))
theorem wm_storePart (K : St B w0 L F w) (hgd : Region.wanted o (yielded ops a.tmps) = true) (ty : TypeId) (x y : Operand) (ho : o.op = .store ty x y) (hdst : o.dst = none) {g off : Nat} (hx : a.eval x = .pointer (some ⟨g, off, none⟩)) {new : Array Value} (hy : a.eval y = .agg new)
    {cs : Array Value} {t : TypeId} (hp : Put L g cs t (over cs off new.toList) L') {n : Nat} (hu : RowTy P ty n) (hn : new.size = n) (hold : off + n ≤ cs.size) (h1 : Ones new)
    (h : ∀ w' : World, St B w0 L' F w' → wpList P ops Q rest a w') : wpList P ops Q (o :: rest) a w := by
  obtain ⟨d, _, _, h3⟩ := hu
  exact wl_storePart hgd ty x y ho g off new hx hy (K.get hp.at) h3 hn hold h1 hdst (h _ (K.setCells hp))
theorem run_store_cell {ty : TypeId} (hu : OneTy P ty) {p : Addr} {v u : Value} (hv : w.cell? p = some u) (hf : w.frozen? p = false) (h1 : v.oneCell' = true) (hc : v.cells = #[v]) :
    (Instr.storeAt ty (.pointer (some p)) v).run P w = .ok () (w.setCell p v) := by
  obtain ⟨d, _, _, h3⟩ := hu
  cases hq : P.info? ty with
  | none => simp [hq] at h3
  | some i =>
    have hs : i.size = 1 := by simpa [hq] using h3
    have ha : p.add 0 = p := by cases p; unfold Addr.add; split <;> simp_all
    simp [Instr.storeAt, Instr.sureAddr, storeVar, sizeOf, typeInfo, hq, hs, hc, storeCells, run_store P w p v _ h1, hv, hf, ha]
theorem wm_put (K : St B w0 L F w) (hgd : Region.wanted o (yielded ops a.tmps) = true) (ty : TypeId) (x y : Operand) (ho : o.op = .store ty x y) (hdst : o.dst = none) {g off : Nat} (hx : a.eval x = .pointer (some ⟨g, off, none⟩)) {v : Value} (hy : a.eval y = v)
    {cs new : Array Value} {t : TypeId} (hp : Put L g cs t new L') (hs : off < cs.size) (hnew : cs.setIfInBounds off v = new) (hu : OneTy P ty) (h1 : v.oneCell' = true) (hc : v.cells = #[v])
    (h : ∀ w' : World, St B w0 L' F w' → wpList P ops Q rest a w') : wpList P ops Q (o :: rest) a w :=
  wl_wanted hgd fun K' hK => by
    subst hnew
    have hcell := (K.get hp.at).cell (Array.getElem?_eq_getElem (i := off) hs)
    unfold Oper.wp execOp
    simp only [ho, hx, hy, Sem.run_bind, run_store_cell hu hcell ((K.get hp.at).free off) h1 hc, Sem.run_pure, Result.andThen_ok, Oper.upon, hdst]
    exact hK _ _ (h _ (K.setCell hp))
end

/-! Regions that draw their order, over the class of the worlds that one such fact is true of. -/
section
variable {P : Program} {B : Nat} {w0 w : World} {L L' : List Blk} {F : World → Prop} {ops : Array Oper} {rest : List Oper} {o : Oper} {a : Act} {Q : Exit → Act → World → Prop} {C : World → Prop} {R : Act → Prop}
theorem wm_region {id : Nat} {os : List Oper} (K : St B w0 L F w) (hm : P.follows .mixedOrders = true) (hB : Region.lexB .any os.toArray = true)
    (h : wpQuiet P os.toArray (St B w0 L F) (fun a' => ∀ w', St B w0 L F w' → Q .normal a' w') os a) : (Code.region id os.toArray true).wp P Q a w :=
  wp_region_quiet (C := St B w0 L F) hm hB K.drew (by simpa using h)
theorem wm_region_tail {id : Nat} {os : List Oper} (n : Nat) (K : St B w0 L F w) (hm : P.follows .mixedOrders = true) (hB : Region.lexTailB .any os.toArray n = true)
    (h : wpQuiet P os.toArray (St B w0 L F) (fun a' => ∀ w', St B w0 L F w' → wpList P os.toArray Q (os.drop n) a' w') (os.take n) a) : (Code.region id os.toArray true).wp P Q a w :=
  wp_region_class_tail (C := St B w0 L F) n hm hB K.drew h
theorem wn_load (hgd : Region.wanted o (yielded ops a.tmps) = true) (ty : TypeId) (x : Operand) (ho : o.op = .load ty x) {g : Nat} (hx : a.eval x = .pointer (some ⟨g, 0, none⟩)) {cs : Array Value} {t : TypeId} (ha : At L g cs t)
    {n : Nat} (hu : RowTy P ty n) (hn : cs.size = n)
    (h : wpQuiet P ops (St B w0 L F) R rest (a.put o.dst (.agg cs))) : wpQuiet P ops (St B w0 L F) R (o :: rest) a := by
  obtain ⟨d, h1, h2, h3⟩ := hu
  exact wq_load hgd ty x ho g hx (fun w K => K.get ha) h1 (by cases d <;> simp_all) h3 hn h
theorem wn_part (hgd : Region.wanted o (yielded ops a.tmps) = true) (ty : TypeId) (x : Operand) (ho : o.op = .load ty x) {g off : Nat} (hx : a.eval x = .pointer (some ⟨g, off, none⟩)) {cs : Array Value} {t : TypeId} (ha : At L g cs t)
    {n : Nat} (hu : RowTy P ty n) (part : Array Value) (hp : ∀ (j : Nat) (v : Value), part[j]? = some v → cs[off + j]? = some v) (hn : part.size = n)
    (h : wpQuiet P ops (St B w0 L F) R rest (a.put o.dst (.agg part))) : wpQuiet P ops (St B w0 L F) R (o :: rest) a := by
  obtain ⟨d, h1, h2, h3⟩ := hu
  refine wq_cell hgd (.agg part) (fun w K => ?_) h
  have := run_loadVar_mid (P := P) w g off ty part.toList d (fun j v hv => (K.get ha).cell (hp j v (by simpa using hv))) h1 (by cases d <;> simp_all) (by rw [Array.length_toList, hn]; exact h3)
  unfold execOp
  simp only [ho, hx, Instr.loadAt, Instr.sureAddr, Sem.run_bind, Sem.run_pure, Result.andThen_ok, this, Array.toArray_toList]
theorem wn_cell (hgd : Region.wanted o (yielded ops a.tmps) = true) (ty : TypeId) (x : Operand) (ho : o.op = .load ty x) {p : Addr} (hx : a.eval x = .pointer (some p)) {v : Value} (hv : ∀ w, C w → w.cell? p = some v) (hu : OneTy P ty)
    (h : wpQuiet P ops C R rest (a.put o.dst v)) : wpQuiet P ops C R (o :: rest) a :=
  wq_cell hgd v (fun w hC => by
    unfold execOp
    simp only [ho, hx, Sem.run_bind, run_load_cell hu (hv w hC), Sem.run_pure, Result.andThen_ok]) h
theorem wn_own (hgd : Region.wanted o (yielded ops a.tmps) = true) (ty : TypeId) (x : Operand) (ho : o.op = .load ty x) {g off : Nat} (hx : a.eval x = .pointer (some ⟨g, off, none⟩)) {cs : Array Value} {t : TypeId} (ha : At L g cs t)
    {v : Value} (hv : cs[off]? = some v) (hu : OneTy P ty) (h : wpQuiet P ops (St B w0 L F) R rest (a.put o.dst v)) : wpQuiet P ops (St B w0 L F) R (o :: rest) a :=
  wn_cell hgd ty x ho hx (fun w K => (K.get ha).cell hv) hu h
/-- The results of a function, the first or the second in a block. -/
theorem St.res (K : St B w0 L F w) {fn : Func} {p : Tmp} {ty : TypeId} (h : fn.results = #[.cell p ty]) (tmps : Array Value) {g : Nat} {cs : Array Value} {t : TypeId} (hp : tmps.getD p undef = .pointer (some ⟨g, 0, none⟩)) (ha : At L g cs t)
    {n : Nat} (hu : RowTy P ty n) (hn : cs.size = n) : (results fn tmps).run P w = .ok (.agg cs) w := by
  obtain ⟨d, h1, h2, h3⟩ := hu
  exact results_has h tmps hp (K.get ha) h1 (by cases d <;> simp_all) h3 hn
theorem St.res2 (K : St B w0 L F w) {fn : Func} {p q : Tmp} {ty : TypeId} (h : fn.results = #[.cell p ty, .tmp q]) (tmps : Array Value) {g : Nat} {cs : Array Value} {t : TypeId} (hp : tmps.getD p undef = .pointer (some ⟨g, 0, none⟩)) (ha : At L g cs t)
    {n : Nat} (hu : RowTy P ty n) (hn : cs.size = n) {v : Value} (hq : tmps.getD q undef = v) : (results fn tmps).run P w = .ok (.tuple #[.agg cs, v]) w := by
  obtain ⟨d, h1, h2, h3⟩ := hu
  subst hq
  exact results_has2 h tmps hp (K.get ha) h1 (by cases d <;> simp_all) h3 hn
end

/-! Guards, which do nothing, and fail at once where another operation stands. -/
section
variable {P : Program} {w : World} {ops : Array Oper} {rest : List Oper} {a : Act} {Q : Exit → Act → World → Prop} {C : World → Prop} {R : Act → Prop} {dst : Option Tmp} {type : TypeId} {pos : String} {after : Array Edge} {guard : Option (Nat × Bool)} {ty : TypeId} {x y : Operand}
theorem at_load (h : wpList P ops Q (⟨dst, .load ty x, type, pos, after, guard⟩ :: rest) a w) : wpList P ops Q (⟨dst, .load ty x, type, pos, after, guard⟩ :: rest) a w := h
theorem at_store (h : wpList P ops Q (⟨dst, .store ty x y, type, pos, after, guard⟩ :: rest) a w) : wpList P ops Q (⟨dst, .store ty x y, type, pos, after, guard⟩ :: rest) a w := h
theorem at_box (h : wpList P ops Q (⟨dst, .box ty x, type, pos, after, guard⟩ :: rest) a w) : wpList P ops Q (⟨dst, .box ty x, type, pos, after, guard⟩ :: rest) a w := h
theorem at_alloc (h : wpList P ops Q (⟨dst, .alloc ty, type, pos, after, guard⟩ :: rest) a w) : wpList P ops Q (⟨dst, .alloc ty, type, pos, after, guard⟩ :: rest) a w := h
theorem at_makeSl (h : wpList P ops Q (⟨dst, .makeSlice ty x y, type, pos, after, guard⟩ :: rest) a w) : wpList P ops Q (⟨dst, .makeSlice ty x y, type, pos, after, guard⟩ :: rest) a w := h
theorem qt_load (h : wpQuiet P ops C R (⟨dst, .load ty x, type, pos, after, guard⟩ :: rest) a) : wpQuiet P ops C R (⟨dst, .load ty x, type, pos, after, guard⟩ :: rest) a := h
end
section
variable {P : Program} {B : Nat} {w0 w : World} {L L' : List Blk} {F : World → Prop} {ops : Array Oper} {rest : List Oper} {o : Oper} {a : Act} {Q : Exit → Act → World → Prop}
/-- make([]T, n) of numbers. -/
theorem wm_make (K : St B w0 L F w) (hgd : Region.wanted o (yielded ops a.tmps) = true) (l c : Operand) (t : TypeId) (ho : o.op = .makeSlice t l c) {e : TypeId} (ht : P.underlying t = some (.slice e)) {k : IntKind} {bs : Nat}
    (hi : (P.info? e).map (fun i => (i.zero, i.size, i.bytes)) = some (some (.int k 0), 1, bs)) (n : Nat) {kl kc : IntKind} {N C : Int} (hl : a.eval l = .int kl N) (hc : a.eval c = .int kc C) (hL : N = (n : Int)) (hC : C = (n : Int)) (hb : bs * n ≤ 281474976710656) (hn : n ≤ 4611686018427387904)
    (h : ∀ (b : Nat) (w' : World), St B w0 ((b, (nums k (List.replicate n 0)).toArray, e) :: L) F w' → wpList P ops Q rest (a.put o.dst (.slice (some ⟨b, 0, none⟩) n n)) w') : wpList P ops Q (o :: rest) a w :=
  wl_make hgd l c t ho e ht hi n hl hc hL hC hb hn (h _ _ (K.alloc _ e))
end
end Go.Proofs.Yteancdipmpmjpaa
namespace Go.Proofs.Yteancdipmpmjpaa
theorem one0 : OneTy Try.prog 0 := ⟨_, Try.underlying0, rfl, by kernel_rfl⟩
theorem one1 : OneTy Try.prog 1 := ⟨_, Try.underlying1, rfl, by kernel_rfl⟩
theorem zero1 : (Try.prog.info? 1).map (·.zero) = some (some (.nilFunc)) := by kernel_rfl
theorem one2 : OneTy Try.prog 2 := ⟨_, Try.underlying2, rfl, by kernel_rfl⟩
theorem zero2 : (Try.prog.info? 2).map (·.zero) = some (some (.int .i64 0)) := by kernel_rfl
theorem num2 : (Try.prog.info? 2).map (fun i => (i.zero, i.size, i.bytes)) = some (some (.int .i64 0), 1, 8) := by kernel_rfl
theorem one3 : OneTy Try.prog 3 := ⟨_, Try.underlying3, rfl, by kernel_rfl⟩
theorem zero3 : (Try.prog.info? 3).map (·.zero) = some (some (.int .i64 0)) := by kernel_rfl
theorem num3 : (Try.prog.info? 3).map (fun i => (i.zero, i.size, i.bytes)) = some (some (.int .i64 0), 1, 8) := by kernel_rfl
theorem one4 : OneTy Try.prog 4 := ⟨_, Try.underlying4, rfl, by kernel_rfl⟩
theorem zero4 : (Try.prog.info? 4).map (·.zero) = some (some (.bool false)) := by kernel_rfl
theorem one5 : OneTy Try.prog 5 := ⟨_, Try.underlying5, rfl, by kernel_rfl⟩
theorem zero5 : (Try.prog.info? 5).map (·.zero) = some (some (.int .u8 0)) := by kernel_rfl
theorem num5 : (Try.prog.info? 5).map (fun i => (i.zero, i.size, i.bytes)) = some (some (.int .u8 0), 1, 1) := by kernel_rfl
theorem one6 : OneTy Try.prog 6 := ⟨_, Try.underlying6, rfl, by kernel_rfl⟩
theorem zero6 : (Try.prog.info? 6).map (·.zero) = some (some (.int .u8 0)) := by kernel_rfl
theorem num6 : (Try.prog.info? 6).map (fun i => (i.zero, i.size, i.bytes)) = some (some (.int .u8 0), 1, 1) := by kernel_rfl
theorem row7 : RowTy Try.prog 7 4 := ⟨_, Try.underlying7, rfl, by kernel_rfl⟩
theorem zero7 : (Try.prog.info? 7).map (·.zero) = some (some (.agg (#[.int .i64 0, .int .i64 0, .bool false, .int .u8 0]))) := by kernel_rfl
theorem row8 : RowTy Try.prog 8 4 := ⟨_, Try.underlying8, rfl, by kernel_rfl⟩
theorem zero8 : (Try.prog.info? 8).map (·.zero) = some (some (.agg (#[.int .i64 0, .int .i64 0, .bool false, .int .u8 0]))) := by kernel_rfl
theorem one9 : OneTy Try.prog 9 := ⟨_, Try.underlying9, rfl, by kernel_rfl⟩
theorem zero9 : (Try.prog.info? 9).map (·.zero) = some (some (.string ByteArray.empty)) := by kernel_rfl
theorem one10 : OneTy Try.prog 10 := ⟨_, Try.underlying10, rfl, by kernel_rfl⟩
theorem zero10 : (Try.prog.info? 10).map (·.zero) = some (some (.string ByteArray.empty)) := by kernel_rfl
theorem one11 : OneTy Try.prog 11 := ⟨_, Try.underlying11, rfl, by kernel_rfl⟩
theorem zero11 : (Try.prog.info? 11).map (·.zero) = some (some (.string ByteArray.empty)) := by kernel_rfl
theorem one12 : OneTy Try.prog 12 := ⟨_, Try.underlying12, rfl, by kernel_rfl⟩
theorem zero12 : (Try.prog.info? 12).map (·.zero) = some (some (.int .u64 0)) := by kernel_rfl
theorem num12 : (Try.prog.info? 12).map (fun i => (i.zero, i.size, i.bytes)) = some (some (.int .u64 0), 1, 8) := by kernel_rfl
theorem row13 : RowTy Try.prog 13 2 := ⟨_, Try.underlying13, rfl, by kernel_rfl⟩
theorem zero13 : (Try.prog.info? 13).map (·.zero) = some (some (.agg (#[.string ByteArray.empty, .int .u64 0]))) := by kernel_rfl
theorem row14 : RowTy Try.prog 14 2 := ⟨_, Try.underlying14, rfl, by kernel_rfl⟩
theorem zero14 : (Try.prog.info? 14).map (·.zero) = some (some (.agg (#[.string ByteArray.empty, .int .u64 0]))) := by kernel_rfl
theorem one15 : OneTy Try.prog 15 := ⟨_, Try.underlying15, rfl, by kernel_rfl⟩
theorem zero15 : (Try.prog.info? 15).map (·.zero) = some (some (.pointer none)) := by kernel_rfl
theorem one16 : OneTy Try.prog 16 := ⟨_, Try.underlying16, rfl, by kernel_rfl⟩
theorem zero16 : (Try.prog.info? 16).map (·.zero) = some (some (.pointer none)) := by kernel_rfl
theorem one17 : OneTy Try.prog 17 := ⟨_, Try.underlying17, rfl, by kernel_rfl⟩
theorem zero17 : (Try.prog.info? 17).map (·.zero) = some (some (.pointer none)) := by kernel_rfl
theorem row18 : RowTy Try.prog 18 1 := ⟨_, Try.underlying18, rfl, by kernel_rfl⟩
theorem zero18 : (Try.prog.info? 18).map (·.zero) = some (some (.agg (#[.pointer none]))) := by kernel_rfl
theorem row19 : RowTy Try.prog 19 1 := ⟨_, Try.underlying19, rfl, by kernel_rfl⟩
theorem zero19 : (Try.prog.info? 19).map (·.zero) = some (some (.agg (#[.pointer none]))) := by kernel_rfl
theorem one20 : OneTy Try.prog 20 := ⟨_, Try.underlying20, rfl, by kernel_rfl⟩
theorem zero20 : (Try.prog.info? 20).map (·.zero) = some (some (.nilIface)) := by kernel_rfl
theorem one21 : OneTy Try.prog 21 := ⟨_, Try.underlying21, rfl, by kernel_rfl⟩
theorem zero21 : (Try.prog.info? 21).map (·.zero) = some (some (.int .i32 0)) := by kernel_rfl
theorem num21 : (Try.prog.info? 21).map (fun i => (i.zero, i.size, i.bytes)) = some (some (.int .i32 0), 1, 4) := by kernel_rfl
theorem one22 : OneTy Try.prog 22 := ⟨_, Try.underlying22, rfl, by kernel_rfl⟩
theorem zero22 : (Try.prog.info? 22).map (·.zero) = some (some (.int .u16 0)) := by kernel_rfl
theorem num22 : (Try.prog.info? 22).map (fun i => (i.zero, i.size, i.bytes)) = some (some (.int .u16 0), 1, 2) := by kernel_rfl
theorem one23 : OneTy Try.prog 23 := ⟨_, Try.underlying23, rfl, by kernel_rfl⟩
theorem zero23 : (Try.prog.info? 23).map (·.zero) = some (some (.int .u64 0)) := by kernel_rfl
theorem num23 : (Try.prog.info? 23).map (fun i => (i.zero, i.size, i.bytes)) = some (some (.int .u64 0), 1, 8) := by kernel_rfl
theorem one24 : OneTy Try.prog 24 := ⟨_, Try.underlying24, rfl, by kernel_rfl⟩
theorem zero24 : (Try.prog.info? 24).map (·.zero) = some (some (.int .u32 0)) := by kernel_rfl
theorem num24 : (Try.prog.info? 24).map (fun i => (i.zero, i.size, i.bytes)) = some (some (.int .u32 0), 1, 4) := by kernel_rfl
theorem one25 : OneTy Try.prog 25 := ⟨_, Try.underlying25, rfl, by kernel_rfl⟩
theorem zero25 : (Try.prog.info? 25).map (·.zero) = some (some (.nilFunc)) := by kernel_rfl
theorem row26 : RowTy Try.prog 26 2 := ⟨_, Try.underlying26, rfl, by kernel_rfl⟩
theorem zero26 : (Try.prog.info? 26).map (·.zero) = some (some (.agg (#[.int .i64 0, .int .u64 0]))) := by kernel_rfl
theorem row27 : RowTy Try.prog 27 2 := ⟨_, Try.underlying27, rfl, by kernel_rfl⟩
theorem zero27 : (Try.prog.info? 27).map (·.zero) = some (some (.agg (#[.int .i64 0, .int .u64 0]))) := by kernel_rfl
theorem one28 : OneTy Try.prog 28 := ⟨_, Try.underlying28, rfl, by kernel_rfl⟩
theorem zero28 : (Try.prog.info? 28).map (·.zero) = some (some (.nilFunc)) := by kernel_rfl
theorem one29 : OneTy Try.prog 29 := ⟨_, Try.underlying29, rfl, by kernel_rfl⟩
theorem zero29 : (Try.prog.info? 29).map (·.zero) = some (some (.nilFunc)) := by kernel_rfl
theorem one30 : OneTy Try.prog 30 := ⟨_, Try.underlying30, rfl, by kernel_rfl⟩
theorem zero30 : (Try.prog.info? 30).map (·.zero) = some (some (.nilFunc)) := by kernel_rfl
theorem one31 : OneTy Try.prog 31 := ⟨_, Try.underlying31, rfl, by kernel_rfl⟩
theorem zero31 : (Try.prog.info? 31).map (·.zero) = some (some (.nilFunc)) := by kernel_rfl
theorem one32 : OneTy Try.prog 32 := ⟨_, Try.underlying32, rfl, by kernel_rfl⟩
theorem zero32 : (Try.prog.info? 32).map (·.zero) = some (some (.nilFunc)) := by kernel_rfl
theorem one33 : OneTy Try.prog 33 := ⟨_, Try.underlying33, rfl, by kernel_rfl⟩
theorem zero33 : (Try.prog.info? 33).map (·.zero) = some (some (.nilFunc)) := by kernel_rfl
theorem row34 : RowTy Try.prog 34 2 := ⟨_, Try.underlying34, rfl, by kernel_rfl⟩
theorem zero34 : (Try.prog.info? 34).map (·.zero) = some (some (.agg (#[.int .i64 0, .int .i64 0]))) := by kernel_rfl
theorem row35 : RowTy Try.prog 35 2 := ⟨_, Try.underlying35, rfl, by kernel_rfl⟩
theorem zero35 : (Try.prog.info? 35).map (·.zero) = some (some (.agg (#[.int .i64 0, .int .i64 0]))) := by kernel_rfl
theorem one36 : OneTy Try.prog 36 := ⟨_, Try.underlying36, rfl, by kernel_rfl⟩
theorem zero36 : (Try.prog.info? 36).map (·.zero) = some (some (.nilFunc)) := by kernel_rfl
theorem one37 : OneTy Try.prog 37 := ⟨_, Try.underlying37, rfl, by kernel_rfl⟩
theorem zero37 : (Try.prog.info? 37).map (·.zero) = some (some (.nilFunc)) := by kernel_rfl
theorem one38 : OneTy Try.prog 38 := ⟨_, Try.underlying38, rfl, by kernel_rfl⟩
theorem zero38 : (Try.prog.info? 38).map (·.zero) = some (some (.nilFunc)) := by kernel_rfl
theorem one39 : OneTy Try.prog 39 := ⟨_, Try.underlying39, rfl, by kernel_rfl⟩
theorem zero39 : (Try.prog.info? 39).map (·.zero) = some (some (.nilFunc)) := by kernel_rfl
theorem one40 : OneTy Try.prog 40 := ⟨_, Try.underlying40, rfl, by kernel_rfl⟩
theorem zero40 : (Try.prog.info? 40).map (·.zero) = some (some (.nilFunc)) := by kernel_rfl
theorem one41 : OneTy Try.prog 41 := ⟨_, Try.underlying41, rfl, by kernel_rfl⟩
theorem zero41 : (Try.prog.info? 41).map (·.zero) = some (some (.nilFunc)) := by kernel_rfl
theorem one42 : OneTy Try.prog 42 := ⟨_, Try.underlying42, rfl, by kernel_rfl⟩
theorem zero42 : (Try.prog.info? 42).map (·.zero) = some (some (.slice none 0 0)) := by kernel_rfl
theorem one43 : OneTy Try.prog 43 := ⟨_, Try.underlying43, rfl, by kernel_rfl⟩
theorem zero43 : (Try.prog.info? 43).map (·.zero) = some (some (.slice none 0 0)) := by kernel_rfl
theorem one44 : OneTy Try.prog 44 := ⟨_, Try.underlying44, rfl, by kernel_rfl⟩
theorem zero44 : (Try.prog.info? 44).map (·.zero) = some (some (.nilFunc)) := by kernel_rfl
theorem one45 : OneTy Try.prog 45 := ⟨_, Try.underlying45, rfl, by kernel_rfl⟩
theorem zero45 : (Try.prog.info? 45).map (·.zero) = some (some (.slice none 0 0)) := by kernel_rfl
theorem row46 : RowTy Try.prog 46 6 := ⟨_, Try.underlying46, rfl, by kernel_rfl⟩
theorem zero46 : (Try.prog.info? 46).map (·.zero) = some (some (.agg (#[.int .i64 0, .int .i64 0, .int .i64 0, .int .i64 0, .int .i64 0, .slice none 0 0]))) := by kernel_rfl
theorem row47 : RowTy Try.prog 47 6 := ⟨_, Try.underlying47, rfl, by kernel_rfl⟩
theorem zero47 : (Try.prog.info? 47).map (·.zero) = some (some (.agg (#[.int .i64 0, .int .i64 0, .int .i64 0, .int .i64 0, .int .i64 0, .slice none 0 0]))) := by kernel_rfl
theorem one48 : OneTy Try.prog 48 := ⟨_, Try.underlying48, rfl, by kernel_rfl⟩
theorem zero48 : (Try.prog.info? 48).map (·.zero) = some (some (.nilFunc)) := by kernel_rfl
theorem one49 : OneTy Try.prog 49 := ⟨_, Try.underlying49, rfl, by kernel_rfl⟩
theorem zero49 : (Try.prog.info? 49).map (·.zero) = some (some (.slice none 0 0)) := by kernel_rfl
theorem row50 : RowTy Try.prog 50 3 := ⟨_, Try.underlying50, rfl, by kernel_rfl⟩
theorem zero50 : (Try.prog.info? 50).map (·.zero) = some (some (.agg (#[.int .i64 0, .int .i64 0, .slice none 0 0]))) := by kernel_rfl
theorem row51 : RowTy Try.prog 51 3 := ⟨_, Try.underlying51, rfl, by kernel_rfl⟩
theorem zero51 : (Try.prog.info? 51).map (·.zero) = some (some (.agg (#[.int .i64 0, .int .i64 0, .slice none 0 0]))) := by kernel_rfl
theorem one52 : OneTy Try.prog 52 := ⟨_, Try.underlying52, rfl, by kernel_rfl⟩
theorem zero52 : (Try.prog.info? 52).map (·.zero) = some (some (.nilFunc)) := by kernel_rfl
theorem row53 : RowTy Try.prog 53 11 := ⟨_, Try.underlying53, rfl, by kernel_rfl⟩
theorem zero53 : (Try.prog.info? 53).map (·.zero) = some (some (.agg (#[.int .i64 0, .int .i64 0, .int .i64 0, .int .i64 0, .int .i64 0, .slice none 0 0, .int .i64 0, .int .i64 0, .slice none 0 0, .int .i64 0, .int .i64 0]))) := by kernel_rfl
theorem row54 : RowTy Try.prog 54 11 := ⟨_, Try.underlying54, rfl, by kernel_rfl⟩
theorem zero54 : (Try.prog.info? 54).map (·.zero) = some (some (.agg (#[.int .i64 0, .int .i64 0, .int .i64 0, .int .i64 0, .int .i64 0, .slice none 0 0, .int .i64 0, .int .i64 0, .slice none 0 0, .int .i64 0, .int .i64 0]))) := by kernel_rfl
theorem one55 : OneTy Try.prog 55 := ⟨_, Try.underlying55, rfl, by kernel_rfl⟩
theorem one56 : OneTy Try.prog 56 := ⟨_, Try.underlying56, rfl, by kernel_rfl⟩
theorem zero56 : (Try.prog.info? 56).map (·.zero) = some (some (.nilFunc)) := by kernel_rfl
theorem one57 : OneTy Try.prog 57 := ⟨_, Try.underlying57, rfl, by kernel_rfl⟩
theorem zero57 : (Try.prog.info? 57).map (·.zero) = some (some (.int .i8 0)) := by kernel_rfl
theorem num57 : (Try.prog.info? 57).map (fun i => (i.zero, i.size, i.bytes)) = some (some (.int .i8 0), 1, 1) := by kernel_rfl
theorem row58 : RowTy Try.prog 58 7 := ⟨_, Try.underlying58, rfl, by kernel_rfl⟩
theorem zero58 : (Try.prog.info? 58).map (·.zero) = some (some (.agg (#[.int .u8 0, .int .u8 0, .slice none 0 0, .int .i8 0, .int .i8 0, .int .u8 0, .int .u8 0]))) := by kernel_rfl
theorem row59 : RowTy Try.prog 59 7 := ⟨_, Try.underlying59, rfl, by kernel_rfl⟩
theorem zero59 : (Try.prog.info? 59).map (·.zero) = some (some (.agg (#[.int .u8 0, .int .u8 0, .slice none 0 0, .int .i8 0, .int .i8 0, .int .u8 0, .int .u8 0]))) := by kernel_rfl
theorem one60 : OneTy Try.prog 60 := ⟨_, Try.underlying60, rfl, by kernel_rfl⟩
theorem zero60 : (Try.prog.info? 60).map (·.zero) = some (some (.int .i64 0)) := by kernel_rfl
theorem num60 : (Try.prog.info? 60).map (fun i => (i.zero, i.size, i.bytes)) = some (some (.int .i64 0), 1, 8) := by kernel_rfl
theorem one61 : OneTy Try.prog 61 := ⟨_, Try.underlying61, rfl, by kernel_rfl⟩
theorem zero61 : (Try.prog.info? 61).map (·.zero) = some (some (.nilFunc)) := by kernel_rfl
theorem one62 : OneTy Try.prog 62 := ⟨_, Try.underlying62, rfl, by kernel_rfl⟩
theorem zero62 : (Try.prog.info? 62).map (·.zero) = some (some (.nilFunc)) := by kernel_rfl
theorem one63 : OneTy Try.prog 63 := ⟨_, Try.underlying63, rfl, by kernel_rfl⟩
theorem zero63 : (Try.prog.info? 63).map (·.zero) = some (some (.nilFunc)) := by kernel_rfl
theorem one64 : OneTy Try.prog 64 := ⟨_, Try.underlying64, rfl, by kernel_rfl⟩
theorem one65 : OneTy Try.prog 65 := ⟨_, Try.underlying65, rfl, by kernel_rfl⟩
theorem zero65 : (Try.prog.info? 65).map (·.zero) = some (some (.nilFunc)) := by kernel_rfl
theorem one66 : OneTy Try.prog 66 := ⟨_, Try.underlying66, rfl, by kernel_rfl⟩
theorem zero66 : (Try.prog.info? 66).map (·.zero) = some (some (.nilFunc)) := by kernel_rfl
theorem one67 : OneTy Try.prog 67 := ⟨_, Try.underlying67, rfl, by kernel_rfl⟩
theorem zero67 : (Try.prog.info? 67).map (·.zero) = some (some (.nilFunc)) := by kernel_rfl
theorem one68 : OneTy Try.prog 68 := ⟨_, Try.underlying68, rfl, by kernel_rfl⟩
theorem zero68 : (Try.prog.info? 68).map (·.zero) = some (some (.nilFunc)) := by kernel_rfl
theorem one69 : OneTy Try.prog 69 := ⟨_, Try.underlying69, rfl, by kernel_rfl⟩
theorem zero69 : (Try.prog.info? 69).map (·.zero) = some (some (.nilFunc)) := by kernel_rfl
theorem one70 : OneTy Try.prog 70 := ⟨_, Try.underlying70, rfl, by kernel_rfl⟩
theorem zero70 : (Try.prog.info? 70).map (·.zero) = some (some (.nilFunc)) := by kernel_rfl
theorem one71 : OneTy Try.prog 71 := ⟨_, Try.underlying71, rfl, by kernel_rfl⟩
theorem zero71 : (Try.prog.info? 71).map (·.zero) = some (some (.nilFunc)) := by kernel_rfl
theorem one72 : OneTy Try.prog 72 := ⟨_, Try.underlying72, rfl, by kernel_rfl⟩
theorem zero72 : (Try.prog.info? 72).map (·.zero) = some (some (.nilFunc)) := by kernel_rfl
theorem one73 : OneTy Try.prog 73 := ⟨_, Try.underlying73, rfl, by kernel_rfl⟩
theorem one74 : OneTy Try.prog 74 := ⟨_, Try.underlying74, rfl, by kernel_rfl⟩
theorem zero74 : (Try.prog.info? 74).map (·.zero) = some (some (.nilFunc)) := by kernel_rfl
theorem one75 : OneTy Try.prog 75 := ⟨_, Try.underlying75, rfl, by kernel_rfl⟩
theorem zero75 : (Try.prog.info? 75).map (·.zero) = some (some (.nilFunc)) := by kernel_rfl
theorem one76 : OneTy Try.prog 76 := ⟨_, Try.underlying76, rfl, by kernel_rfl⟩
theorem one77 : OneTy Try.prog 77 := ⟨_, Try.underlying77, rfl, by kernel_rfl⟩
theorem zero77 : (Try.prog.info? 77).map (·.zero) = some (some (.nilFunc)) := by kernel_rfl
theorem one78 : OneTy Try.prog 78 := ⟨_, Try.underlying78, rfl, by kernel_rfl⟩
theorem zero78 : (Try.prog.info? 78).map (·.zero) = some (some (.nilFunc)) := by kernel_rfl
theorem one79 : OneTy Try.prog 79 := ⟨_, Try.underlying79, rfl, by kernel_rfl⟩
theorem zero79 : (Try.prog.info? 79).map (·.zero) = some (some (.nilFunc)) := by kernel_rfl
theorem row80 : RowTy Try.prog 80 2 := ⟨_, Try.underlying80, rfl, by kernel_rfl⟩
theorem zero80 : (Try.prog.info? 80).map (·.zero) = some (some (.agg (#[.int .i64 0, .int .i64 0]))) := by kernel_rfl
theorem row81 : RowTy Try.prog 81 2 := ⟨_, Try.underlying81, rfl, by kernel_rfl⟩
theorem zero81 : (Try.prog.info? 81).map (·.zero) = some (some (.agg (#[.int .i64 0, .int .i64 0]))) := by kernel_rfl
theorem one82 : OneTy Try.prog 82 := ⟨_, Try.underlying82, rfl, by kernel_rfl⟩
theorem one83 : OneTy Try.prog 83 := ⟨_, Try.underlying83, rfl, by kernel_rfl⟩
theorem zero83 : (Try.prog.info? 83).map (·.zero) = some (some (.nilFunc)) := by kernel_rfl
theorem one84 : OneTy Try.prog 84 := ⟨_, Try.underlying84, rfl, by kernel_rfl⟩
theorem zero84 : (Try.prog.info? 84).map (·.zero) = some (some (.nilFunc)) := by kernel_rfl
theorem one85 : OneTy Try.prog 85 := ⟨_, Try.underlying85, rfl, by kernel_rfl⟩
theorem zero85 : (Try.prog.info? 85).map (·.zero) = some (some (.nilFunc)) := by kernel_rfl
theorem one86 : OneTy Try.prog 86 := ⟨_, Try.underlying86, rfl, by kernel_rfl⟩
theorem zero86 : (Try.prog.info? 86).map (·.zero) = some (some (.slice none 0 0)) := by kernel_rfl
theorem row87 : RowTy Try.prog 87 3 := ⟨_, Try.underlying87, rfl, by kernel_rfl⟩
theorem zero87 : (Try.prog.info? 87).map (·.zero) = some (some (.agg (#[.int .i64 0, .int .i64 0, .slice none 0 0]))) := by kernel_rfl
theorem row88 : RowTy Try.prog 88 3 := ⟨_, Try.underlying88, rfl, by kernel_rfl⟩
theorem zero88 : (Try.prog.info? 88).map (·.zero) = some (some (.agg (#[.int .i64 0, .int .i64 0, .slice none 0 0]))) := by kernel_rfl
theorem one89 : OneTy Try.prog 89 := ⟨_, Try.underlying89, rfl, by kernel_rfl⟩
theorem zero89 : (Try.prog.info? 89).map (·.zero) = some (some (.nilFunc)) := by kernel_rfl
theorem one90 : OneTy Try.prog 90 := ⟨_, Try.underlying90, rfl, by kernel_rfl⟩
theorem zero90 : (Try.prog.info? 90).map (·.zero) = some (some (.nilFunc)) := by kernel_rfl
theorem one91 : OneTy Try.prog 91 := ⟨_, Try.underlying91, rfl, by kernel_rfl⟩
theorem one92 : OneTy Try.prog 92 := ⟨_, Try.underlying92, rfl, by kernel_rfl⟩
theorem zero92 : (Try.prog.info? 92).map (·.zero) = some (some (.nilFunc)) := by kernel_rfl
theorem one93 : OneTy Try.prog 93 := ⟨_, Try.underlying93, rfl, by kernel_rfl⟩
theorem zero93 : (Try.prog.info? 93).map (·.zero) = some (some (.nilFunc)) := by kernel_rfl
theorem one94 : OneTy Try.prog 94 := ⟨_, Try.underlying94, rfl, by kernel_rfl⟩
theorem zero94 : (Try.prog.info? 94).map (·.zero) = some (some (.nilFunc)) := by kernel_rfl
theorem one95 : OneTy Try.prog 95 := ⟨_, Try.underlying95, rfl, by kernel_rfl⟩
theorem zero95 : (Try.prog.info? 95).map (·.zero) = some (some (.nilFunc)) := by kernel_rfl
theorem one96 : OneTy Try.prog 96 := ⟨_, Try.underlying96, rfl, by kernel_rfl⟩
theorem zero96 : (Try.prog.info? 96).map (·.zero) = some (some (.nilFunc)) := by kernel_rfl
theorem one97 : OneTy Try.prog 97 := ⟨_, Try.underlying97, rfl, by kernel_rfl⟩
theorem zero97 : (Try.prog.info? 97).map (·.zero) = some (some (.nilFunc)) := by kernel_rfl
theorem one98 : OneTy Try.prog 98 := ⟨_, Try.underlying98, rfl, by kernel_rfl⟩
theorem one99 : OneTy Try.prog 99 := ⟨_, Try.underlying99, rfl, by kernel_rfl⟩
theorem zero99 : (Try.prog.info? 99).map (·.zero) = some (some (.nilFunc)) := by kernel_rfl
theorem one100 : OneTy Try.prog 100 := ⟨_, Try.underlying100, rfl, by kernel_rfl⟩
theorem zero100 : (Try.prog.info? 100).map (·.zero) = some (some (.int .u64 0)) := by kernel_rfl
theorem num100 : (Try.prog.info? 100).map (fun i => (i.zero, i.size, i.bytes)) = some (some (.int .u64 0), 1, 8) := by kernel_rfl
theorem one101 : OneTy Try.prog 101 := ⟨_, Try.underlying101, rfl, by kernel_rfl⟩
theorem zero101 : (Try.prog.info? 101).map (·.zero) = some (some (.nilFunc)) := by kernel_rfl
theorem one102 : OneTy Try.prog 102 := ⟨_, Try.underlying102, rfl, by kernel_rfl⟩
theorem zero102 : (Try.prog.info? 102).map (·.zero) = some (some (.slice none 0 0)) := by kernel_rfl
theorem one103 : OneTy Try.prog 103 := ⟨_, Try.underlying103, rfl, by kernel_rfl⟩
theorem zero103 : (Try.prog.info? 103).map (·.zero) = some (some (.nilFunc)) := by kernel_rfl
theorem one104 : OneTy Try.prog 104 := ⟨_, Try.underlying104, rfl, by kernel_rfl⟩
theorem zero104 : (Try.prog.info? 104).map (·.zero) = some (some (.nilFunc)) := by kernel_rfl
theorem one105 : OneTy Try.prog 105 := ⟨_, Try.underlying105, rfl, by kernel_rfl⟩
theorem zero105 : (Try.prog.info? 105).map (·.zero) = some (some (.nilFunc)) := by kernel_rfl
theorem one106 : OneTy Try.prog 106 := ⟨_, Try.underlying106, rfl, by kernel_rfl⟩
theorem zero106 : (Try.prog.info? 106).map (·.zero) = some (some (.slice none 0 0)) := by kernel_rfl
theorem row107 : RowTy Try.prog 107 1 := ⟨_, Try.underlying107, rfl, by kernel_rfl⟩
theorem zero107 : (Try.prog.info? 107).map (·.zero) = some (some (.agg (#[.slice none 0 0]))) := by kernel_rfl
theorem row108 : RowTy Try.prog 108 1 := ⟨_, Try.underlying108, rfl, by kernel_rfl⟩
theorem zero108 : (Try.prog.info? 108).map (·.zero) = some (some (.agg (#[.slice none 0 0]))) := by kernel_rfl
theorem one109 : OneTy Try.prog 109 := ⟨_, Try.underlying109, rfl, by kernel_rfl⟩
theorem zero109 : (Try.prog.info? 109).map (·.zero) = some (some (.nilFunc)) := by kernel_rfl
theorem one110 : OneTy Try.prog 110 := ⟨_, Try.underlying110, rfl, by kernel_rfl⟩
theorem zero110 : (Try.prog.info? 110).map (·.zero) = some (some (.nilFunc)) := by kernel_rfl
theorem one111 : OneTy Try.prog 111 := ⟨_, Try.underlying111, rfl, by kernel_rfl⟩
theorem zero111 : (Try.prog.info? 111).map (·.zero) = some (some (.nilFunc)) := by kernel_rfl
theorem one112 : OneTy Try.prog 112 := ⟨_, Try.underlying112, rfl, by kernel_rfl⟩
theorem one113 : OneTy Try.prog 113 := ⟨_, Try.underlying113, rfl, by kernel_rfl⟩
theorem zero113 : (Try.prog.info? 113).map (·.zero) = some (some (.nilFunc)) := by kernel_rfl
theorem one114 : OneTy Try.prog 114 := ⟨_, Try.underlying114, rfl, by kernel_rfl⟩
theorem zero114 : (Try.prog.info? 114).map (·.zero) = some (some (.nilFunc)) := by kernel_rfl
theorem one115 : OneTy Try.prog 115 := ⟨_, Try.underlying115, rfl, by kernel_rfl⟩
theorem zero115 : (Try.prog.info? 115).map (·.zero) = some (some (.nilFunc)) := by kernel_rfl
theorem one116 : OneTy Try.prog 116 := ⟨_, Try.underlying116, rfl, by kernel_rfl⟩
theorem zero116 : (Try.prog.info? 116).map (·.zero) = some (some (.nilFunc)) := by kernel_rfl
theorem one117 : OneTy Try.prog 117 := ⟨_, Try.underlying117, rfl, by kernel_rfl⟩
theorem zero117 : (Try.prog.info? 117).map (·.zero) = some (some (.nilFunc)) := by kernel_rfl
theorem one118 : OneTy Try.prog 118 := ⟨_, Try.underlying118, rfl, by kernel_rfl⟩
theorem zero118 : (Try.prog.info? 118).map (·.zero) = some (some (.nilFunc)) := by kernel_rfl
theorem one119 : OneTy Try.prog 119 := ⟨_, Try.underlying119, rfl, by kernel_rfl⟩
theorem zero119 : (Try.prog.info? 119).map (·.zero) = some (some (.nilFunc)) := by kernel_rfl
theorem one120 : OneTy Try.prog 120 := ⟨_, Try.underlying120, rfl, by kernel_rfl⟩
theorem zero120 : (Try.prog.info? 120).map (·.zero) = some (some (.nilFunc)) := by kernel_rfl
theorem one121 : OneTy Try.prog 121 := ⟨_, Try.underlying121, rfl, by kernel_rfl⟩
theorem zero121 : (Try.prog.info? 121).map (·.zero) = some (some (.nilFunc)) := by kernel_rfl
theorem one122 : OneTy Try.prog 122 := ⟨_, Try.underlying122, rfl, by kernel_rfl⟩
theorem zero122 : (Try.prog.info? 122).map (·.zero) = some (some (.nilFunc)) := by kernel_rfl
theorem one123 : OneTy Try.prog 123 := ⟨_, Try.underlying123, rfl, by kernel_rfl⟩
theorem zero123 : (Try.prog.info? 123).map (·.zero) = some (some (.nilFunc)) := by kernel_rfl
theorem one124 : OneTy Try.prog 124 := ⟨_, Try.underlying124, rfl, by kernel_rfl⟩
theorem zero124 : (Try.prog.info? 124).map (·.zero) = some (some (.nilFunc)) := by kernel_rfl
theorem one125 : OneTy Try.prog 125 := ⟨_, Try.underlying125, rfl, by kernel_rfl⟩
theorem zero125 : (Try.prog.info? 125).map (·.zero) = some (some (.nilFunc)) := by kernel_rfl
theorem one126 : OneTy Try.prog 126 := ⟨_, Try.underlying126, rfl, by kernel_rfl⟩
theorem zero126 : (Try.prog.info? 126).map (·.zero) = some (some (.nilFunc)) := by kernel_rfl
theorem one127 : OneTy Try.prog 127 := ⟨_, Try.underlying127, rfl, by kernel_rfl⟩
theorem zero127 : (Try.prog.info? 127).map (·.zero) = some (some (.nilFunc)) := by kernel_rfl
theorem one128 : OneTy Try.prog 128 := ⟨_, Try.underlying128, rfl, by kernel_rfl⟩
theorem zero128 : (Try.prog.info? 128).map (·.zero) = some (some (.nilFunc)) := by kernel_rfl
theorem one129 : OneTy Try.prog 129 := ⟨_, Try.underlying129, rfl, by kernel_rfl⟩
theorem zero129 : (Try.prog.info? 129).map (·.zero) = some (some (.nilFunc)) := by kernel_rfl
theorem one130 : OneTy Try.prog 130 := ⟨_, Try.underlying130, rfl, by kernel_rfl⟩
theorem one131 : OneTy Try.prog 131 := ⟨_, Try.underlying131, rfl, by kernel_rfl⟩
theorem zero131 : (Try.prog.info? 131).map (·.zero) = some (some (.nilFunc)) := by kernel_rfl
theorem one132 : OneTy Try.prog 132 := ⟨_, Try.underlying132, rfl, by kernel_rfl⟩
theorem zero132 : (Try.prog.info? 132).map (·.zero) = some (some (.nilFunc)) := by kernel_rfl
theorem one133 : OneTy Try.prog 133 := ⟨_, Try.underlying133, rfl, by kernel_rfl⟩
theorem zero133 : (Try.prog.info? 133).map (·.zero) = some (some (.nilFunc)) := by kernel_rfl
theorem one134 : OneTy Try.prog 134 := ⟨_, Try.underlying134, rfl, by kernel_rfl⟩
theorem zero134 : (Try.prog.info? 134).map (·.zero) = some (some (.nilFunc)) := by kernel_rfl
theorem one135 : OneTy Try.prog 135 := ⟨_, Try.underlying135, rfl, by kernel_rfl⟩
theorem zero135 : (Try.prog.info? 135).map (·.zero) = some (some (.nilFunc)) := by kernel_rfl
theorem one136 : OneTy Try.prog 136 := ⟨_, Try.underlying136, rfl, by kernel_rfl⟩
theorem zero136 : (Try.prog.info? 136).map (·.zero) = some (some (.nilFunc)) := by kernel_rfl
theorem one137 : OneTy Try.prog 137 := ⟨_, Try.underlying137, rfl, by kernel_rfl⟩
theorem zero137 : (Try.prog.info? 137).map (·.zero) = some (some (.nilFunc)) := by kernel_rfl
theorem one138 : OneTy Try.prog 138 := ⟨_, Try.underlying138, rfl, by kernel_rfl⟩
theorem zero138 : (Try.prog.info? 138).map (·.zero) = some (some (.nilFunc)) := by kernel_rfl
theorem one139 : OneTy Try.prog 139 := ⟨_, Try.underlying139, rfl, by kernel_rfl⟩
theorem zero139 : (Try.prog.info? 139).map (·.zero) = some (some (.nilFunc)) := by kernel_rfl
theorem one140 : OneTy Try.prog 140 := ⟨_, Try.underlying140, rfl, by kernel_rfl⟩
theorem zero140 : (Try.prog.info? 140).map (·.zero) = some (some (.nilFunc)) := by kernel_rfl
theorem one141 : OneTy Try.prog 141 := ⟨_, Try.underlying141, rfl, by kernel_rfl⟩
theorem zero141 : (Try.prog.info? 141).map (·.zero) = some (some (.nilFunc)) := by kernel_rfl
theorem one142 : OneTy Try.prog 142 := ⟨_, Try.underlying142, rfl, by kernel_rfl⟩
theorem zero142 : (Try.prog.info? 142).map (·.zero) = some (some (.nilFunc)) := by kernel_rfl
theorem one143 : OneTy Try.prog 143 := ⟨_, Try.underlying143, rfl, by kernel_rfl⟩
theorem zero143 : (Try.prog.info? 143).map (·.zero) = some (some (.nilFunc)) := by kernel_rfl
theorem one144 : OneTy Try.prog 144 := ⟨_, Try.underlying144, rfl, by kernel_rfl⟩
theorem zero144 : (Try.prog.info? 144).map (·.zero) = some (some (.nilFunc)) := by kernel_rfl
theorem one145 : OneTy Try.prog 145 := ⟨_, Try.underlying145, rfl, by kernel_rfl⟩
theorem zero145 : (Try.prog.info? 145).map (·.zero) = some (some (.nilFunc)) := by kernel_rfl
theorem one146 : OneTy Try.prog 146 := ⟨_, Try.underlying146, rfl, by kernel_rfl⟩
theorem zero146 : (Try.prog.info? 146).map (·.zero) = some (some (.nilFunc)) := by kernel_rfl
theorem one147 : OneTy Try.prog 147 := ⟨_, Try.underlying147, rfl, by kernel_rfl⟩
theorem zero147 : (Try.prog.info? 147).map (·.zero) = some (some (.nilFunc)) := by kernel_rfl
theorem one148 : OneTy Try.prog 148 := ⟨_, Try.underlying148, rfl, by kernel_rfl⟩
theorem zero148 : (Try.prog.info? 148).map (·.zero) = some (some (.nilFunc)) := by kernel_rfl
theorem one149 : OneTy Try.prog 149 := ⟨_, Try.underlying149, rfl, by kernel_rfl⟩
theorem zero149 : (Try.prog.info? 149).map (·.zero) = some (some (.nilFunc)) := by kernel_rfl
theorem one150 : OneTy Try.prog 150 := ⟨_, Try.underlying150, rfl, by kernel_rfl⟩
theorem zero150 : (Try.prog.info? 150).map (·.zero) = some (some (.nilFunc)) := by kernel_rfl
theorem one151 : OneTy Try.prog 151 := ⟨_, Try.underlying151, rfl, by kernel_rfl⟩
theorem one152 : OneTy Try.prog 152 := ⟨_, Try.underlying152, rfl, by kernel_rfl⟩
theorem zero152 : (Try.prog.info? 152).map (·.zero) = some (some (.nilFunc)) := by kernel_rfl
theorem one153 : OneTy Try.prog 153 := ⟨_, Try.underlying153, rfl, by kernel_rfl⟩
theorem zero153 : (Try.prog.info? 153).map (·.zero) = some (some (.nilFunc)) := by kernel_rfl
theorem one154 : OneTy Try.prog 154 := ⟨_, Try.underlying154, rfl, by kernel_rfl⟩
theorem one155 : OneTy Try.prog 155 := ⟨_, Try.underlying155, rfl, by kernel_rfl⟩
theorem zero155 : (Try.prog.info? 155).map (·.zero) = some (some (.nilFunc)) := by kernel_rfl
theorem one156 : OneTy Try.prog 156 := ⟨_, Try.underlying156, rfl, by kernel_rfl⟩
theorem zero156 : (Try.prog.info? 156).map (·.zero) = some (some (.nilFunc)) := by kernel_rfl
theorem one157 : OneTy Try.prog 157 := ⟨_, Try.underlying157, rfl, by kernel_rfl⟩
theorem zero157 : (Try.prog.info? 157).map (·.zero) = some (some (.nilFunc)) := by kernel_rfl
theorem one158 : OneTy Try.prog 158 := ⟨_, Try.underlying158, rfl, by kernel_rfl⟩
theorem zero158 : (Try.prog.info? 158).map (·.zero) = some (some (.nilFunc)) := by kernel_rfl
theorem one159 : OneTy Try.prog 159 := ⟨_, Try.underlying159, rfl, by kernel_rfl⟩
theorem zero159 : (Try.prog.info? 159).map (·.zero) = some (some (.nilFunc)) := by kernel_rfl
theorem one160 : OneTy Try.prog 160 := ⟨_, Try.underlying160, rfl, by kernel_rfl⟩
theorem zero160 : (Try.prog.info? 160).map (·.zero) = some (some (.nilFunc)) := by kernel_rfl
theorem one161 : OneTy Try.prog 161 := ⟨_, Try.underlying161, rfl, by kernel_rfl⟩
theorem zero161 : (Try.prog.info? 161).map (·.zero) = some (some (.nilFunc)) := by kernel_rfl
theorem one162 : OneTy Try.prog 162 := ⟨_, Try.underlying162, rfl, by kernel_rfl⟩
theorem zero162 : (Try.prog.info? 162).map (·.zero) = some (some (.nilFunc)) := by kernel_rfl
theorem one163 : OneTy Try.prog 163 := ⟨_, Try.underlying163, rfl, by kernel_rfl⟩
theorem one164 : OneTy Try.prog 164 := ⟨_, Try.underlying164, rfl, by kernel_rfl⟩
theorem zero164 : (Try.prog.info? 164).map (·.zero) = some (some (.nilFunc)) := by kernel_rfl
theorem one165 : OneTy Try.prog 165 := ⟨_, Try.underlying165, rfl, by kernel_rfl⟩
theorem zero165 : (Try.prog.info? 165).map (·.zero) = some (some (.nilFunc)) := by kernel_rfl
theorem one166 : OneTy Try.prog 166 := ⟨_, Try.underlying166, rfl, by kernel_rfl⟩
theorem zero166 : (Try.prog.info? 166).map (·.zero) = some (some (.nilIface)) := by kernel_rfl
theorem one167 : OneTy Try.prog 167 := ⟨_, Try.underlying167, rfl, by kernel_rfl⟩
theorem zero167 : (Try.prog.info? 167).map (·.zero) = some (some (.nilIface)) := by kernel_rfl
theorem one168 : OneTy Try.prog 168 := ⟨_, Try.underlying168, rfl, by kernel_rfl⟩
theorem zero168 : (Try.prog.info? 168).map (·.zero) = some (some (.nilFunc)) := by kernel_rfl
theorem one169 : OneTy Try.prog 169 := ⟨_, Try.underlying169, rfl, by kernel_rfl⟩
theorem zero169 : (Try.prog.info? 169).map (·.zero) = some (some (.nilFunc)) := by kernel_rfl
theorem one170 : OneTy Try.prog 170 := ⟨_, Try.underlying170, rfl, by kernel_rfl⟩
theorem zero170 : (Try.prog.info? 170).map (·.zero) = some (some (.nilFunc)) := by kernel_rfl
theorem row171 : RowTy Try.prog 171 4 := ⟨_, Try.underlying171, rfl, by kernel_rfl⟩
theorem zero171 : (Try.prog.info? 171).map (·.zero) = some (some (.agg (#[.pointer none, .pointer none, .pointer none, .string ByteArray.empty]))) := by kernel_rfl
theorem row172 : RowTy Try.prog 172 4 := ⟨_, Try.underlying172, rfl, by kernel_rfl⟩
theorem zero172 : (Try.prog.info? 172).map (·.zero) = some (some (.agg (#[.pointer none, .pointer none, .pointer none, .string ByteArray.empty]))) := by kernel_rfl
theorem row173 : RowTy Try.prog 173 0 := ⟨_, Try.underlying173, rfl, by kernel_rfl⟩
theorem zero173 : (Try.prog.info? 173).map (·.zero) = some (some (.agg (#[]))) := by kernel_rfl
theorem row174 : RowTy Try.prog 174 0 := ⟨_, Try.underlying174, rfl, by kernel_rfl⟩
theorem zero174 : (Try.prog.info? 174).map (·.zero) = some (some (.agg (#[]))) := by kernel_rfl
theorem row175 : RowTy Try.prog 175 0 := ⟨_, Try.underlying175, rfl, by kernel_rfl⟩
theorem zero175 : (Try.prog.info? 175).map (·.zero) = some (some (.agg (#[]))) := by kernel_rfl
theorem one176 : OneTy Try.prog 176 := ⟨_, Try.underlying176, rfl, by kernel_rfl⟩
theorem zero176 : (Try.prog.info? 176).map (·.zero) = some (some (.int .u8 0)) := by kernel_rfl
theorem num176 : (Try.prog.info? 176).map (fun i => (i.zero, i.size, i.bytes)) = some (some (.int .u8 0), 1, 1) := by kernel_rfl
theorem one177 : OneTy Try.prog 177 := ⟨_, Try.underlying177, rfl, by kernel_rfl⟩
theorem zero177 : (Try.prog.info? 177).map (·.zero) = some (some (.int .u8 0)) := by kernel_rfl
theorem num177 : (Try.prog.info? 177).map (fun i => (i.zero, i.size, i.bytes)) = some (some (.int .u8 0), 1, 1) := by kernel_rfl
theorem one178 : OneTy Try.prog 178 := ⟨_, Try.underlying178, rfl, by kernel_rfl⟩
theorem zero178 : (Try.prog.info? 178).map (·.zero) = some (some (.nilFunc)) := by kernel_rfl
theorem one179 : OneTy Try.prog 179 := ⟨_, Try.underlying179, rfl, by kernel_rfl⟩
theorem zero179 : (Try.prog.info? 179).map (·.zero) = some (some (.pointer none)) := by kernel_rfl
theorem one180 : OneTy Try.prog 180 := ⟨_, Try.underlying180, rfl, by kernel_rfl⟩
theorem zero180 : (Try.prog.info? 180).map (·.zero) = some (some (.int .i32 0)) := by kernel_rfl
theorem num180 : (Try.prog.info? 180).map (fun i => (i.zero, i.size, i.bytes)) = some (some (.int .i32 0), 1, 4) := by kernel_rfl
theorem one181 : OneTy Try.prog 181 := ⟨_, Try.underlying181, rfl, by kernel_rfl⟩
theorem zero181 : (Try.prog.info? 181).map (·.zero) = some (some (.int .i32 0)) := by kernel_rfl
theorem num181 : (Try.prog.info? 181).map (fun i => (i.zero, i.size, i.bytes)) = some (some (.int .i32 0), 1, 4) := by kernel_rfl
theorem row182 : RowTy Try.prog 182 11 := ⟨_, Try.underlying182, rfl, by kernel_rfl⟩
theorem zero182 : (Try.prog.info? 182).map (·.zero) = some (some (.agg (#[.int .u64 0, .int .u64 0, .int .u32 0, .int .u8 0, .int .u8 0, .int .u8 0, .int .u8 0, .nilFunc, .pointer none, .int .i32 0, .int .i32 0]))) := by kernel_rfl
theorem row183 : RowTy Try.prog 183 11 := ⟨_, Try.underlying183, rfl, by kernel_rfl⟩
theorem zero183 : (Try.prog.info? 183).map (·.zero) = some (some (.agg (#[.int .u64 0, .int .u64 0, .int .u32 0, .int .u8 0, .int .u8 0, .int .u8 0, .int .u8 0, .nilFunc, .pointer none, .int .i32 0, .int .i32 0]))) := by kernel_rfl
theorem one184 : OneTy Try.prog 184 := ⟨_, Try.underlying184, rfl, by kernel_rfl⟩
theorem zero184 : (Try.prog.info? 184).map (·.zero) = some (some (.pointer none)) := by kernel_rfl
end Go.Proofs.Yteancdipmpmjpaa
namespace Go.Proofs.Yteancdipmpmjpaa
open Go.RowKit
set_option linter.unusedVariables false

section
variable {P : Program} {ops : Array Oper} {md : Region.Mode} {S : World → Prop} {Q : Exit → Act → World → Prop}
/-- May the operations come up in this order? 'true': it is taken ahead of others; 'false': it alone may come up. -/
def orderB (md : Region.Mode) (ops : Array Oper) : List (Bool × Nat) → Array Bool → Bool
  | [], d => (Region.ready md ops d).isEmpty
  | (true, i) :: r, d => (Region.ready md ops d).contains i && Region.free md ops d i && orderB md ops r (d.setIfInBounds i true)
  | (false, i) :: r, d => decide (Region.ready md ops d = [i]) && orderB md ops r (d.setIfInBounds i true)
/-- The operations in that order. -/
def pick (ops : Array Oper) : List (Bool × Nat) → List (Bool × Oper)
  | [] => []
  | (b, i) :: r => match ops[i]? with
    | some o => (b, o) :: pick ops r
    | none => pick ops r
/-- What is asked of each. -/
def wpHeld (P : Program) (ops : Array Oper) (S : World → Prop) (Q : Exit → Act → World → Prop) : List (Bool × Oper) → Act → World → Prop
  | [], a, w => Q .normal a w
  | (true, o) :: r, a, w => if Region.wanted o (yielded ops a.tmps) then ∃ v, (∀ w', S w' → (match (execOp a.eval o).run P w' with | .ok (.value u) w'' => w'' = w' ∧ u = v | _ => False)) ∧ wpHeld P ops S Q r (a.put o.dst v) w else wpHeld P ops S Q r (a.put o.dst undef) w
  | (false, o) :: r, a, w => if Region.wanted o (yielded ops a.tmps) then o.wp P a w (fun a' w' => S w' ∧ wpHeld P ops S Q r a' w') Q else S w ∧ wpHeld P ops S Q r (a.put o.dst undef) w

theorem wpHeld_any (hs : Region.noSelect ops = true) (hQ : ∀ (c : List PanicEntry) a d v w, Q (.panic c) (Act.put a d v) w → Q (.panic c) a w) : ∀ (ord : List (Bool × Nat)) (d : Array Bool) (a : Act) (w : World), orderB md ops ord d = true → S w →
    wpHeld P ops S Q (pick ops ord) a w → wpAnyH P md ops Q S ord.length d a w
  | [], d, a, w, hB, hS, h => wpAnyH_done (by simpa [orderB] using hB) h 0
  | (true, i) :: r, d, a, w, hB, hS, h => by
    simp only [orderB, Bool.and_eq_true] at hB
    have hr : i ∈ Region.ready md ops d := by simpa using hB.1.1
    obtain ⟨_, o, ho, _⟩ := mem_ready.1 hr
    simp only [pick, ho, wpHeld] at h
    by_cases hw : Region.wanted o (yielded ops a.tmps) = true
    · rw [if_pos hw] at h
      obtain ⟨v, hv, h⟩ := h
      refine wpAnyH_take ho hs hB.1.2 hB.1.1 (fun c a w => hQ c a o.dst v w) (.inl ⟨hw, fun w' hw' => ?_⟩) hS (wpHeld_any hs hQ r _ _ _ hB.2 hS h)
      have := hv w' hw'
      generalize (execOp a.eval o).run P w' = z at this
      rcases z with ⟨n, w''⟩ | _
      · cases n <;> simp only at this
        obtain ⟨rfl, rfl⟩ := this
        rfl
      · exact this.elim
    · rw [if_neg hw] at h
      exact wpAnyH_take ho hs hB.1.2 hB.1.1 (fun c a w => hQ c a o.dst undef w) (.inr ⟨by simpa using hw, rfl⟩) hS (wpHeld_any hs hQ r _ _ _ hB.2 hS h)
  | (false, i) :: r, d, a, w, hB, hS, h => by
    simp only [orderB, Bool.and_eq_true, decide_eq_true_eq] at hB
    have hr : i ∈ Region.ready md ops d := by rw [hB.1]; simp
    obtain ⟨_, o, ho, _⟩ := mem_ready.1 hr
    simp only [pick, ho, wpHeld] at h
    refine wpAnyH_all hB.1 (by simp) fun j hj => ?_
    simp only [List.mem_singleton] at hj
    subst hj
    unfold wpOp
    simp only [ho]
    by_cases hw : Region.wanted o (yielded ops a.tmps) = true
    · rw [if_pos hw] at h ⊢
      exact .inl (Oper.wp_mono (fun a' w' h' => ⟨h'.1, wpHeld_any hs hQ r _ _ _ hB.2 h'.1 h'.2⟩) h)
    · rw [if_neg hw] at h ⊢
      exact ⟨h.1, wpHeld_any hs hQ r _ _ _ hB.2 h.1 h.2⟩

/-- Q, but no panic. -/
def NoP (Q : Exit → Act → World → Prop) : Exit → Act → World → Prop
  | .panic _, _, _ => False
  | e, a, w => Q e a w
theorem NoP.imp {Q : Exit → Act → World → Prop} : ∀ (e : Exit) (a : Act) (w : World), NoP Q e a w → Q e a w := fun e a w h => by
  cases e <;> first | exact h | exact (h : False).elim
theorem wp_held {id : Nat} {os : List Oper} {a : Act} {w : World} (ord : List (Bool × Nat)) (hm : P.follows .mixedOrders = true) (hB : (Region.noSelect os.toArray && decide (ord.length = os.length) && orderB .any os.toArray ord (Array.replicate os.length false)) = true)
    (hS : S w.drew) (h : wpHeld P os.toArray S (NoP Q) (pick os.toArray ord) a w.drew) : (Code.region id os.toArray true).wp P Q a w := by
  simp only [Bool.and_eq_true, decide_eq_true_eq] at hB
  refine Code.wp_mono NoP.imp (wp_region_held (S := S) (Q := NoP Q) hm ?_)
  have := wpHeld_any (Q := NoP Q) hB.1.1 (fun _ _ _ _ _ h => h) ord _ a w.drew hB.2 hS h
  rw [hB.1.2] at this
  simpa using this

variable {r : List (Bool × Oper)} {o : Oper} {a : Act} {w : World}
theorem held_nil (h : Q .normal a w) : wpHeld P ops S (NoP Q) [] a w := h
theorem held_take (h : ∀ K : Act → Prop, (∀ a, wpHeld P ops S Q r a w → K a) →
    if Region.wanted o (yielded ops a.tmps) then ∃ v, (∀ w', S w' → (match (execOp a.eval o).run P w' with | .ok (.value u) w'' => w'' = w' ∧ u = v | _ => False)) ∧ K (a.put o.dst v) else K (a.put o.dst undef)) : wpHeld P ops S Q ((true, o) :: r) a w := by
  have := h (fun a => wpHeld P ops S Q r a w) (fun _ h => h)
  exact this
theorem held_do (h : ∀ K : Act → World → Prop, (∀ a w, S w → wpHeld P ops S Q r a w → K a w) →
    if Region.wanted o (yielded ops a.tmps) then o.wp P a w K Q else K (a.put o.dst undef) w) : wpHeld P ops S Q ((false, o) :: r) a w := by
  have := h (fun a w => S w ∧ wpHeld P ops S Q r a w) (fun _ _ h1 h2 => ⟨h1, h2⟩)
  exact this
theorem held_val (hgd : Region.wanted o (yielded ops a.tmps) = true) (v : Value) (hv : ∀ w', S w' → (execOp a.eval o).run P w' = .ok (.value v) w') (h : wpHeld P ops S Q r (a.put o.dst v) w) : wpHeld P ops S Q ((true, o) :: r) a w := by
  unfold wpHeld
  rw [if_pos hgd]
  exact ⟨v, fun w' hw' => by rw [hv w' hw']; exact ⟨rfl, rfl⟩, h⟩
end
section
variable {P : Program} {B : Nat} {w0 w : World} {L L' Ls : List Blk} {F : World → Prop} {ops : Array Oper} {r : List (Bool × Oper)} {o : Oper} {a : Act} {S : World → Prop} {Q : Exit → Act → World → Prop}
theorem St.sub (K : St B w0 L F w) (h : Ls.Sublist L) : St B w0 Ls F w :=
  ⟨K.below, K.size, fun p hp => K.has p (h.subset hp), K.nodup.sublist (h.map _), fun w' h1 h2 => K.keep w' h1 fun b hb1 hb2 => h2 b hb1 fun hm => hb2 ((h.map _).subset hm)⟩
theorem hm_load (hgd : Region.wanted o (yielded ops a.tmps) = true) (ty : TypeId) (x : Operand) (ho : o.op = .load ty x) {g : Nat} (hx : a.eval x = .pointer (some ⟨g, 0, none⟩)) {cs : Array Value} {t : TypeId} (ha : At Ls g cs t)
    {n : Nat} (hu : RowTy P ty n) (hn : cs.size = n) (h : wpHeld P ops (St B w0 Ls F) Q r (a.put o.dst (.agg cs)) w) : wpHeld P ops (St B w0 Ls F) Q ((true, o) :: r) a w := by
  obtain ⟨d, h1, h2, h3⟩ := hu
  refine held_val hgd (.agg cs) (fun w K => ?_) h
  have := run_loadVar_row (P := P) w g t ty cs (0, 0) d (K.get ha) h1 (by cases d <;> simp_all) (by rw [hn]; exact h3)
  unfold execOp
  simp only [ho, hx, Instr.loadAt, Instr.sureAddr, Sem.run_bind, Sem.run_pure, Result.andThen_ok, this]
theorem hm_part (hgd : Region.wanted o (yielded ops a.tmps) = true) (ty : TypeId) (x : Operand) (ho : o.op = .load ty x) {g off : Nat} (hx : a.eval x = .pointer (some ⟨g, off, none⟩)) {cs : Array Value} {t : TypeId} (ha : At Ls g cs t)
    {n : Nat} (hu : RowTy P ty n) (part : Array Value) (hp : ∀ (j : Nat) (v : Value), part[j]? = some v → cs[off + j]? = some v) (hn : part.size = n)
    (h : wpHeld P ops (St B w0 Ls F) Q r (a.put o.dst (.agg part)) w) : wpHeld P ops (St B w0 Ls F) Q ((true, o) :: r) a w := by
  obtain ⟨d, h1, h2, h3⟩ := hu
  refine held_val hgd (.agg part) (fun w K => ?_) h
  have := run_loadVar_mid (P := P) w g off ty part.toList d (fun j v hv => (K.get ha).cell (hp j v (by simpa using hv))) h1 (by cases d <;> simp_all) (by rw [Array.length_toList, hn]; exact h3)
  unfold execOp
  simp only [ho, hx, Instr.loadAt, Instr.sureAddr, Sem.run_bind, Sem.run_pure, Result.andThen_ok, this, Array.toArray_toList]
theorem hm_cell (hgd : Region.wanted o (yielded ops a.tmps) = true) (ty : TypeId) (x : Operand) (ho : o.op = .load ty x) {p : Addr} (hx : a.eval x = .pointer (some p)) {v : Value} (hv : ∀ w, S w → w.cell? p = some v) (hu : OneTy P ty)
    (h : wpHeld P ops S Q r (a.put o.dst v) w) : wpHeld P ops S Q ((true, o) :: r) a w :=
  held_val hgd v (fun w hS => by
    unfold execOp
    simp only [ho, hx, Sem.run_bind, run_load_cell hu (hv w hS), Sem.run_pure, Result.andThen_ok]) h
theorem hm_own (hgd : Region.wanted o (yielded ops a.tmps) = true) (ty : TypeId) (x : Operand) (ho : o.op = .load ty x) {g off : Nat} (hx : a.eval x = .pointer (some ⟨g, off, none⟩)) {cs : Array Value} {t : TypeId} (ha : At Ls g cs t)
    {v : Value} (hv : cs[off]? = some v) (hu : OneTy P ty) (h : wpHeld P ops (St B w0 Ls F) Q r (a.put o.dst v) w) : wpHeld P ops (St B w0 Ls F) Q ((true, o) :: r) a w :=
  hm_cell hgd ty x ho hx (fun w K => (K.get ha).cell hv) hu h
/-- A load of a cell that is known in this world alone. -/
theorem hm_now (hgd : Region.wanted o (yielded ops a.tmps) = true) (ty : TypeId) (x : Operand) (ho : o.op = .load ty x) {p : Addr} (hx : a.eval x = .pointer (some p)) {v : Value} (hv : w.cell? p = some v) (hu : OneTy P ty) (hS : S w)
    (h : wpHeld P ops S Q r (a.put o.dst v) w) : wpHeld P ops S Q ((false, o) :: r) a w := by
  unfold wpHeld
  rw [if_pos hgd]
  unfold Oper.wp execOp
  simp only [ho, hx, Sem.run_bind, run_load_cell hu hv, Sem.run_pure, Result.andThen_ok]
  exact ⟨hS, h⟩
theorem hm_store (K : St B w0 L F w) (hgd : Region.wanted o (yielded ops a.tmps) = true) (ty : TypeId) (x y : Operand) (ho : o.op = .store ty x y) (hdst : o.dst = none) {g : Nat} (hx : a.eval x = .pointer (some ⟨g, 0, none⟩)) {new : Array Value} (hy : a.eval y = .agg new)
    {cs : Array Value} {t : TypeId} (hp : Put L g cs t new L') {n : Nat} (hu : RowTy P ty n) (hn : new.size = n) (hold : cs.size = n) (h1 : Ones new)
    (h : ∀ w' : World, St B w0 L' F w' → S w' ∧ wpHeld P ops S Q r a w') : wpHeld P ops S Q ((false, o) :: r) a w := by
  obtain ⟨d, _, _, h3⟩ := hu
  unfold wpHeld
  rw [if_pos hgd]
  have hK := h _ (K.setRow hp)
  exact wp_store_row ty x y ho g new hx hy t cs (K.get hp.at) (by rw [hn]; exact h3) (by omega) h1 (by rw [hdst]; exact hK)
theorem hm_storePart (K : St B w0 L F w) (hgd : Region.wanted o (yielded ops a.tmps) = true) (ty : TypeId) (x y : Operand) (ho : o.op = .store ty x y) (hdst : o.dst = none) {g off : Nat} (hx : a.eval x = .pointer (some ⟨g, off, none⟩)) {new : Array Value} (hy : a.eval y = .agg new)
    {cs : Array Value} {t : TypeId} (hp : Put L g cs t (over cs off new.toList) L') {n : Nat} (hu : RowTy P ty n) (hn : new.size = n) (hold : off + n ≤ cs.size) (h1 : Ones new)
    (h : ∀ w' : World, St B w0 L' F w' → S w' ∧ wpHeld P ops S Q r a w') : wpHeld P ops S Q ((false, o) :: r) a w := by
  obtain ⟨d, _, _, h3⟩ := hu
  unfold wpHeld
  rw [if_pos hgd]
  have hK := h _ (K.setCells hp)
  exact wp_store_mid ty x y ho g off new hx hy (fun j hj => ⟨by rw [(K.get hp.at).cell (Array.getElem?_eq_getElem (i := off + j) (by omega))]; rfl, (K.get hp.at).free _⟩) (by rw [hn]; exact h3) h1 (by rw [hdst]; exact hK)
theorem hm_put (K : St B w0 L F w) (hgd : Region.wanted o (yielded ops a.tmps) = true) (ty : TypeId) (x y : Operand) (ho : o.op = .store ty x y) (hdst : o.dst = none) {g off : Nat} (hx : a.eval x = .pointer (some ⟨g, off, none⟩)) {v : Value} (hy : a.eval y = v)
    {cs new : Array Value} {t : TypeId} (hp : Put L g cs t new L') (hs : off < cs.size) (hnew : cs.setIfInBounds off v = new) (hu : OneTy P ty) (h1 : v.oneCell' = true) (hc : v.cells = #[v])
    (h : ∀ w' : World, St B w0 L' F w' → S w' ∧ wpHeld P ops S Q r a w') : wpHeld P ops S Q ((false, o) :: r) a w := by
  subst hnew
  have hcell := (K.get hp.at).cell (Array.getElem?_eq_getElem (i := off) hs)
  unfold wpHeld
  rw [if_pos hgd]
  unfold Oper.wp execOp
  simp only [ho, hx, hy, Sem.run_bind, run_store_cell hu hcell ((K.get hp.at).free off) h1 hc, Sem.run_pure, Result.andThen_ok, Oper.upon, hdst]
  exact h _ (K.setCell hp)
theorem ht_load {b : Bool} {dst : Option Tmp} {type : TypeId} {pos : String} {after : Array Edge} {guard : Option (Nat × Bool)} {ty : TypeId} {x : Operand} (h : wpHeld P ops S Q ((b, ⟨dst, .load ty x, type, pos, after, guard⟩) :: r) a w) : wpHeld P ops S Q ((b, ⟨dst, .load ty x, type, pos, after, guard⟩) :: r) a w := h
theorem ht_store {b : Bool} {dst : Option Tmp} {type : TypeId} {pos : String} {after : Array Edge} {guard : Option (Nat × Bool)} {ty : TypeId} {x y : Operand} (h : wpHeld P ops S Q ((b, ⟨dst, .store ty x y, type, pos, after, guard⟩) :: r) a w) : wpHeld P ops S Q ((b, ⟨dst, .store ty x y, type, pos, after, guard⟩) :: r) a w := h
/-- The beginning, in the words of 'St': the blocks 'Ls' are not written in the region. -/
theorem wm_held {id : Nat} {os : List Oper} (Ls : List Blk) (ord : List (Bool × Nat)) (K : St B w0 L F w) (hsub : Ls.Sublist L) (hm : P.follows .mixedOrders = true) (hB : (Region.noSelect os.toArray && decide (ord.length = os.length) && orderB .any os.toArray ord (Array.replicate os.length false)) = true)
    (h : ∀ w', St B w0 L F w' → wpHeld P os.toArray (St B w0 Ls F) (NoP Q) (pick os.toArray ord) a w') : (Code.region id os.toArray true).wp P Q a w :=
  wp_held (S := St B w0 Ls F) ord hm hB (K.drew.sub hsub) (h _ K.drew)
end
end Go.Proofs.Yteancdipmpmjpaa
namespace Go.Proofs.Yteancdipmpmjpaa
open Go.RowKit
set_option linter.unusedVariables false
section
variable {P : Program} {ops : Array Oper} {md : Region.Mode} {S : World → Prop} {Q : Exit → Act → World → Prop}

theorem oper_wp_Q {Q' : Exit → Act → World → Prop} {o : Oper} {a : Act} {w : World} {K : Act → World → Prop} (hp : ∀ c a w, Q (.panic c) a w → Q' (.panic c) a w) (hl : LetsOut Q → LetsOut Q') (h : o.wp P a w K Q) : o.wp P a w K Q' := by
  unfold Oper.wp at *
  generalize (execOp a.eval o).run P w = r at *
  cases r with
  | ok n w' =>
    cases n <;> simp only [Oper.upon] at h ⊢ <;>
      first
        | exact h
        | exact Calls.mono h (fun e w'' he => by cases e <;> first | exact he | exact hp _ _ _ he | exact hl he)
        | exact Rows.mono h (fun _ _ he => he)
  | halt x w' => cases x <;> simp only [Oper.upon] at h ⊢ <;> first | exact h | exact hp _ _ _ h

/-- Whatever order is picked among the first n operations: 'S' holds behind each, and 'L' of what is left. -/
def HeadH (P : Program) (md : Region.Mode) (ops : Array Oper) (Q : Exit → Act → World → Prop) (S : World → Prop) (n : Nat) (L : Array Bool → Act → World → Prop) : Nat → Array Bool → Act → World → Prop
  | 0, d, a, w => L d a w
  | f + 1, d, a, w => Region.ready md ops d ≠ [] ∧ ∀ i ∈ Region.ready md ops d, i < n ∧ wpOp P ops Q i (fun a' w' => S w' ∧ HeadH P md ops Q S n L f (d.setIfInBounds i true) a' w') a w

theorem HeadH.any {n g : Nat} {L : Array Bool → Act → World → Prop} (hL : ∀ d a w, L d a w → wpAny P md ops Q g d a w) (f : Nat) :
    ∀ (d : Array Bool) (a : Act) (w : World), HeadH P md ops Q S n L f d a w → wpAny P md ops Q (f + g) d a w := by
  induction f with
  | zero => intro d a w h; rw [Nat.zero_add]; exact hL d a w h
  | succ f ih =>
    intro d a w h
    rw [Nat.add_right_comm]
    exact ⟨fun h0 => absurd h0 h.1, fun i hi => wpOp_mono (fun a' w' h' => ih _ a' w' h'.2) (h.2 i hi).2⟩

theorem HeadH.first {n i : Nat} {o : Oper} {v : Value} {L : Array Bool → Act → World → Prop} (hi : ops[i]? = some o) (hsel : Region.noSelect ops = true) (hs : Region.sinkB md ops n = true) (hc : Region.chainB md ops n = true)
    (hn : n < ops.size) (hin : i < n) (hQ : ∀ c a w, Q (.panic c) (Act.put a o.dst v) w → Q (.panic c) a w) (hdone : ∀ d a w, L d a w → ∀ j ∈ Region.ready md ops d, n ≤ j) (f : Nat) :
    ∀ (d : Array Bool) (a : Act) (w : World), HeadInv md ops n d → (∀ j p, ops[j]? = some p → j ≠ i → d.getD j true = false → (∀ e ∈ p.after, Region.binds md e = true → e.on ≠ i) → o.apart ops p = true) →
      i ∈ Region.ready md ops d → YieldsIf P ops S o v a → S w → HeadH P md ops Q S n L f (d.setIfInBounds i true) (a.put o.dst v) w → HeadH P md ops Q S n L (f + 1) d a w := by
  induction f with
  | zero =>
    intro d a w inv _ hr hy hS H
    refine ⟨List.ne_nil_of_mem hr, fun j hj => ?_⟩
    have hjn : j < n := Nat.lt_of_not_le fun h => tail_waits hs hc hn inv _ i rfl hin (mem_ready.1 hr).1 j h hj
    rcases Decidable.em (j = i) with rfl | hji
    · exact ⟨hjn, hy.wpOp hi hS ⟨hS, H⟩⟩
    · have := hdone _ _ _ H j (ready_mono hj hji); omega
  | succ f ih =>
    intro d a w inv hfree hr hy hS H
    refine ⟨List.ne_nil_of_mem hr, fun j hj => ?_⟩
    have hun := (mem_ready.1 hr).1
    have hjn : j < n := Nat.lt_of_not_le fun h => tail_waits hs hc hn inv _ i rfl hin hun j h hj
    refine ⟨hjn, ?_⟩
    rcases Decidable.em (j = i) with rfl | hji
    · exact hy.wpOp hi hS ⟨hS, H⟩
    obtain ⟨hjun, p, hp, hall⟩ := mem_ready.1 hj
    have hno : ∀ e ∈ p.after, Region.binds md e = true → e.on ≠ i := by
      intro e he hb heq
      have := hall e he hb
      rw [heq, getD_both hun] at this
      cases this
    have q := wpOp_putIf hp (hfree j p hp hji hjun hno) (fun cs b => Region.noSelect_spec hsel i o cs b hi) (fun cs b => Region.noSelect_spec hsel j p cs b hp) hQ hy (H.2 j (ready_mono hj hji)).2
    refine wpOp_mono (fun a' w' h3 => ⟨h3.2.1, ih (d.setIfInBounds j true) a' w' (inv.set hj hjn) ?_ (ready_mono hr (Ne.symm hji)) h3.1 h3.2.1 ?_⟩) q
    · intro k r hk hki hku hkn
      refine hfree k r hk hki ?_ hkn
      rcases Decidable.em (j = k) with rfl | hjk
      · exact hjun
      · rwa [getD_set_ne true hjk] at hku
    · rw [Array.setIfInBounds_comm _ _ hji]; exact h3.2.2

/-- May the first n operations come up in this order, and the others behind them, one behind the other? -/
def orderT (md : Region.Mode) (ops : Array Oper) (g n : Nat) : List (Bool × Nat) → Array Bool → Bool
  | [], d => Region.seqB md ops g n d
  | (true, i) :: r, d => decide (i < n) && (Region.ready md ops d).contains i && Region.free md ops d i && orderT md ops g n r (d.setIfInBounds i true)
  | (false, i) :: r, d => decide (i < n) && decide (Region.ready md ops d = [i]) && orderT md ops g n r (d.setIfInBounds i true)
/-- What is asked behind the first n operations. -/
def Behind (T : Act → World → Prop) (Q : Exit → Act → World → Prop) : Exit → Act → World → Prop
  | .normal, a, w => T a w
  | e, a, w => Q e a w

theorem wpHeld_head {g n : Nat} {T : Act → World → Prop} (hs : Region.noSelect ops = true) (hsk : Region.sinkB md ops n = true) (hc : Region.chainB md ops n = true) (hn : n < ops.size) (hQ : ∀ (c : List PanicEntry) a d v w, Q (.panic c) (Act.put a d v) w → Q (.panic c) a w) (hlo : LetsOut (Behind T Q) → LetsOut Q) :
    ∀ (ord : List (Bool × Nat)) (d : Array Bool) (a : Act) (w : World), orderT md ops g n ord d = true → HeadInv md ops n d → S w → wpHeld P ops S (Behind T Q) (pick ops ord) a w →
      HeadH P md ops Q S n (fun d' a' w' => Region.seqB md ops g n d' = true ∧ T a' w') ord.length d a w
  | [], d, a, w, hB, inv, hS, h => ⟨hB, h⟩
  | (true, i) :: r, d, a, w, hB, inv, hS, h => by
    simp only [orderT, Bool.and_eq_true, decide_eq_true_eq] at hB
    have hr : i ∈ Region.ready md ops d := by simpa using hB.1.1.2
    obtain ⟨_, o, ho, _⟩ := mem_ready.1 hr
    simp only [pick, ho, wpHeld] at h
    by_cases hw : Region.wanted o (yielded ops a.tmps) = true
    · rw [if_pos hw] at h
      obtain ⟨v, hv, h⟩ := h
      refine HeadH.first ho hs hsk hc hn hB.1.1.1 (fun c a w => hQ c a o.dst v w) (fun d a w hL => seqB_ready hL.1) r.length d a w inv (Region.free_spec ho hB.1.2) hr (.inl ⟨hw, fun w' hw' => ?_⟩) hS (wpHeld_head hs hsk hc hn hQ hlo r _ _ _ hB.2 (inv.set hr hB.1.1.1) hS h)
      have := hv w' hw'
      generalize (execOp a.eval o).run P w' = z at this
      rcases z with ⟨n, w''⟩ | _
      · cases n <;> simp only at this
        obtain ⟨rfl, rfl⟩ := this
        rfl
      · exact this.elim
    · rw [if_neg hw] at h
      exact HeadH.first ho hs hsk hc hn hB.1.1.1 (fun c a w => hQ c a o.dst undef w) (fun d a w hL => seqB_ready hL.1) r.length d a w inv (Region.free_spec ho hB.1.2) hr (.inr ⟨by simpa using hw, rfl⟩) hS (wpHeld_head hs hsk hc hn hQ hlo r _ _ _ hB.2 (inv.set hr hB.1.1.1) hS h)
  | (false, i) :: r, d, a, w, hB, inv, hS, h => by
    simp only [orderT, Bool.and_eq_true, decide_eq_true_eq] at hB
    have hr : i ∈ Region.ready md ops d := by rw [hB.1.2]; simp
    obtain ⟨_, o, ho, _⟩ := mem_ready.1 hr
    simp only [pick, ho, wpHeld] at h
    refine ⟨by rw [hB.1.2]; simp, fun j hj => ?_⟩
    rw [hB.1.2, List.mem_singleton] at hj
    subst hj
    refine ⟨hB.1.1, ?_⟩
    unfold wpOp
    simp only [ho]
    by_cases hw : Region.wanted o (yielded ops a.tmps) = true
    · rw [if_pos hw] at h ⊢
      refine .inl (oper_wp_Q (Q := Behind T Q) (fun _ _ _ h => h) hlo (Oper.wp_mono (K := fun a' w' => S w' ∧ wpHeld P ops S (Behind T Q) (pick ops r) a' w') (fun a' w' h' => ?_) h))
      exact ⟨h'.1, wpHeld_head hs hsk hc hn hQ hlo r _ _ _ hB.2 (inv.set hr hB.1.1) h'.1 h'.2⟩
    · rw [if_neg hw] at h ⊢
      exact ⟨h.1, wpHeld_head hs hsk hc hn hQ hlo r _ _ _ hB.2 (inv.set hr hB.1.1) h.1 h.2⟩

theorem wp_held_tail {id : Nat} {os : List Oper} {a : Act} {w : World} (n : Nat) (ord : List (Bool × Nat)) (hm : P.follows .mixedOrders = true)
    (hB : (Region.noSelect os.toArray && decide (n < os.length) && Region.sinkB .any os.toArray n && Region.chainB .any os.toArray n && decide (ord.length = n) && orderT .any os.toArray (os.length - n) n ord (Array.replicate os.length false)) = true)
    (hS : S w.drew) (h : wpHeld P os.toArray S (Behind (wpList P os.toArray (NoP Q) (os.drop n)) (NoP Q)) (pick os.toArray ord) a w.drew) : (Code.region id os.toArray true).wp P Q a w := by
  simp only [Bool.and_eq_true, decide_eq_true_eq] at hB
  obtain ⟨⟨⟨⟨⟨hsel, hn⟩, hsk⟩, hc⟩, hlen⟩, hord⟩ := hB
  refine Code.wp_mono NoP.imp (wp_region_any (Q := NoP Q) hm ?_)
  have inv : HeadInv .any os.toArray n (Array.replicate os.length false) :=
    ⟨by simp, fun j p _ hl => (by rw [getD_replicate_false] at hl; cases hl), fun t _ ht => getD_in (by simpa using ht) (getD_replicate_false _ _)⟩
  have H := wpHeld_head (Q := NoP Q) hsel hsk hc (by simpa using hn) (fun _ _ _ _ _ h => h) (fun ⟨a, w, h⟩ => ⟨a, w, h⟩) ord _ a w.drew hord inv hS h
  have := HeadH.any (g := os.length - n) (fun d a' w' hL => by
    have hdl : (os.drop n).length = os.length - n := by simp
    have := wpAny_of_seq (md := .any) (Q' := NoP Q) (os.drop n) n d a' w' (fun j => by simp [List.getElem?_drop]) (by rw [hdl]; exact hL.1) hL.2
    rwa [hdl] at this) ord.length _ a w.drew H
  rw [hlen, show n + (os.length - n) = os.length by omega] at this
  simpa using this
variable {B : Nat} {w0 w : World} {L Ls : List Blk} {F : World → Prop} {a : Act}
theorem wm_held_tail {id : Nat} {os : List Oper} (n : Nat) (Ls : List Blk) (ord : List (Bool × Nat)) (K : St B w0 L F w) (hsub : Ls.Sublist L) (hm : P.follows .mixedOrders = true)
    (hB : (Region.noSelect os.toArray && decide (n < os.length) && Region.sinkB .any os.toArray n && Region.chainB .any os.toArray n && decide (ord.length = n) && orderT .any os.toArray (os.length - n) n ord (Array.replicate os.length false)) = true)
    (h : ∀ w', St B w0 L F w' → wpHeld P os.toArray (St B w0 Ls F) (Behind (wpList P os.toArray (NoP Q) (os.drop n)) (NoP Q)) (pick os.toArray ord) a w') : (Code.region id os.toArray true).wp P Q a w :=
  wp_held_tail (S := St B w0 Ls F) n ord hm hB (K.drew.sub hsub) (h _ K.drew)
theorem held_tail {T : Act → World → Prop} {S : World → Prop} (h : T a w) : wpHeld P ops S (Behind T Q) [] a w := h
theorem nop_normal {Q : Exit → Act → World → Prop} (h : Q .normal a w) : NoP Q .normal a w := h
theorem tail_nil {T : List Oper} {Q : Exit → Act → World → Prop} (h : Q .normal a w) : wpList P ops (NoP Q) [] a w := h
end
end Go.Proofs.Yteancdipmpmjpaa
namespace Go.Proofs.Yteancdipmpmjpaa
open Go.RowKit
set_option linter.unusedVariables false
section
variable {P : Program} {B : Nat} {w0 w : World} {L : List Blk} {F : World → Prop} {ops : Array Oper} {r : List (Bool × Oper)} {o : Oper} {a : Act} {S : World → Prop} {Q : Exit → Act → World → Prop}
theorem hm_nowRow (K : St B w0 L F w) (hgd : Region.wanted o (yielded ops a.tmps) = true) (ty : TypeId) (x : Operand) (ho : o.op = .load ty x) {g : Nat} (hx : a.eval x = .pointer (some ⟨g, 0, none⟩)) {cs : Array Value} {t : TypeId} (ha : At L g cs t)
    {n : Nat} (hu : RowTy P ty n) (hn : cs.size = n) (hS : S w) (h : wpHeld P ops S Q r (a.put o.dst (.agg cs)) w) : wpHeld P ops S Q ((false, o) :: r) a w := by
  obtain ⟨d, h1, h2, h3⟩ := hu
  have := run_loadVar_row (P := P) w g t ty cs (0, 0) d (K.get ha) h1 (by cases d <;> simp_all) (by rw [hn]; exact h3)
  unfold wpHeld
  rw [if_pos hgd]
  unfold Oper.wp execOp
  simp only [ho, hx, Instr.loadAt, Instr.sureAddr, Sem.run_bind, Sem.run_pure, Result.andThen_ok, this]
  exact ⟨hS, h⟩
end
end Go.Proofs.Yteancdipmpmjpaa
namespace Go.Proofs.Yteancdipmpmjpaa
open Go.RowKit
set_option linter.unusedVariables false
/-- The orders: an operation is taken first, or one of several comes up ('alt' one, its rest, the others). -/
inductive Tr | done | stop | take (i : Nat) (t : Tr) | alt (i : Nat) (t : Tr) (more : Tr)
def Tr.firsts : Tr → List Nat
  | .alt i _ m => i :: m.firsts
  | _ => []
section
variable {P : Program} {ops : Array Oper} {md : Region.Mode} {S : World → Prop} {Q : Exit → Act → World → Prop}
def treeB (md : Region.Mode) (ops : Array Oper) : Bool → Nat → Tr → Array Bool → Bool
  | true, f, .done, d => (Region.ready md ops d).isEmpty
  | false, _, .stop, _ => true
  | true, f + 1, .take i t, d => (Region.ready md ops d).contains i && Region.free md ops d i && treeB md ops true f t (d.setIfInBounds i true)
  | true, f + 1, .alt i t m, d => decide (Region.ready md ops d = i :: m.firsts) && treeB md ops true f t (d.setIfInBounds i true) && treeB md ops false (f + 1) m d
  | false, f + 1, .alt i t m, d => treeB md ops true f t (d.setIfInBounds i true) && treeB md ops false (f + 1) m d
  | _, _, _, _ => false
def opAt (ops : Array Oper) (i : Nat) : Oper := (ops[i]?).getD default
def wpTree (P : Program) (ops : Array Oper) (S : World → Prop) (Q : Exit → Act → World → Prop) : Tr → Act → World → Prop
  | .done, a, w => Q .normal a w
  | .stop, _, _ => True
  | .take i t, a, w => if Region.wanted (opAt ops i) (yielded ops a.tmps) then ∃ v, (∀ w', S w' → (match (execOp a.eval (opAt ops i)).run P w' with | .ok (.value u) w'' => w'' = w' ∧ u = v | _ => False)) ∧ wpTree P ops S Q t (a.put (opAt ops i).dst v) w else wpTree P ops S Q t (a.put (opAt ops i).dst undef) w
  | .alt i t m, a, w => (if Region.wanted (opAt ops i) (yielded ops a.tmps) then (opAt ops i).wp P a w (fun a' w' => S w' ∧ wpTree P ops S Q t a' w') Q else S w ∧ wpTree P ops S Q t (a.put (opAt ops i).dst undef) w) ∧ wpTree P ops S Q m a w
theorem opAt_eq {i : Nat} {o : Oper} (h : ops[i]? = some o) : opAt ops i = o := by simp [opAt, h]
theorem wpTree_any (hs : Region.noSelect ops = true) (hQ : ∀ (c : List PanicEntry) a d v w, Q (.panic c) (Act.put a d v) w → Q (.panic c) a w) : ∀ (f : Nat) (t : Tr) (d : Array Bool) (a : Act) (w : World), treeB md ops true f t d = true → S w →
    wpTree P ops S Q t a w → wpAnyH P md ops Q S f d a w := by
  intro f
  induction f with
  | zero =>
    intro t d a w hB hS h
    cases t <;> simp only [treeB] at hB <;> first | cases hB | skip
    exact wpAnyH_done (by simpa using hB) h 0
  | succ f ih =>
    intro t d a w hB hS h
    cases t with
    | done => simp only [treeB] at hB; exact wpAnyH_done (by simpa using hB) h (f + 1)
    | stop => simp only [treeB] at hB; cases hB
    | take i t =>
      simp only [treeB, Bool.and_eq_true] at hB
      have hr : i ∈ Region.ready md ops d := by simpa using hB.1.1
      obtain ⟨_, o, ho, _⟩ := mem_ready.1 hr
      simp only [wpTree, opAt_eq ho] at h
      by_cases hw : Region.wanted o (yielded ops a.tmps) = true
      · rw [if_pos hw] at h
        obtain ⟨v, hv, h⟩ := h
        refine wpAnyH_take ho hs hB.1.2 hB.1.1 (fun c a w => hQ c a o.dst v w) (.inl ⟨hw, fun w' hw' => ?_⟩) hS (ih t _ _ _ hB.2 hS h)
        have := hv w' hw'
        generalize (execOp a.eval o).run P w' = z at this
        rcases z with ⟨n, w''⟩ | _
        · cases n <;> simp only at this
          obtain ⟨rfl, rfl⟩ := this
          rfl
        · exact this.elim
      · rw [if_neg hw] at h
        exact wpAnyH_take ho hs hB.1.2 hB.1.1 (fun c a w => hQ c a o.dst undef w) (.inr ⟨by simpa using hw, rfl⟩) hS (ih t _ _ _ hB.2 hS h)
    | alt i t m =>
      simp only [treeB, Bool.and_eq_true, decide_eq_true_eq] at hB
      have key : ∀ (m : Tr), treeB md ops false (f + 1) m d = true → wpTree P ops S Q m a w → ∀ j ∈ m.firsts, j ∈ Region.ready md ops d → wpOp P ops Q j (fun a' w' => S w' ∧ wpAnyH P md ops Q S f (d.setIfInBounds j true) a' w') a w := by
        intro m
        induction m with
        | alt j t m _ ihm =>
          intro hB hm k hk hkr
          simp only [treeB, Bool.and_eq_true] at hB
          rcases List.mem_cons.1 hk with rfl | hk
          · obtain ⟨_, o, ho, _⟩ := mem_ready.1 hkr
            have h1 := hm.1
            simp only [opAt_eq ho] at h1
            unfold wpOp
            simp only [ho]
            by_cases hw : Region.wanted o (yielded ops a.tmps) = true
            · rw [if_pos hw] at h1 ⊢
              exact .inl (Oper.wp_mono (fun a' w' h' => ⟨h'.1, ih t _ _ _ hB.1 h'.1 h'.2⟩) h1)
            · rw [if_neg hw] at h1 ⊢
              exact ⟨h1.1, ih t _ _ _ hB.1 h1.1 h1.2⟩
          · exact ihm hB.2 hm.2 k hk hkr
        | _ => intro _ _ j hj; cases hj
      refine wpAnyH_all hB.1.1 (by simp) fun j hj => ?_
      exact key (.alt i t m) (by simp only [treeB, Bool.and_eq_true]; exact ⟨hB.1.2, hB.2⟩) h j hj (by rw [hB.1.1]; exact hj)
variable {B : Nat} {w0 w : World} {L L' Ls : List Blk} {F : World → Prop} {a : Act} {t m : Tr} {i : Nat} {o : Oper}
theorem wm_tree {id : Nat} {os : List Oper} (Ls : List Blk) (T : Tr) (K : St B w0 L F w) (hsub : Ls.Sublist L) (hm : P.follows .mixedOrders = true) (hB : (Region.noSelect os.toArray && treeB .any os.toArray true os.length T (Array.replicate os.length false)) = true)
    (h : ∀ w', St B w0 L F w' → wpTree P os.toArray (St B w0 Ls F) (NoP Q) T a w') : (Code.region id os.toArray true).wp P Q a w := by
  simp only [Bool.and_eq_true] at hB
  refine Code.wp_mono NoP.imp (wp_region_held (S := St B w0 Ls F) (Q := NoP Q) hm ?_)
  have := wpTree_any (P := P) (Q := NoP Q) (S := St B w0 Ls F) hB.1 (fun _ _ _ _ _ h => h) _ T _ a w.drew hB.2 (K.drew.sub hsub) (h _ K.drew)
  simpa using this
theorem tree_take (h : ∀ K : Act → Prop, (∀ a, wpTree P ops S Q t a w → K a) →
    if Region.wanted (opAt ops i) (yielded ops a.tmps) then ∃ v, (∀ w', S w' → (match (execOp a.eval (opAt ops i)).run P w' with | .ok (.value u) w'' => w'' = w' ∧ u = v | _ => False)) ∧ K (a.put (opAt ops i).dst v) else K (a.put (opAt ops i).dst undef)) : wpTree P ops S Q (.take i t) a w :=
  h (fun a => wpTree P ops S Q t a w) (fun _ h => h)
theorem tree_alt (h : (∀ K : Act → World → Prop, (∀ a w, S w → wpTree P ops S Q t a w → K a w) →
    if Region.wanted (opAt ops i) (yielded ops a.tmps) then (opAt ops i).wp P a w K Q else K (a.put (opAt ops i).dst undef) w)) (h2 : wpTree P ops S Q m a w) : wpTree P ops S Q (.alt i t m) a w :=
  ⟨h (fun a w => S w ∧ wpTree P ops S Q t a w) (fun _ _ h1 h2 => ⟨h1, h2⟩), h2⟩
theorem tree_done (h : Q .normal a w) : wpTree P ops S (NoP Q) .done a w := h
theorem tree_stop : wpTree P ops S Q .stop a w := trivial
theorem tm_load (ho : opAt ops i = o) (hgd : Region.wanted o (yielded ops a.tmps) = true) (ty : TypeId) (x : Operand) (hop : o.op = .load ty x) {g : Nat} (hx : a.eval x = .pointer (some ⟨g, 0, none⟩)) {cs : Array Value} {t0 : TypeId} (ha : At Ls g cs t0)
    {n : Nat} (hu : RowTy P ty n) (hn : cs.size = n) (h : wpTree P ops (St B w0 Ls F) Q t (a.put o.dst (.agg cs)) w) : wpTree P ops (St B w0 Ls F) Q (.take i t) a w := by
  subst ho
  obtain ⟨d, h1, h2, h3⟩ := hu
  unfold wpTree
  rw [if_pos hgd]
  refine ⟨.agg cs, fun w K => ?_, h⟩
  have := run_loadVar_row (P := P) w g t0 ty cs (0, 0) d (K.get ha) h1 (by cases d <;> simp_all) (by rw [hn]; exact h3)
  unfold execOp
  simp only [hop, hx, Instr.loadAt, Instr.sureAddr, Sem.run_bind, Sem.run_pure, Result.andThen_ok, this, and_self]
theorem tm_alloc (K : St B w0 L F w) (ho : opAt ops i = o) (hgd : Region.wanted o (yielded ops a.tmps) = true) (ty : TypeId) (hop : o.op = .alloc ty) {v : Value} (hz : (P.info? ty).map (·.zero) = some (some v)) {cs : Array Value} (hc : v.cells = cs)
    (h : ∀ (b : Nat) (w' : World), St B w0 ((b, cs, ty) :: L) F w' → S w' ∧ wpTree P ops S Q t (a.put o.dst (.pointer (some ⟨b, 0, none⟩))) w') (h2 : wpTree P ops S Q m a w) : wpTree P ops S Q (.alt i t m) a w := by
  subst ho hc
  have hz' : (zeroValue ty).run P w = .ok v w := by
    cases hq : P.info? ty with
    | none => simp [hq] at hz
    | some i =>
      have : i.zero = some v := by simpa [hq] using hz
      simp [zeroValue, typeInfo, hq, this]
  refine ⟨?_, h2⟩
  rw [if_pos hgd]
  unfold Oper.wp execOp
  simp only [hop, Instr.alloc, newVar, newRow, newObj, Sem.run_bind, Sem.run_pure, Result.andThen_ok, hz']
  exact h _ _ (K.alloc _ ty)
theorem tm_store (K : St B w0 L F w) (ho : opAt ops i = o) (hgd : Region.wanted o (yielded ops a.tmps) = true) (ty : TypeId) (x y : Operand) (hop : o.op = .store ty x y) (hdst : o.dst = none) {g : Nat} (hx : a.eval x = .pointer (some ⟨g, 0, none⟩)) {new : Array Value} (hy : a.eval y = .agg new)
    {cs : Array Value} {t0 : TypeId} (hp : Put L g cs t0 new L') {n : Nat} (hu : RowTy P ty n) (hn : new.size = n) (hold : cs.size = n) (h1 : Ones new)
    (h : ∀ w' : World, St B w0 L' F w' → S w' ∧ wpTree P ops S Q t a w') (h2 : wpTree P ops S Q m a w) : wpTree P ops S Q (.alt i t m) a w := by
  subst ho
  obtain ⟨d, _, _, h3⟩ := hu
  refine ⟨?_, h2⟩
  rw [if_pos hgd]
  have hK := h _ (K.setRow hp)
  exact wp_store_row ty x y hop g new hx hy t0 cs (K.get hp.at) (by rw [hn]; exact h3) (by omega) h1 (by rw [hdst]; exact hK)
end
end Go.Proofs.Yteancdipmpmjpaa
namespace Go.Proofs.Yteancdipmpmjpaa
open Go.RowKit
set_option linter.unusedVariables false
section
variable {P : Program} {B : Nat} {w0 w : World} {L L' Ls : List Blk} {F : World → Prop} {ops : Array Oper} {o : Oper} {a : Act} {S : World → Prop} {Q : Exit → Act → World → Prop} {i : Nat} {t m : Tr}
theorem tm_own (ho : opAt ops i = o) (hgd : Region.wanted o (yielded ops a.tmps) = true) (ty : TypeId) (x : Operand) (hop : o.op = .load ty x) {g off : Nat} (hx : a.eval x = .pointer (some ⟨g, off, none⟩)) {cs : Array Value} {t0 : TypeId} (ha : At Ls g cs t0)
    {v : Value} (hv : cs[off]? = some v) (hu : OneTy P ty) (h : wpTree P ops (St B w0 Ls F) Q t (a.put o.dst v) w) : wpTree P ops (St B w0 Ls F) Q (.take i t) a w := by
  subst ho
  unfold wpTree
  rw [if_pos hgd]
  refine ⟨v, fun w K => ?_, h⟩
  unfold execOp
  simp only [hop, hx, Sem.run_bind, run_load_cell hu ((K.get ha).cell hv), Sem.run_pure, Result.andThen_ok, and_self]
end
end Go.Proofs.Yteancdipmpmjpaa
namespace Go.Proofs.Yteancdipmpmjpaa
open Go.RowKit
set_option linter.unusedVariables false
section
variable {P : Program} {B : Nat} {w0 w : World} {L L' Ls : List Blk} {F : World → Prop} {ops : Array Oper} {o : Oper} {a : Act} {S : World → Prop} {Q : Exit → Act → World → Prop} {i : Nat} {t m : Tr}
theorem tm_now (ho : opAt ops i = o) (hgd : Region.wanted o (yielded ops a.tmps) = true) (ty : TypeId) (x : Operand) (hop : o.op = .load ty x) {p : Addr} (hx : a.eval x = .pointer (some p)) {v : Value} (hv : w.cell? p = some v) (hu : OneTy P ty) (hS : S w)
    (h : wpTree P ops S Q t (a.put o.dst v) w) (h2 : wpTree P ops S Q m a w) : wpTree P ops S Q (.alt i t m) a w := by
  subst ho
  refine ⟨?_, h2⟩
  rw [if_pos hgd]
  unfold Oper.wp execOp
  simp only [hop, hx, Sem.run_bind, run_load_cell hu hv, Sem.run_pure, Result.andThen_ok]
  exact ⟨hS, h⟩
theorem tm_nowAt (K : St B w0 L F w) (ho : opAt ops i = o) (hgd : Region.wanted o (yielded ops a.tmps) = true) (ty : TypeId) (x : Operand) (hop : o.op = .load ty x) {g off : Nat} (hx : a.eval x = .pointer (some ⟨g, off, none⟩)) {cs : Array Value} {t0 : TypeId} (ha : At L g cs t0)
    {v : Value} (hv : cs[off]? = some v) (hu : OneTy P ty) (hS : S w) (h : wpTree P ops S Q t (a.put o.dst v) w) (h2 : wpTree P ops S Q m a w) : wpTree P ops S Q (.alt i t m) a w :=
  tm_now ho hgd ty x hop hx ((K.get ha).cell hv) hu hS h h2
theorem tm_put (K : St B w0 L F w) (ho : opAt ops i = o) (hgd : Region.wanted o (yielded ops a.tmps) = true) (ty : TypeId) (x y : Operand) (hop : o.op = .store ty x y) (hdst : o.dst = none) {g off : Nat} (hx : a.eval x = .pointer (some ⟨g, off, none⟩)) {v : Value} (hy : a.eval y = v)
    {cs new : Array Value} {t0 : TypeId} (hp : Put L g cs t0 new L') (hs : off < cs.size) (hnew : cs.setIfInBounds off v = new) (hu : OneTy P ty) (h1 : v.oneCell' = true) (hc : v.cells = #[v])
    (h : ∀ w' : World, St B w0 L' F w' → S w' ∧ wpTree P ops S Q t a w') (h2 : wpTree P ops S Q m a w) : wpTree P ops S Q (.alt i t m) a w := by
  subst ho hnew
  refine ⟨?_, h2⟩
  rw [if_pos hgd]
  have hcell := (K.get hp.at).cell (Array.getElem?_eq_getElem (i := off) hs)
  unfold Oper.wp execOp
  simp only [hop, hx, hy, Sem.run_bind, run_store_cell hu hcell ((K.get hp.at).free off) h1 hc, Sem.run_pure, Result.andThen_ok, Oper.upon, hdst]
  exact h _ (K.setCell hp)
end
end Go.Proofs.Yteancdipmpmjpaa
namespace Go.Proofs.Yteancdipmpmjpaa
open Go.RowKit
set_option linter.unusedVariables false
section
variable {P : Program} {B : Nat} {w0 w : World} {L L' Ls : List Blk} {F : World → Prop} {ops : Array Oper} {rest : List Oper} {r : List (Bool × Oper)} {o : Oper} {a : Act} {S : World → Prop} {Q : Exit → Act → World → Prop}
theorem St.rescc {P : Program} (K : St B w0 L F w) {fn : Func} {p q : Tmp} {ty ty2 : TypeId} (h : fn.results = #[.cell p ty, .cell q ty2]) (tmps : Array Value) {g g2 : Nat} {cs cs2 : Array Value} {t t2 : TypeId} (hp : tmps.getD p undef = .pointer (some ⟨g, 0, none⟩)) (hq : tmps.getD q undef = .pointer (some ⟨g2, 0, none⟩))
    (ha : At L g cs t) (ha2 : At L g2 cs2 t2) {n n2 : Nat} (hu : RowTy P ty n) (hu2 : RowTy P ty2 n2) (hn : cs.size = n) (hn2 : cs2.size = n2) : (results fn tmps).run P w = .ok (.tuple #[.agg cs, .agg cs2]) w := by
  obtain ⟨d, h1, h2, h3⟩ := hu
  obtain ⟨d', h1', h2', h3'⟩ := hu2
  have hp' : tmps[p]?.getD undef = .pointer (some ⟨g, 0, none⟩) := by simpa using hp
  have hq' : tmps[q]?.getD undef = .pointer (some ⟨g2, 0, none⟩) := by simpa using hq
  simp [results, h, hp', hq', asAddr, run_loadVar_row w g t ty cs (0, 0) d (K.get ha) h1 (by cases d <;> simp_all) (by rw [hn]; exact h3), run_loadVar_row w g2 t2 ty2 cs2 (0, 0) d' (K.get ha2) h1' (by cases d' <;> simp_all) (by rw [hn2]; exact h3')]
theorem St.order (K : St B w0 L F w) (h : L.Perm L') : St B w0 L' F w :=
  ⟨K.below, K.size, fun p hp => K.has p (h.mem_iff.2 hp), (h.map (·.1)).nodup_iff.1 K.nodup, fun w' h1 h2 => K.keep w' h1 fun b hb1 hb2 => h2 b hb1 fun hm => hb2 ((h.map (·.1)).mem_iff.2 hm)⟩
theorem St.first_two {p q : Blk} (K : St B w0 (p :: q :: L) F w) : St B w0 (q :: p :: L) F w := K.order (List.Perm.swap _ _ _)
end
end Go.Proofs.Yteancdipmpmjpaa
namespace Go.Proofs.Yteancdipmpmjpaa
open Go.RowKit
set_option linter.unusedVariables false
/-- Block g of type t stands among the blocks: 'Lf c' is these blocks when it holds c. -/
structure Slot (g : Nat) (t : TypeId) (Lf : Array Value → List Blk) : Prop where
  get : ∀ c, At (Lf c) g c t
  set : ∀ c c', Put (Lf c) g c t c' (Lf c')
theorem Slot.head (g : Nat) (t : TypeId) (L0 : List Blk) : Slot g t (fun c => (g, c, t) :: L0) := ⟨fun _ => .hd, fun _ _ => .hd⟩
theorem Slot.next {g : Nat} {t : TypeId} {Lf : Array Value → List Blk} (p : Blk) (h : Slot g t Lf) : Slot g t (fun c => p :: Lf c) := ⟨fun c => .tl (h.get c), fun c c' => .tl (h.set c c')⟩
end Go.Proofs.Yteancdipmpmjpaa
namespace Go.Proofs.Yteancdipmpmjpaa
open Go.RowKit
set_option linter.unusedVariables false
section
variable {P : Program} {B : Nat} {w0 w : World} {L L' Ls : List Blk} {F : World → Prop} {ops : Array Oper} {o : Oper} {a : Act} {S : World → Prop} {Q : Exit → Act → World → Prop} {i : Nat} {t m : Tr}
theorem tm_nowRow (K : St B w0 L F w) (ho : opAt ops i = o) (hgd : Region.wanted o (yielded ops a.tmps) = true) (ty : TypeId) (x : Operand) (hop : o.op = .load ty x) {g : Nat} (hx : a.eval x = .pointer (some ⟨g, 0, none⟩)) {cs : Array Value} {t0 : TypeId} (ha : At L g cs t0)
    {n : Nat} (hu : RowTy P ty n) (hn : cs.size = n) (hS : S w) (h : wpTree P ops S Q t (a.put o.dst (.agg cs)) w) (h2 : wpTree P ops S Q m a w) : wpTree P ops S Q (.alt i t m) a w := by
  subst ho
  refine ⟨?_, h2⟩
  rw [if_pos hgd]
  obtain ⟨d, h1, h2, h3⟩ := hu
  have := run_loadVar_row (P := P) w g t0 ty cs (0, 0) d (K.get ha) h1 (by cases d <;> simp_all) (by rw [hn]; exact h3)
  unfold Oper.wp execOp
  simp only [hop, hx, Instr.loadAt, Instr.sureAddr, Sem.run_bind, Sem.run_pure, Result.andThen_ok, this]
  exact ⟨hS, h⟩
/-- A load of a cell that is known in every such world, within a tree. -/
theorem tm_farD (ho : opAt ops i = o) (hgd : Region.wanted o (yielded ops a.tmps) = true) (ty : TypeId) (x : Operand) (hop : o.op = .load ty x) {p : Addr} (hx : a.eval x = .pointer (some p)) {v : Value} (hv : ∀ w, St B w0 Ls F w → w.cell? p = some v) (hu : OneTy P ty)
    (h : wpTree P ops (St B w0 Ls F) Q t (a.put o.dst v) w) : wpTree P ops (St B w0 Ls F) Q (.take i t) a w := by
  subst ho
  unfold wpTree
  rw [if_pos hgd]
  refine ⟨v, fun w K => ?_, h⟩
  unfold execOp
  simp only [hop, hx, Sem.run_bind, run_load_cell hu (hv w K), Sem.run_pure, Result.andThen_ok, and_self]
end
end Go.Proofs.Yteancdipmpmjpaa
namespace Go.Proofs.Yteancdipmpmjpaa
open Go.RowKit
set_option linter.unusedVariables false
/-- Places as a number's bits. -/
def bitsOf : List Nat → Nat
  | [] => 0
  | x :: r => Nat.lor (Nat.shiftLeft 1 x) (bitsOf r)
theorem bitsOf_bit (k : Nat) : ∀ l : List Nat, (bitsOf l).testBit k = decide (k ∈ l)
  | [] => by simp [bitsOf]
  | x :: r => by
    have e : Nat.lor (Nat.shiftLeft 1 x) (bitsOf r) = (1 <<< x) ||| bitsOf r := rfl
    rw [bitsOf, e, Nat.testBit_or, bitsOf_bit k r, Nat.one_shiftLeft, Nat.testBit_two_pow, ← Bool.decide_or]
    exact decide_eq_decide.2 (by rw [List.mem_cons, eq_comm])
/-- An operation's three numbers. -/
structure OpBits where
  waits : Nat
  writes : Nat
  looks : Nat
def opBits (md : Region.Mode) (ops : Array Oper) (o : Oper) : OpBits := ⟨bitsOf ((o.after.toList.filter (Region.binds md)).map (·.on)), bitsOf o.dst.toList, bitsOf (o.looksAt ops)⟩
def subB (a m : Nat) : Bool := Nat.beq (Nat.land a m) a
def offB (a b : Nat) : Bool := Nat.beq (Nat.land a b) 0
def bitB (m i : Nat) : Bool := Nat.beq (Nat.land (Nat.shiftRight m i) 1) 1
theorem bitB_eq (m i : Nat) : bitB m i = m.testBit i := by
  have h : Nat.land (Nat.shiftRight m i) 1 = (m >>> i) % 2 := by
    show (m >>> i) &&& 1 = _
    rw [Nat.and_one_is_mod]
  unfold bitB
  rw [h, Nat.testBit_eq_decide_div_mod_eq, Nat.shiftRight_eq_div_pow, Bool.eq_iff_iff, Nat.beq_eq, decide_eq_true_eq]
theorem subB_eq {a m : Nat} : subB a m = true ↔ ∀ k, a.testBit k = true → m.testBit k = true := by
  unfold subB
  rw [Nat.beq_eq]
  show a &&& m = a ↔ _
  constructor
  · intro h k hk
    have := congrArg (·.testBit k) h
    simp only [Nat.testBit_and, hk, Bool.true_and] at this
    exact this
  · intro h
    refine Nat.eq_of_testBit_eq fun k => ?_
    rw [Nat.testBit_and]
    cases hk : a.testBit k
    · simp
    · simp [h k hk]
theorem offB_eq {a b : Nat} : offB a b = true ↔ ∀ k, a.testBit k = true → b.testBit k = false := by
  unfold offB
  rw [Nat.beq_eq]
  show a &&& b = 0 ↔ _
  constructor
  · intro h k hk
    have := congrArg (·.testBit k) h
    simp only [Nat.testBit_and, hk, Bool.true_and, Nat.zero_testBit] at this
    exact this
  · intro h
    refine Nat.eq_of_testBit_eq fun k => ?_
    rw [Nat.testBit_and, Nat.zero_testBit]
    cases hk : a.testBit k
    · simp
    · simp [h k hk]
/-- Nothing from place j on but i may come up. -/
def aloneB (m i : Nat) : List OpBits → Nat → Bool
  | [], _ => true
  | x :: r, j => (Nat.beq j i || bitB m j || !subB x.waits m) && aloneB m i r (j + 1)
/-- What is not yet listed, from place j on, waits for i, or has nothing to do with it. -/
def freeB (m i w l : Nat) : List OpBits → Nat → Bool
  | [], _ => true
  | x :: r, j => (Nat.beq j i || bitB m j || bitB x.waits i || (offB w x.looks && offB w x.writes && offB x.writes l)) && freeB m i w l r (j + 1)
def fastB (I : List OpBits) : List (Bool × Nat) → Nat → Bool
  | [], m => aloneB m I.length I 0
  | (b, i) :: r, m => (match I[i]? with
    | some x => !bitB m i && subB x.waits m && (match b with | true => freeB m i x.writes x.looks I 0 | false => aloneB m i I 0)
    | none => false) && fastB I r (Nat.lor m (Nat.shiftLeft 1 i))
theorem aloneB_all {m i : Nat} : ∀ {I : List OpBits} {j : Nat}, aloneB m i I j = true → ∀ (k : Nat) (x : OpBits), I[k]? = some x → (j + k = i ∨ m.testBit (j + k) = true ∨ subB x.waits m = false)
  | [], _, _, k, x, hx => by simp at hx
  | y :: r, j, h, k, x, hx => by
    unfold aloneB at h
    rw [Bool.and_eq_true] at h
    cases k with
    | zero =>
      simp only [List.getElem?_cons_zero, Option.some.injEq] at hx
      subst hx
      have := h.1
      simp only [Bool.or_eq_true, bitB_eq, Nat.beq_eq, Bool.not_eq_true'] at this
      rw [Nat.add_zero]
      rcases this with (h | h) | h
      · exact .inl h
      · exact .inr (.inl h)
      · exact .inr (.inr h)
    | succ k =>
      have := aloneB_all h.2 k x (by simpa using hx)
      rw [show j + (k + 1) = j + 1 + k by omega]
      exact this
theorem freeB_all {m i w l : Nat} : ∀ {I : List OpBits} {j : Nat}, freeB m i w l I j = true → ∀ (k : Nat) (x : OpBits), I[k]? = some x → (j + k = i ∨ m.testBit (j + k) = true ∨ x.waits.testBit i = true ∨ (offB w x.looks = true ∧ offB w x.writes = true ∧ offB x.writes l = true))
  | [], _, _, k, x, hx => by simp at hx
  | y :: r, j, h, k, x, hx => by
    unfold freeB at h
    rw [Bool.and_eq_true] at h
    cases k with
    | zero =>
      simp only [List.getElem?_cons_zero, Option.some.injEq] at hx
      subst hx
      have := h.1
      simp only [Bool.or_eq_true, Bool.and_eq_true, bitB_eq, Nat.beq_eq] at this
      rw [Nat.add_zero]
      rcases this with ((h | h) | h) | ⟨⟨h, h2⟩, h3⟩
      · exact .inl h
      · exact .inr (.inl h)
      · exact .inr (.inr (.inl h))
      · exact .inr (.inr (.inr ⟨h, h2, h3⟩))
    | succ k =>
      have := freeB_all h.2 k x (by simpa using hx)
      rw [show j + (k + 1) = j + 1 + k by omega]
      exact this
section
variable {P : Program} {ops : Array Oper} {md : Region.Mode}
/-- The bits say what is listed. -/
def Listed (n m : Nat) (d : Array Bool) : Prop := d.size = n ∧ ∀ i, m.testBit i = d.getD i false
theorem Listed.put {n m i : Nat} {d : Array Bool} (h : Listed n m d) (hi : i < n) : Listed n (Nat.lor m (Nat.shiftLeft 1 i)) (d.setIfInBounds i true) := by
  refine ⟨by rw [Array.size_setIfInBounds]; exact h.1, fun k => ?_⟩
  show (m ||| (1 <<< i)).testBit k = _
  rw [Nat.testBit_or, Nat.one_shiftLeft, Nat.testBit_two_pow, h.2 k]
  by_cases hk : i = k
  · subst hk
    have : i < d.size := by rw [h.1]; exact hi
    simp [this]
  · simp [hk]
theorem Listed.start (n : Nat) : Listed n 0 (Array.replicate n false) := by
  refine ⟨by simp, fun i => ?_⟩
  rw [Nat.zero_testBit]
  by_cases h : i < n <;> simp [h]
theorem Listed.not {n m i : Nat} {d : Array Bool} (h : Listed n m d) (hi : i < n) : d.getD i true = m.testBit i := by
  rw [h.2]
  have : i < d.size := by rw [h.1]; exact hi
  simp [this]
def infoB (md : Region.Mode) (ops : Array Oper) : List OpBits := ops.toList.map (opBits md ops)
theorem infoB_get {i : Nat} : (infoB md ops)[i]? = (ops[i]?).map (opBits md ops) := by unfold infoB; rw [List.getElem?_map, Array.getElem?_toList]
theorem subB_waits {o : Oper} {n m : Nat} {d : Array Bool} (h : Listed n m d) : subB (opBits md ops o).waits m = true ↔ ∀ e ∈ o.after, Region.binds md e = true → d.getD e.on false = true := by
  rw [subB_eq]
  unfold opBits
  simp only [bitsOf_bit, decide_eq_true_eq, List.mem_map, List.mem_filter, Array.mem_toList_iff]
  constructor
  · intro hk e he hb
    rw [← h.2]
    exact hk _ ⟨e, ⟨he, hb⟩, rfl⟩
  · rintro hk k ⟨e, ⟨he, hb⟩, rfl⟩
    rw [h.2]
    exact hk e he hb
theorem ready_iff {n m i : Nat} {d : Array Bool} (h : Listed ops.size m d) : i ∈ Region.ready md ops d ↔ m.testBit i = false ∧ ∃ o, ops[i]? = some o ∧ subB (opBits md ops o).waits m = true := by
  rw [mem_ready]
  constructor
  · rintro ⟨h1, o, ho, h2⟩
    have hi := (Array.getElem?_eq_some_iff.1 ho).1
    exact ⟨by rw [← h.not hi]; exact h1, o, ho, (subB_waits h).2 h2⟩
  · rintro ⟨h1, o, ho, h2⟩
    have hi := (Array.getElem?_eq_some_iff.1 ho).1
    exact ⟨by rw [h.not hi]; exact h1, o, ho, (subB_waits h).1 h2⟩
theorem filter_one {i : Nat} (p : Nat → Bool) : ∀ {n : Nat}, i < n → p i = true → (∀ j, j < n → p j = true → j = i) → (List.range n).filter p = [i]
  | 0, h, _, _ => by omega
  | n + 1, h, hp, hall => by
    rw [List.range_succ, List.filter_append]
    by_cases hn : n = i
    · subst hn
      have : (List.range n).filter p = [] := by
        rw [List.filter_eq_nil_iff]
        intro j hj hj2
        have hj := List.mem_range.1 hj
        have := hall j (by omega) hj2
        omega
      rw [this]; simp [hp]
    · rw [filter_one p (by omega) hp (fun j hj => hall j (by omega))]
      have : p n = false := by
        cases hq : p n
        · rfl
        · exact absurd (hall n (by omega) hq) hn
      simp [this]
theorem ready_one {m i : Nat} {d : Array Bool} (h : i ∈ Region.ready md ops d) (hall : ∀ j, j ∈ Region.ready md ops d → j = i) : Region.ready md ops d = [i] := by
  have h0 := h
  unfold Region.ready at h hall ⊢
  rw [List.mem_filter, List.mem_range] at h
  refine filter_one (n := ops.size) _ h.1 h.2 fun j hj hp => hall j ?_
  rw [List.mem_filter, List.mem_range]
  exact ⟨hj, hp⟩
theorem ready_none {d : Array Bool} (hall : ∀ j, ¬ j ∈ Region.ready md ops d) : Region.ready md ops d = [] := by
  cases h : Region.ready md ops d with
  | nil => rfl
  | cons a r => exact absurd (by rw [h]; simp) (hall a)
theorem offB_bits {a b : List Nat} (h : offB (bitsOf a) (bitsOf b) = true) {k : Nat} (ha : k ∈ a) : k ∉ b := by
  rw [offB_eq] at h
  have := h k (by rw [bitsOf_bit]; simpa using ha)
  rw [bitsOf_bit] at this
  simpa using this
theorem free_of {m i : Nat} {o : Oper} {d : Array Bool} (h : Listed ops.size m d) (ho : ops[i]? = some o) (hf : freeB m i (opBits md ops o).writes (opBits md ops o).looks (infoB md ops) 0 = true) : Region.free md ops d i = true := by
  unfold Region.free
  simp only [ho, List.all_eq_true, List.mem_range]
  intro j hj
  have hoj : ops[j]? = some ops[j] := Array.getElem?_eq_getElem hj
  generalize ops[j] = oj at hoj
  have h1 := freeB_all hf j _ (by rw [infoB_get, hoj]; rfl)
  rw [Nat.zero_add] at h1
  simp only [hoj, Bool.or_eq_true, beq_iff_eq]
  rcases h1 with h1 | h1 | h1 | ⟨h1, h2, h3⟩
  · exact .inl (.inl h1)
  · exact .inl (.inr (by rw [h.not hj]; exact h1))
  · refine .inr (.inl ?_)
    unfold opBits at h1
    simp only [bitsOf_bit, decide_eq_true_eq, List.mem_map, List.mem_filter, Array.mem_toList_iff] at h1
    obtain ⟨e, ⟨he, hb⟩, rfl⟩ := h1
    rw [Array.any_eq_true']
    exact ⟨e, he, by simp [hb]⟩
  · refine .inr (.inr ?_)
    unfold opBits at h1 h2 h3
    simp only at h1 h2 h3
    unfold Oper.apart
    rw [Bool.and_eq_true]
    constructor
    · cases hd : o.dst with
      | none => rfl
      | some t =>
        have q1 := offB_bits h1 (k := t) (by rw [hd]; simp)
        have q2 := offB_bits h2 (k := t) (by rw [hd]; simp)
        simp only [Bool.and_eq_true, Bool.not_eq_true', List.contains_eq_mem, decide_eq_false_iff_not, bne_iff_ne, ne_eq]
        refine ⟨q1, fun e => q2 ?_⟩
        rw [e]; simp
    · cases hd : oj.dst with
      | none => rfl
      | some t =>
        have q3 := offB_bits h3 (k := t) (by rw [hd]; simp)
        simp only [Bool.not_eq_true', List.contains_eq_mem, decide_eq_false_iff_not]
        exact q3
theorem fastB_order : ∀ (ord : List (Bool × Nat)) {m : Nat} {d : Array Bool}, Listed ops.size m d → fastB (infoB md ops) ord m = true → orderB md ops ord d = true
  | [], m, d, hl, h => by
    unfold fastB at h
    unfold orderB
    have := ready_none (md := md) (ops := ops) (d := d) fun j hj => by
      obtain ⟨h1, o, ho, h2⟩ := (ready_iff (n := 0) hl).1 hj
      rcases aloneB_all h j _ (by rw [infoB_get, ho]; rfl) with h3 | h3 | h3
      · have hi := (Array.getElem?_eq_some_iff.1 ho).1
        unfold infoB at h3
        rw [List.length_map, Array.length_toList] at h3
        omega
      · rw [Nat.zero_add, h1] at h3; cases h3
      · rw [h2] at h3; cases h3
    rw [this]; rfl
  | (b, i) :: r, m, d, hl, h => by
    unfold fastB at h
    rw [Bool.and_eq_true, infoB_get] at h
    obtain ⟨h, hr⟩ := h
    cases ho : ops[i]? with
    | none => rw [ho] at h; cases h
    | some o =>
      rw [ho] at h
      simp only [Option.map_some, Bool.and_eq_true, Bool.not_eq_true', bitB_eq] at h
      obtain ⟨⟨h1, h2⟩, h3⟩ := h
      have hi := (Array.getElem?_eq_some_iff.1 ho).1
      have hmem : i ∈ Region.ready md ops d := (ready_iff (n := 0) hl).2 ⟨h1, o, ho, h2⟩
      have hrest := fastB_order r (hl.put hi) hr
      cases b with
      | true =>
        simp only at h3
        unfold orderB
        rw [Bool.and_eq_true, Bool.and_eq_true]
        exact ⟨⟨by simpa using hmem, free_of hl ho h3⟩, hrest⟩
      | false =>
        simp only at h3
        unfold orderB
        rw [Bool.and_eq_true, decide_eq_true_eq]
        refine ⟨ready_one (m := 0) hmem fun j hj => ?_, hrest⟩
        obtain ⟨g1, o', ho', g2⟩ := (ready_iff (n := 0) hl).1 hj
        rcases aloneB_all h3 j _ (by rw [infoB_get, ho']; rfl) with h4 | h4 | h4
        · omega
        · rw [Nat.zero_add, g1] at h4; cases h4
        · rw [g2] at h4; cases h4
variable {B : Nat} {w0 w : World} {L : List Blk} {F : World → Prop} {a : Act} {Q : Exit → Act → World → Prop}
theorem wm_heldF {id : Nat} {os : List Oper} (Ls : List Blk) (ord : List (Bool × Nat)) (K : St B w0 L F w) (hsub : Ls.Sublist L) (hm : P.follows .mixedOrders = true) (hB : (Region.noSelect os.toArray && Nat.beq ord.length os.length && fastB (infoB .any os.toArray) ord 0) = true)
    (h : ∀ w', St B w0 L F w' → wpHeld P os.toArray (St B w0 Ls F) (NoP Q) (pick os.toArray ord) a w') : (Code.region id os.toArray true).wp P Q a w := by
  refine wm_held Ls ord K hsub hm ?_ h
  simp only [Bool.and_eq_true, Nat.beq_eq] at hB
  simp only [Bool.and_eq_true, decide_eq_true_eq]
  refine ⟨⟨hB.1.1, hB.1.2⟩, fastB_order ord ?_ hB.2⟩
  have := Listed.start os.length
  rwa [show os.length = os.toArray.size by simp] at this
end
end Go.Proofs.Yteancdipmpmjpaa
