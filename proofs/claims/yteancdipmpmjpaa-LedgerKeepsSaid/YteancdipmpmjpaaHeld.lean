/-
  Regions that draw their order, walked in one order that is told: an operation that only reads, and reads the same in every world that meets 'S', may be taken as soon as it may come up; another one where it alone may come up. One check of the order, by the kernel, serves the whole region. No condition: laws of the walk, no claim of their own.
-/
import Derived.Test.YteancdipmpmjpaaMem
namespace Go.Proofs.Yteancdipmpmjpaa
open Go.RowKit
set_option linter.unusedVariables false

section
variable {P : Program} {ops : Array Oper} {md : Region.Mode} {S : World → Prop} {Q : Exit → Act → World → Prop}
/-- May the operations come up in this order? 'true': it is taken ahead of others; 'false': it alone may come up. -/
def orderB (md : Region.Mode) (ops : Array Oper) : List (Bool × Nat) → Array Bool → Bool
  | [], d => (Region.ready md ops d).isEmpty
  | (true, i) :: r, d => (Region.ready md ops d).contains i && Region.free md ops d i && orderB md ops r (d.setIfInBounds i true)
  | (false, i) :: r, d => decide (Region.ready md ops d = [i]) && orderB md ops r (d.setIfInBounds i true)
/-- The operations in that order. -/
def pick (ops : Array Oper) : List (Bool × Nat) → List (Bool × Oper)
  | [] => []
  | (b, i) :: r => match ops[i]? with
    | some o => (b, o) :: pick ops r
    | none => pick ops r
/-- What is asked of each. -/
def wpHeld (P : Program) (ops : Array Oper) (S : World → Prop) (Q : Exit → Act → World → Prop) : List (Bool × Oper) → Act → World → Prop
  | [], a, w => Q .normal a w
  | (true, o) :: r, a, w => if Region.wanted o (yielded ops a.tmps) then ∃ v, (∀ w', S w' → (match (execOp a.eval o).run P w' with | .ok (.value u) w'' => w'' = w' ∧ u = v | _ => False)) ∧ wpHeld P ops S Q r (a.put o.dst v) w else wpHeld P ops S Q r (a.put o.dst undef) w
  | (false, o) :: r, a, w => if Region.wanted o (yielded ops a.tmps) then o.wp P a w (fun a' w' => S w' ∧ wpHeld P ops S Q r a' w') Q else S w ∧ wpHeld P ops S Q r (a.put o.dst undef) w

theorem wpHeld_any (hs : Region.noSelect ops = true) (hQ : ∀ (c : List PanicEntry) a d v w, Q (.panic c) (Act.put a d v) w → Q (.panic c) a w) : ∀ (ord : List (Bool × Nat)) (d : Array Bool) (a : Act) (w : World), orderB md ops ord d = true → S w →
    wpHeld P ops S Q (pick ops ord) a w → wpAnyH P md ops Q S ord.length d a w
  | [], d, a, w, hB, hS, h => wpAnyH_done (by simpa [orderB] using hB) h 0
  | (true, i) :: r, d, a, w, hB, hS, h => by
    simp only [orderB, Bool.and_eq_true] at hB
    have hr : i ∈ Region.ready md ops d := by simpa using hB.1.1
    obtain ⟨_, o, ho, _⟩ := mem_ready.1 hr
    simp only [pick, ho, wpHeld] at h
    by_cases hw : Region.wanted o (yielded ops a.tmps) = true
    · rw [if_pos hw] at h
      obtain ⟨v, hv, h⟩ := h
      refine wpAnyH_take ho hs hB.1.2 hB.1.1 (fun c a w => hQ c a o.dst v w) (.inl ⟨hw, fun w' hw' => ?_⟩) hS (wpHeld_any hs hQ r _ _ _ hB.2 hS h)
      have := hv w' hw'
      generalize (execOp a.eval o).run P w' = z at this
      rcases z with ⟨n, w''⟩ | _
      · cases n <;> simp only at this
        obtain ⟨rfl, rfl⟩ := this
        rfl
      · exact this.elim
    · rw [if_neg hw] at h
      exact wpAnyH_take ho hs hB.1.2 hB.1.1 (fun c a w => hQ c a o.dst undef w) (.inr ⟨by simpa using hw, rfl⟩) hS (wpHeld_any hs hQ r _ _ _ hB.2 hS h)
  | (false, i) :: r, d, a, w, hB, hS, h => by
    simp only [orderB, Bool.and_eq_true, decide_eq_true_eq] at hB
    have hr : i ∈ Region.ready md ops d := by rw [hB.1]; simp
    obtain ⟨_, o, ho, _⟩ := mem_ready.1 hr
    simp only [pick, ho, wpHeld] at h
    refine wpAnyH_all hB.1 (by simp) fun j hj => ?_
    simp only [List.mem_singleton] at hj
    subst hj
    unfold wpOp
    simp only [ho]
    by_cases hw : Region.wanted o (yielded ops a.tmps) = true
    · rw [if_pos hw] at h ⊢
      exact .inl (Oper.wp_mono (fun a' w' h' => ⟨h'.1, wpHeld_any hs hQ r _ _ _ hB.2 h'.1 h'.2⟩) h)
    · rw [if_neg hw] at h ⊢
      exact ⟨h.1, wpHeld_any hs hQ r _ _ _ hB.2 h.1 h.2⟩

/-- Q, but no panic. -/
def NoP (Q : Exit → Act → World → Prop) : Exit → Act → World → Prop
  | .panic _, _, _ => False
  | e, a, w => Q e a w
theorem NoP.imp {Q : Exit → Act → World → Prop} : ∀ (e : Exit) (a : Act) (w : World), NoP Q e a w → Q e a w := fun e a w h => by
  cases e <;> first | exact h | exact (h : False).elim
theorem wp_held {id : Nat} {os : List Oper} {a : Act} {w : World} (ord : List (Bool × Nat)) (hm : P.follows .mixedOrders = true) (hB : (Region.noSelect os.toArray && decide (ord.length = os.length) && orderB .any os.toArray ord (Array.replicate os.length false)) = true)
    (hS : S w.drew) (h : wpHeld P os.toArray S (NoP Q) (pick os.toArray ord) a w.drew) : (Code.region id os.toArray true).wp P Q a w := by
  simp only [Bool.and_eq_true, decide_eq_true_eq] at hB
  refine Code.wp_mono NoP.imp (wp_region_held (S := S) (Q := NoP Q) hm ?_)
  have := wpHeld_any (Q := NoP Q) hB.1.1 (fun _ _ _ _ _ h => h) ord _ a w.drew hB.2 hS h
  rw [hB.1.2] at this
  simpa using this

variable {r : List (Bool × Oper)} {o : Oper} {a : Act} {w : World}
theorem held_nil (h : Q .normal a w) : wpHeld P ops S (NoP Q) [] a w := h
theorem held_take (h : ∀ K : Act → Prop, (∀ a, wpHeld P ops S Q r a w → K a) →
    if Region.wanted o (yielded ops a.tmps) then ∃ v, (∀ w', S w' → (match (execOp a.eval o).run P w' with | .ok (.value u) w'' => w'' = w' ∧ u = v | _ => False)) ∧ K (a.put o.dst v) else K (a.put o.dst undef)) : wpHeld P ops S Q ((true, o) :: r) a w := by
  have := h (fun a => wpHeld P ops S Q r a w) (fun _ h => h)
  exact this
theorem held_do (h : ∀ K : Act → World → Prop, (∀ a w, S w → wpHeld P ops S Q r a w → K a w) →
    if Region.wanted o (yielded ops a.tmps) then o.wp P a w K Q else K (a.put o.dst undef) w) : wpHeld P ops S Q ((false, o) :: r) a w := by
  have := h (fun a w => S w ∧ wpHeld P ops S Q r a w) (fun _ _ h1 h2 => ⟨h1, h2⟩)
  exact this
theorem held_val (hgd : Region.wanted o (yielded ops a.tmps) = true) (v : Value) (hv : ∀ w', S w' → (execOp a.eval o).run P w' = .ok (.value v) w') (h : wpHeld P ops S Q r (a.put o.dst v) w) : wpHeld P ops S Q ((true, o) :: r) a w := by
  unfold wpHeld
  rw [if_pos hgd]
  exact ⟨v, fun w' hw' => by rw [hv w' hw']; exact ⟨rfl, rfl⟩, h⟩
end
section
variable {P : Program} {B : Nat} {w0 w : World} {L L' Ls : List Blk} {F : World → Prop} {ops : Array Oper} {r : List (Bool × Oper)} {o : Oper} {a : Act} {S : World → Prop} {Q : Exit → Act → World → Prop}
theorem St.sub (K : St B w0 L F w) (h : Ls.Sublist L) : St B w0 Ls F w :=
  ⟨K.below, K.size, fun p hp => K.has p (h.subset hp), K.nodup.sublist (h.map _), fun w' h1 h2 => K.keep w' h1 fun b hb1 hb2 => h2 b hb1 fun hm => hb2 ((h.map _).subset hm)⟩
theorem hm_load (hgd : Region.wanted o (yielded ops a.tmps) = true) (ty : TypeId) (x : Operand) (ho : o.op = .load ty x) {g : Nat} (hx : a.eval x = .pointer (some ⟨g, 0, none⟩)) {cs : Array Value} {t : TypeId} (ha : At Ls g cs t)
    {n : Nat} (hu : RowTy P ty n) (hn : cs.size = n) (h : wpHeld P ops (St B w0 Ls F) Q r (a.put o.dst (.agg cs)) w) : wpHeld P ops (St B w0 Ls F) Q ((true, o) :: r) a w := by
  obtain ⟨d, h1, h2, h3⟩ := hu
  refine held_val hgd (.agg cs) (fun w K => ?_) h
  have := run_loadVar_row (P := P) w g t ty cs (0, 0) d (K.get ha) h1 (by cases d <;> simp_all) (by rw [hn]; exact h3)
  unfold execOp
  simp only [ho, hx, Instr.loadAt, Instr.sureAddr, Sem.run_bind, Sem.run_pure, Result.andThen_ok, this]
theorem hm_part (hgd : Region.wanted o (yielded ops a.tmps) = true) (ty : TypeId) (x : Operand) (ho : o.op = .load ty x) {g off : Nat} (hx : a.eval x = .pointer (some ⟨g, off, none⟩)) {cs : Array Value} {t : TypeId} (ha : At Ls g cs t)
    {n : Nat} (hu : RowTy P ty n) (part : Array Value) (hp : ∀ (j : Nat) (v : Value), part[j]? = some v → cs[off + j]? = some v) (hn : part.size = n)
    (h : wpHeld P ops (St B w0 Ls F) Q r (a.put o.dst (.agg part)) w) : wpHeld P ops (St B w0 Ls F) Q ((true, o) :: r) a w := by
  obtain ⟨d, h1, h2, h3⟩ := hu
  refine held_val hgd (.agg part) (fun w K => ?_) h
  have := run_loadVar_mid (P := P) w g off ty part.toList d (fun j v hv => (K.get ha).cell (hp j v (by simpa using hv))) h1 (by cases d <;> simp_all) (by rw [Array.length_toList, hn]; exact h3)
  unfold execOp
  simp only [ho, hx, Instr.loadAt, Instr.sureAddr, Sem.run_bind, Sem.run_pure, Result.andThen_ok, this, Array.toArray_toList]
theorem hm_cell (hgd : Region.wanted o (yielded ops a.tmps) = true) (ty : TypeId) (x : Operand) (ho : o.op = .load ty x) {p : Addr} (hx : a.eval x = .pointer (some p)) {v : Value} (hv : ∀ w, S w → w.cell? p = some v) (hu : OneTy P ty)
    (h : wpHeld P ops S Q r (a.put o.dst v) w) : wpHeld P ops S Q ((true, o) :: r) a w :=
  held_val hgd v (fun w hS => by
    unfold execOp
    simp only [ho, hx, Sem.run_bind, run_load_cell hu (hv w hS), Sem.run_pure, Result.andThen_ok]) h
theorem hm_own (hgd : Region.wanted o (yielded ops a.tmps) = true) (ty : TypeId) (x : Operand) (ho : o.op = .load ty x) {g off : Nat} (hx : a.eval x = .pointer (some ⟨g, off, none⟩)) {cs : Array Value} {t : TypeId} (ha : At Ls g cs t)
    {v : Value} (hv : cs[off]? = some v) (hu : OneTy P ty) (h : wpHeld P ops (St B w0 Ls F) Q r (a.put o.dst v) w) : wpHeld P ops (St B w0 Ls F) Q ((true, o) :: r) a w :=
  hm_cell hgd ty x ho hx (fun w K => (K.get ha).cell hv) hu h
/-- A load of a cell that is known in this world alone. -/
theorem hm_now (hgd : Region.wanted o (yielded ops a.tmps) = true) (ty : TypeId) (x : Operand) (ho : o.op = .load ty x) {p : Addr} (hx : a.eval x = .pointer (some p)) {v : Value} (hv : w.cell? p = some v) (hu : OneTy P ty) (hS : S w)
    (h : wpHeld P ops S Q r (a.put o.dst v) w) : wpHeld P ops S Q ((false, o) :: r) a w := by
  unfold wpHeld
  rw [if_pos hgd]
  unfold Oper.wp execOp
  simp only [ho, hx, Sem.run_bind, run_load_cell hu hv, Sem.run_pure, Result.andThen_ok]
  exact ⟨hS, h⟩
theorem hm_store (K : St B w0 L F w) (hgd : Region.wanted o (yielded ops a.tmps) = true) (ty : TypeId) (x y : Operand) (ho : o.op = .store ty x y) (hdst : o.dst = none) {g : Nat} (hx : a.eval x = .pointer (some ⟨g, 0, none⟩)) {new : Array Value} (hy : a.eval y = .agg new)
    {cs : Array Value} {t : TypeId} (hp : Put L g cs t new L') {n : Nat} (hu : RowTy P ty n) (hn : new.size = n) (hold : cs.size = n) (h1 : Ones new)
    (h : ∀ w' : World, St B w0 L' F w' → S w' ∧ wpHeld P ops S Q r a w') : wpHeld P ops S Q ((false, o) :: r) a w := by
  obtain ⟨d, _, _, h3⟩ := hu
  unfold wpHeld
  rw [if_pos hgd]
  have hK := h _ (K.setRow hp)
  exact wp_store_row ty x y ho g new hx hy t cs (K.get hp.at) (by rw [hn]; exact h3) (by omega) h1 (by rw [hdst]; exact hK)
theorem hm_storePart (K : St B w0 L F w) (hgd : Region.wanted o (yielded ops a.tmps) = true) (ty : TypeId) (x y : Operand) (ho : o.op = .store ty x y) (hdst : o.dst = none) {g off : Nat} (hx : a.eval x = .pointer (some ⟨g, off, none⟩)) {new : Array Value} (hy : a.eval y = .agg new)
    {cs : Array Value} {t : TypeId} (hp : Put L g cs t (over cs off new.toList) L') {n : Nat} (hu : RowTy P ty n) (hn : new.size = n) (hold : off + n ≤ cs.size) (h1 : Ones new)
    (h : ∀ w' : World, St B w0 L' F w' → S w' ∧ wpHeld P ops S Q r a w') : wpHeld P ops S Q ((false, o) :: r) a w := by
  obtain ⟨d, _, _, h3⟩ := hu
  unfold wpHeld
  rw [if_pos hgd]
  have hK := h _ (K.setCells hp)
  exact wp_store_mid ty x y ho g off new hx hy (fun j hj => ⟨by rw [(K.get hp.at).cell (Array.getElem?_eq_getElem (i := off + j) (by omega))]; rfl, (K.get hp.at).free _⟩) (by rw [hn]; exact h3) h1 (by rw [hdst]; exact hK)
theorem hm_put (K : St B w0 L F w) (hgd : Region.wanted o (yielded ops a.tmps) = true) (ty : TypeId) (x y : Operand) (ho : o.op = .store ty x y) (hdst : o.dst = none) {g off : Nat} (hx : a.eval x = .pointer (some ⟨g, off, none⟩)) {v : Value} (hy : a.eval y = v)
    {cs new : Array Value} {t : TypeId} (hp : Put L g cs t new L') (hs : off < cs.size) (hnew : cs.setIfInBounds off v = new) (hu : OneTy P ty) (h1 : v.oneCell' = true) (hc : v.cells = #[v])
    (h : ∀ w' : World, St B w0 L' F w' → S w' ∧ wpHeld P ops S Q r a w') : wpHeld P ops S Q ((false, o) :: r) a w := by
  subst hnew
  have hcell := (K.get hp.at).cell (Array.getElem?_eq_getElem (i := off) hs)
  unfold wpHeld
  rw [if_pos hgd]
  unfold Oper.wp execOp
  simp only [ho, hx, hy, Sem.run_bind, run_store_cell hu hcell ((K.get hp.at).free off) h1 hc, Sem.run_pure, Result.andThen_ok, Oper.upon, hdst]
  exact h _ (K.setCell hp)
theorem ht_load {b : Bool} {dst : Option Tmp} {type : TypeId} {pos : String} {after : Array Edge} {guard : Option (Nat × Bool)} {ty : TypeId} {x : Operand} (h : wpHeld P ops S Q ((b, ⟨dst, .load ty x, type, pos, after, guard⟩) :: r) a w) : wpHeld P ops S Q ((b, ⟨dst, .load ty x, type, pos, after, guard⟩) :: r) a w := h
theorem ht_store {b : Bool} {dst : Option Tmp} {type : TypeId} {pos : String} {after : Array Edge} {guard : Option (Nat × Bool)} {ty : TypeId} {x y : Operand} (h : wpHeld P ops S Q ((b, ⟨dst, .store ty x y, type, pos, after, guard⟩) :: r) a w) : wpHeld P ops S Q ((b, ⟨dst, .store ty x y, type, pos, after, guard⟩) :: r) a w := h
/-- The beginning, in the words of 'St': the blocks 'Ls' are not written in the region. -/
theorem wm_held {id : Nat} {os : List Oper} (Ls : List Blk) (ord : List (Bool × Nat)) (K : St B w0 L F w) (hsub : Ls.Sublist L) (hm : P.follows .mixedOrders = true) (hB : (Region.noSelect os.toArray && decide (ord.length = os.length) && orderB .any os.toArray ord (Array.replicate os.length false)) = true)
    (h : ∀ w', St B w0 L F w' → wpHeld P os.toArray (St B w0 Ls F) (NoP Q) (pick os.toArray ord) a w') : (Code.region id os.toArray true).wp P Q a w :=
  wp_held (S := St B w0 Ls F) ord hm hB (K.drew.sub hsub) (h _ K.drew)
end
end Go.Proofs.Yteancdipmpmjpaa
