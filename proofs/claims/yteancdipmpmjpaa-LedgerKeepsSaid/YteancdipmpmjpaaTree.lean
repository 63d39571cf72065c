/-
  Regions that draw their order, walked in all the orders that are left behind those operations that may be taken first: the orders are told as a tree. No condition: laws of the walk, no claim of their own.
-/
import Derived.Test.YteancdipmpmjpaaHeld
namespace Go.Proofs.Yteancdipmpmjpaa
open Go.RowKit
set_option linter.unusedVariables false
/-- The orders: an operation is taken first, or one of several comes up ('alt' one, its rest, the others). -/
inductive Tr | done | stop | take (i : Nat) (t : Tr) | alt (i : Nat) (t : Tr) (more : Tr)
def Tr.firsts : Tr → List Nat
  | .alt i _ m => i :: m.firsts
  | _ => []
section
variable {P : Program} {ops : Array Oper} {md : Region.Mode} {S : World → Prop} {Q : Exit → Act → World → Prop}
def treeB (md : Region.Mode) (ops : Array Oper) : Bool → Nat → Tr → Array Bool → Bool
  | true, f, .done, d => (Region.ready md ops d).isEmpty
  | false, _, .stop, _ => true
  | true, f + 1, .take i t, d => (Region.ready md ops d).contains i && Region.free md ops d i && treeB md ops true f t (d.setIfInBounds i true)
  | true, f + 1, .alt i t m, d => decide (Region.ready md ops d = i :: m.firsts) && treeB md ops true f t (d.setIfInBounds i true) && treeB md ops false (f + 1) m d
  | false, f + 1, .alt i t m, d => treeB md ops true f t (d.setIfInBounds i true) && treeB md ops false (f + 1) m d
  | _, _, _, _ => false
def opAt (ops : Array Oper) (i : Nat) : Oper := (ops[i]?).getD default
def wpTree (P : Program) (ops : Array Oper) (S : World → Prop) (Q : Exit → Act → World → Prop) : Tr → Act → World → Prop
  | .done, a, w => Q .normal a w
  | .stop, _, _ => True
  | .take i t, a, w => if Region.wanted (opAt ops i) (yielded ops a.tmps) then ∃ v, (∀ w', S w' → (match (execOp a.eval (opAt ops i)).run P w' with | .ok (.value u) w'' => w'' = w' ∧ u = v | _ => False)) ∧ wpTree P ops S Q t (a.put (opAt ops i).dst v) w else wpTree P ops S Q t (a.put (opAt ops i).dst undef) w
  | .alt i t m, a, w => (if Region.wanted (opAt ops i) (yielded ops a.tmps) then (opAt ops i).wp P a w (fun a' w' => S w' ∧ wpTree P ops S Q t a' w') Q else S w ∧ wpTree P ops S Q t (a.put (opAt ops i).dst undef) w) ∧ wpTree P ops S Q m a w
theorem opAt_eq {i : Nat} {o : Oper} (h : ops[i]? = some o) : opAt ops i = o := by simp [opAt, h]
theorem wpTree_any (hs : Region.noSelect ops = true) (hQ : ∀ (c : List PanicEntry) a d v w, Q (.panic c) (Act.put a d v) w → Q (.panic c) a w) : ∀ (f : Nat) (t : Tr) (d : Array Bool) (a : Act) (w : World), treeB md ops true f t d = true → S w →
    wpTree P ops S Q t a w → wpAnyH P md ops Q S f d a w := by
  intro f
  induction f with
  | zero =>
    intro t d a w hB hS h
    cases t <;> simp only [treeB] at hB <;> first | cases hB | skip
    exact wpAnyH_done (by simpa using hB) h 0
  | succ f ih =>
    intro t d a w hB hS h
    cases t with
    | done => simp only [treeB] at hB; exact wpAnyH_done (by simpa using hB) h (f + 1)
    | stop => simp only [treeB] at hB; cases hB
    | take i t =>
      simp only [treeB, Bool.and_eq_true] at hB
      have hr : i ∈ Region.ready md ops d := by simpa using hB.1.1
      obtain ⟨_, o, ho, _⟩ := mem_ready.1 hr
      simp only [wpTree, opAt_eq ho] at h
      by_cases hw : Region.wanted o (yielded ops a.tmps) = true
      · rw [if_pos hw] at h
        obtain ⟨v, hv, h⟩ := h
        refine wpAnyH_take ho hs hB.1.2 hB.1.1 (fun c a w => hQ c a o.dst v w) (.inl ⟨hw, fun w' hw' => ?_⟩) hS (ih t _ _ _ hB.2 hS h)
        have := hv w' hw'
        generalize (execOp a.eval o).run P w' = z at this
        rcases z with ⟨n, w''⟩ | _
        · cases n <;> simp only at this
          obtain ⟨rfl, rfl⟩ := this
          rfl
        · exact this.elim
      · rw [if_neg hw] at h
        exact wpAnyH_take ho hs hB.1.2 hB.1.1 (fun c a w => hQ c a o.dst undef w) (.inr ⟨by simpa using hw, rfl⟩) hS (ih t _ _ _ hB.2 hS h)
    | alt i t m =>
      simp only [treeB, Bool.and_eq_true, decide_eq_true_eq] at hB
      have key : ∀ (m : Tr), treeB md ops false (f + 1) m d = true → wpTree P ops S Q m a w → ∀ j ∈ m.firsts, j ∈ Region.ready md ops d → wpOp P ops Q j (fun a' w' => S w' ∧ wpAnyH P md ops Q S f (d.setIfInBounds j true) a' w') a w := by
        intro m
        induction m with
        | alt j t m _ ihm =>
          intro hB hm k hk hkr
          simp only [treeB, Bool.and_eq_true] at hB
          rcases List.mem_cons.1 hk with rfl | hk
          · obtain ⟨_, o, ho, _⟩ := mem_ready.1 hkr
            have h1 := hm.1
            simp only [opAt_eq ho] at h1
            unfold wpOp
            simp only [ho]
            by_cases hw : Region.wanted o (yielded ops a.tmps) = true
            · rw [if_pos hw] at h1 ⊢
              exact .inl (Oper.wp_mono (fun a' w' h' => ⟨h'.1, ih t _ _ _ hB.1 h'.1 h'.2⟩) h1)
            · rw [if_neg hw] at h1 ⊢
              exact ⟨h1.1, ih t _ _ _ hB.1 h1.1 h1.2⟩
          · exact ihm hB.2 hm.2 k hk hkr
        | _ => intro _ _ j hj; cases hj
      refine wpAnyH_all hB.1.1 (by simp) fun j hj => ?_
      exact key (.alt i t m) (by simp only [treeB, Bool.and_eq_true]; exact ⟨hB.1.2, hB.2⟩) h j hj (by rw [hB.1.1]; exact hj)
variable {B : Nat} {w0 w : World} {L L' Ls : List Blk} {F : World → Prop} {a : Act} {t m : Tr} {i : Nat} {o : Oper}
theorem wm_tree {id : Nat} {os : List Oper} (Ls : List Blk) (T : Tr) (K : St B w0 L F w) (hsub : Ls.Sublist L) (hm : P.follows .mixedOrders = true) (hB : (Region.noSelect os.toArray && treeB .any os.toArray true os.length T (Array.replicate os.length false)) = true)
    (h : ∀ w', St B w0 L F w' → wpTree P os.toArray (St B w0 Ls F) (NoP Q) T a w') : (Code.region id os.toArray true).wp P Q a w := by
  simp only [Bool.and_eq_true] at hB
  refine Code.wp_mono NoP.imp (wp_region_held (S := St B w0 Ls F) (Q := NoP Q) hm ?_)
  have := wpTree_any (P := P) (Q := NoP Q) (S := St B w0 Ls F) hB.1 (fun _ _ _ _ _ h => h) _ T _ a w.drew hB.2 (K.drew.sub hsub) (h _ K.drew)
  simpa using this
theorem tree_take (h : ∀ K : Act → Prop, (∀ a, wpTree P ops S Q t a w → K a) →
    if Region.wanted (opAt ops i) (yielded ops a.tmps) then ∃ v, (∀ w', S w' → (match (execOp a.eval (opAt ops i)).run P w' with | .ok (.value u) w'' => w'' = w' ∧ u = v | _ => False)) ∧ K (a.put (opAt ops i).dst v) else K (a.put (opAt ops i).dst undef)) : wpTree P ops S Q (.take i t) a w :=
  h (fun a => wpTree P ops S Q t a w) (fun _ h => h)
theorem tree_alt (h : (∀ K : Act → World → Prop, (∀ a w, S w → wpTree P ops S Q t a w → K a w) →
    if Region.wanted (opAt ops i) (yielded ops a.tmps) then (opAt ops i).wp P a w K Q else K (a.put (opAt ops i).dst undef) w)) (h2 : wpTree P ops S Q m a w) : wpTree P ops S Q (.alt i t m) a w :=
  ⟨h (fun a w => S w ∧ wpTree P ops S Q t a w) (fun _ _ h1 h2 => ⟨h1, h2⟩), h2⟩
theorem tree_done (h : Q .normal a w) : wpTree P ops S (NoP Q) .done a w := h
theorem tree_stop : wpTree P ops S Q .stop a w := trivial
theorem tm_load (ho : opAt ops i = o) (hgd : Region.wanted o (yielded ops a.tmps) = true) (ty : TypeId) (x : Operand) (hop : o.op = .load ty x) {g : Nat} (hx : a.eval x = .pointer (some ⟨g, 0, none⟩)) {cs : Array Value} {t0 : TypeId} (ha : At Ls g cs t0)
    {n : Nat} (hu : RowTy P ty n) (hn : cs.size = n) (h : wpTree P ops (St B w0 Ls F) Q t (a.put o.dst (.agg cs)) w) : wpTree P ops (St B w0 Ls F) Q (.take i t) a w := by
  subst ho
  obtain ⟨d, h1, h2, h3⟩ := hu
  unfold wpTree
  rw [if_pos hgd]
  refine ⟨.agg cs, fun w K => ?_, h⟩
  have := run_loadVar_row (P := P) w g t0 ty cs (0, 0) d (K.get ha) h1 (by cases d <;> simp_all) (by rw [hn]; exact h3)
  unfold execOp
  simp only [hop, hx, Instr.loadAt, Instr.sureAddr, Sem.run_bind, Sem.run_pure, Result.andThen_ok, this, and_self]
theorem tm_alloc (K : St B w0 L F w) (ho : opAt ops i = o) (hgd : Region.wanted o (yielded ops a.tmps) = true) (ty : TypeId) (hop : o.op = .alloc ty) {v : Value} (hz : (P.info? ty).map (·.zero) = some (some v)) {cs : Array Value} (hc : v.cells = cs)
    (h : ∀ (b : Nat) (w' : World), St B w0 ((b, cs, ty) :: L) F w' → S w' ∧ wpTree P ops S Q t (a.put o.dst (.pointer (some ⟨b, 0, none⟩))) w') (h2 : wpTree P ops S Q m a w) : wpTree P ops S Q (.alt i t m) a w := by
  subst ho hc
  have hz' : (zeroValue ty).run P w = .ok v w := by
    cases hq : P.info? ty with
    | none => simp [hq] at hz
    | some i =>
      have : i.zero = some v := by simpa [hq] using hz
      simp [zeroValue, typeInfo, hq, this]
  refine ⟨?_, h2⟩
  rw [if_pos hgd]
  unfold Oper.wp execOp
  simp only [hop, Instr.alloc, newVar, newRow, newObj, Sem.run_bind, Sem.run_pure, Result.andThen_ok, hz']
  exact h _ _ (K.alloc _ ty)
theorem tm_store (K : St B w0 L F w) (ho : opAt ops i = o) (hgd : Region.wanted o (yielded ops a.tmps) = true) (ty : TypeId) (x y : Operand) (hop : o.op = .store ty x y) (hdst : o.dst = none) {g : Nat} (hx : a.eval x = .pointer (some ⟨g, 0, none⟩)) {new : Array Value} (hy : a.eval y = .agg new)
    {cs : Array Value} {t0 : TypeId} (hp : Put L g cs t0 new L') {n : Nat} (hu : RowTy P ty n) (hn : new.size = n) (hold : cs.size = n) (h1 : Ones new)
    (h : ∀ w' : World, St B w0 L' F w' → S w' ∧ wpTree P ops S Q t a w') (h2 : wpTree P ops S Q m a w) : wpTree P ops S Q (.alt i t m) a w := by
  subst ho
  obtain ⟨d, _, _, h3⟩ := hu
  refine ⟨?_, h2⟩
  rw [if_pos hgd]
  have hK := h _ (K.setRow hp)
  exact wp_store_row ty x y hop g new hx hy t0 cs (K.get hp.at) (by rw [hn]; exact h3) (by omega) h1 (by rw [hdst]; exact hK)
end
end Go.Proofs.Yteancdipmpmjpaa
