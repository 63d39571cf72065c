/-
  Regions that draw their order, walked in one order that is told, as in the text before, whose last operations, one behind the other, do what they like: what they write may have been read ahead of them. No condition: laws of the walk, no claim of their own.
-/
import Derived.Test.YteancdipmpmjpaaHeld
namespace Go.Proofs.Yteancdipmpmjpaa
open Go.RowKit
set_option linter.unusedVariables false
section
variable {P : Program} {ops : Array Oper} {md : Region.Mode} {S : World → Prop} {Q : Exit → Act → World → Prop}

theorem oper_wp_Q {Q' : Exit → Act → World → Prop} {o : Oper} {a : Act} {w : World} {K : Act → World → Prop} (hp : ∀ c a w, Q (.panic c) a w → Q' (.panic c) a w) (hl : LetsOut Q → LetsOut Q') (h : o.wp P a w K Q) : o.wp P a w K Q' := by
  unfold Oper.wp at *
  generalize (execOp a.eval o).run P w = r at *
  cases r with
  | ok n w' =>
    cases n <;> simp only [Oper.upon] at h ⊢ <;>
      first
        | exact h
        | exact Calls.mono h (fun e w'' he => by cases e <;> first | exact he | exact hp _ _ _ he | exact hl he)
        | exact Rows.mono h (fun _ _ he => he)
  | halt x w' => cases x <;> simp only [Oper.upon] at h ⊢ <;> first | exact h | exact hp _ _ _ h

/-- Whatever order is picked among the first n operations: 'S' holds behind each, and 'L' of what is left. -/
def HeadH (P : Program) (md : Region.Mode) (ops : Array Oper) (Q : Exit → Act → World → Prop) (S : World → Prop) (n : Nat) (L : Array Bool → Act → World → Prop) : Nat → Array Bool → Act → World → Prop
  | 0, d, a, w => L d a w
  | f + 1, d, a, w => Region.ready md ops d ≠ [] ∧ ∀ i ∈ Region.ready md ops d, i < n ∧ wpOp P ops Q i (fun a' w' => S w' ∧ HeadH P md ops Q S n L f (d.setIfInBounds i true) a' w') a w

theorem HeadH.any {n g : Nat} {L : Array Bool → Act → World → Prop} (hL : ∀ d a w, L d a w → wpAny P md ops Q g d a w) (f : Nat) :
    ∀ (d : Array Bool) (a : Act) (w : World), HeadH P md ops Q S n L f d a w → wpAny P md ops Q (f + g) d a w := by
  induction f with
  | zero => intro d a w h; rw [Nat.zero_add]; exact hL d a w h
  | succ f ih =>
    intro d a w h
    rw [Nat.add_right_comm]
    exact ⟨fun h0 => absurd h0 h.1, fun i hi => wpOp_mono (fun a' w' h' => ih _ a' w' h'.2) (h.2 i hi).2⟩

theorem HeadH.first {n i : Nat} {o : Oper} {v : Value} {L : Array Bool → Act → World → Prop} (hi : ops[i]? = some o) (hsel : Region.noSelect ops = true) (hs : Region.sinkB md ops n = true) (hc : Region.chainB md ops n = true)
    (hn : n < ops.size) (hin : i < n) (hQ : ∀ c a w, Q (.panic c) (Act.put a o.dst v) w → Q (.panic c) a w) (hdone : ∀ d a w, L d a w → ∀ j ∈ Region.ready md ops d, n ≤ j) (f : Nat) :
    ∀ (d : Array Bool) (a : Act) (w : World), HeadInv md ops n d → (∀ j p, ops[j]? = some p → j ≠ i → d.getD j true = false → (∀ e ∈ p.after, Region.binds md e = true → e.on ≠ i) → o.apart ops p = true) →
      i ∈ Region.ready md ops d → YieldsIf P ops S o v a → S w → HeadH P md ops Q S n L f (d.setIfInBounds i true) (a.put o.dst v) w → HeadH P md ops Q S n L (f + 1) d a w := by
  induction f with
  | zero =>
    intro d a w inv _ hr hy hS H
    refine ⟨List.ne_nil_of_mem hr, fun j hj => ?_⟩
    have hjn : j < n := Nat.lt_of_not_le fun h => tail_waits hs hc hn inv _ i rfl hin (mem_ready.1 hr).1 j h hj
    rcases Decidable.em (j = i) with rfl | hji
    · exact ⟨hjn, hy.wpOp hi hS ⟨hS, H⟩⟩
    · have := hdone _ _ _ H j (ready_mono hj hji); omega
  | succ f ih =>
    intro d a w inv hfree hr hy hS H
    refine ⟨List.ne_nil_of_mem hr, fun j hj => ?_⟩
    have hun := (mem_ready.1 hr).1
    have hjn : j < n := Nat.lt_of_not_le fun h => tail_waits hs hc hn inv _ i rfl hin hun j h hj
    refine ⟨hjn, ?_⟩
    rcases Decidable.em (j = i) with rfl | hji
    · exact hy.wpOp hi hS ⟨hS, H⟩
    obtain ⟨hjun, p, hp, hall⟩ := mem_ready.1 hj
    have hno : ∀ e ∈ p.after, Region.binds md e = true → e.on ≠ i := by
      intro e he hb heq
      have := hall e he hb
      rw [heq, getD_both hun] at this
      cases this
    have q := wpOp_putIf hp (hfree j p hp hji hjun hno) (fun cs b => Region.noSelect_spec hsel i o cs b hi) (fun cs b => Region.noSelect_spec hsel j p cs b hp) hQ hy (H.2 j (ready_mono hj hji)).2
    refine wpOp_mono (fun a' w' h3 => ⟨h3.2.1, ih (d.setIfInBounds j true) a' w' (inv.set hj hjn) ?_ (ready_mono hr (Ne.symm hji)) h3.1 h3.2.1 ?_⟩) q
    · intro k r hk hki hku hkn
      refine hfree k r hk hki ?_ hkn
      rcases Decidable.em (j = k) with rfl | hjk
      · exact hjun
      · rwa [getD_set_ne true hjk] at hku
    · rw [Array.setIfInBounds_comm _ _ hji]; exact h3.2.2

/-- May the first n operations come up in this order, and the others behind them, one behind the other? -/
def orderT (md : Region.Mode) (ops : Array Oper) (g n : Nat) : List (Bool × Nat) → Array Bool → Bool
  | [], d => Region.seqB md ops g n d
  | (true, i) :: r, d => decide (i < n) && (Region.ready md ops d).contains i && Region.free md ops d i && orderT md ops g n r (d.setIfInBounds i true)
  | (false, i) :: r, d => decide (i < n) && decide (Region.ready md ops d = [i]) && orderT md ops g n r (d.setIfInBounds i true)
/-- What is asked behind the first n operations. -/
def Behind (T : Act → World → Prop) (Q : Exit → Act → World → Prop) : Exit → Act → World → Prop
  | .normal, a, w => T a w
  | e, a, w => Q e a w

theorem wpHeld_head {g n : Nat} {T : Act → World → Prop} (hs : Region.noSelect ops = true) (hsk : Region.sinkB md ops n = true) (hc : Region.chainB md ops n = true) (hn : n < ops.size) (hQ : ∀ (c : List PanicEntry) a d v w, Q (.panic c) (Act.put a d v) w → Q (.panic c) a w) (hlo : LetsOut (Behind T Q) → LetsOut Q) :
    ∀ (ord : List (Bool × Nat)) (d : Array Bool) (a : Act) (w : World), orderT md ops g n ord d = true → HeadInv md ops n d → S w → wpHeld P ops S (Behind T Q) (pick ops ord) a w →
      HeadH P md ops Q S n (fun d' a' w' => Region.seqB md ops g n d' = true ∧ T a' w') ord.length d a w
  | [], d, a, w, hB, inv, hS, h => ⟨hB, h⟩
  | (true, i) :: r, d, a, w, hB, inv, hS, h => by
    simp only [orderT, Bool.and_eq_true, decide_eq_true_eq] at hB
    have hr : i ∈ Region.ready md ops d := by simpa using hB.1.1.2
    obtain ⟨_, o, ho, _⟩ := mem_ready.1 hr
    simp only [pick, ho, wpHeld] at h
    by_cases hw : Region.wanted o (yielded ops a.tmps) = true
    · rw [if_pos hw] at h
      obtain ⟨v, hv, h⟩ := h
      refine HeadH.first ho hs hsk hc hn hB.1.1.1 (fun c a w => hQ c a o.dst v w) (fun d a w hL => seqB_ready hL.1) r.length d a w inv (Region.free_spec ho hB.1.2) hr (.inl ⟨hw, fun w' hw' => ?_⟩) hS (wpHeld_head hs hsk hc hn hQ hlo r _ _ _ hB.2 (inv.set hr hB.1.1.1) hS h)
      have := hv w' hw'
      generalize (execOp a.eval o).run P w' = z at this
      rcases z with ⟨n, w''⟩ | _
      · cases n <;> simp only at this
        obtain ⟨rfl, rfl⟩ := this
        rfl
      · exact this.elim
    · rw [if_neg hw] at h
      exact HeadH.first ho hs hsk hc hn hB.1.1.1 (fun c a w => hQ c a o.dst undef w) (fun d a w hL => seqB_ready hL.1) r.length d a w inv (Region.free_spec ho hB.1.2) hr (.inr ⟨by simpa using hw, rfl⟩) hS (wpHeld_head hs hsk hc hn hQ hlo r _ _ _ hB.2 (inv.set hr hB.1.1.1) hS h)
  | (false, i) :: r, d, a, w, hB, inv, hS, h => by
    simp only [orderT, Bool.and_eq_true, decide_eq_true_eq] at hB
    have hr : i ∈ Region.ready md ops d := by rw [hB.1.2]; simp
    obtain ⟨_, o, ho, _⟩ := mem_ready.1 hr
    simp only [pick, ho, wpHeld] at h
    refine ⟨by rw [hB.1.2]; simp, fun j hj => ?_⟩
    rw [hB.1.2, List.mem_singleton] at hj
    subst hj
    refine ⟨hB.1.1, ?_⟩
    unfold wpOp
    simp only [ho]
    by_cases hw : Region.wanted o (yielded ops a.tmps) = true
    · rw [if_pos hw] at h ⊢
      refine .inl (oper_wp_Q (Q := Behind T Q) (fun _ _ _ h => h) hlo (Oper.wp_mono (K := fun a' w' => S w' ∧ wpHeld P ops S (Behind T Q) (pick ops r) a' w') (fun a' w' h' => ?_) h))
      exact ⟨h'.1, wpHeld_head hs hsk hc hn hQ hlo r _ _ _ hB.2 (inv.set hr hB.1.1) h'.1 h'.2⟩
    · rw [if_neg hw] at h ⊢
      exact ⟨h.1, wpHeld_head hs hsk hc hn hQ hlo r _ _ _ hB.2 (inv.set hr hB.1.1) h.1 h.2⟩

theorem wp_held_tail {id : Nat} {os : List Oper} {a : Act} {w : World} (n : Nat) (ord : List (Bool × Nat)) (hm : P.follows .mixedOrders = true)
    (hB : (Region.noSelect os.toArray && decide (n < os.length) && Region.sinkB .any os.toArray n && Region.chainB .any os.toArray n && decide (ord.length = n) && orderT .any os.toArray (os.length - n) n ord (Array.replicate os.length false)) = true)
    (hS : S w.drew) (h : wpHeld P os.toArray S (Behind (wpList P os.toArray (NoP Q) (os.drop n)) (NoP Q)) (pick os.toArray ord) a w.drew) : (Code.region id os.toArray true).wp P Q a w := by
  simp only [Bool.and_eq_true, decide_eq_true_eq] at hB
  obtain ⟨⟨⟨⟨⟨hsel, hn⟩, hsk⟩, hc⟩, hlen⟩, hord⟩ := hB
  refine Code.wp_mono NoP.imp (wp_region_any (Q := NoP Q) hm ?_)
  have inv : HeadInv .any os.toArray n (Array.replicate os.length false) :=
    ⟨by simp, fun j p _ hl => (by rw [getD_replicate_false] at hl; cases hl), fun t _ ht => getD_in (by simpa using ht) (getD_replicate_false _ _)⟩
  have H := wpHeld_head (Q := NoP Q) hsel hsk hc (by simpa using hn) (fun _ _ _ _ _ h => h) (fun ⟨a, w, h⟩ => ⟨a, w, h⟩) ord _ a w.drew hord inv hS h
  have := HeadH.any (g := os.length - n) (fun d a' w' hL => by
    have hdl : (os.drop n).length = os.length - n := by simp
    have := wpAny_of_seq (md := .any) (Q' := NoP Q) (os.drop n) n d a' w' (fun j => by simp [List.getElem?_drop]) (by rw [hdl]; exact hL.1) hL.2
    rwa [hdl] at this) ord.length _ a w.drew H
  rw [hlen, show n + (os.length - n) = os.length by omega] at this
  simpa using this
variable {B : Nat} {w0 w : World} {L Ls : List Blk} {F : World → Prop} {a : Act}
theorem wm_held_tail {id : Nat} {os : List Oper} (n : Nat) (Ls : List Blk) (ord : List (Bool × Nat)) (K : St B w0 L F w) (hsub : Ls.Sublist L) (hm : P.follows .mixedOrders = true)
    (hB : (Region.noSelect os.toArray && decide (n < os.length) && Region.sinkB .any os.toArray n && Region.chainB .any os.toArray n && decide (ord.length = n) && orderT .any os.toArray (os.length - n) n ord (Array.replicate os.length false)) = true)
    (h : ∀ w', St B w0 L F w' → wpHeld P os.toArray (St B w0 Ls F) (Behind (wpList P os.toArray (NoP Q) (os.drop n)) (NoP Q)) (pick os.toArray ord) a w') : (Code.region id os.toArray true).wp P Q a w :=
  wp_held_tail (S := St B w0 Ls F) n ord hm hB (K.drew.sub hsub) (h _ K.drew)
theorem held_tail {T : Act → World → Prop} {S : World → Prop} (h : T a w) : wpHeld P ops S (Behind T Q) [] a w := h
theorem nop_normal {Q : Exit → Act → World → Prop} (h : Q .normal a w) : NoP Q .normal a w := h
theorem tail_nil {T : List Oper} {Q : Exit → Act → World → Prop} (h : Q .normal a w) : wpList P ops (NoP Q) [] a w := h
end
end Go.Proofs.Yteancdipmpmjpaa
