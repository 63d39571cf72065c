/-
  Lemmas and walks of this claim (the texts Rin Rng Rnx of the work; what no proof here uses is left out). No claim of their own.
-/
import Derived.Test.YtpejoaefnnbghaaPH11
import Derived.Test.YtpejoaefnnbghaaPH7
import Derived.RangeFuncNested
import Derived.RangeFuncBound
import Derived.RangeFuncCalls
import Derived.RangeFuncLeaves
import Derived.OwnWalkIn
import Derived.TacticsInMore
import Derived.LoopNIn
import Derived.LoopIn
set_option linter.all false
set_option linter.unusedSimpArgs false
set_option linter.unusedVariables false
namespace Go.Proofs.Ytpejoaefnnbghaa
open Go.RowKit
set_option linter.unusedVariables false
section
variable {P : Program} {ops : Array Oper} {o : Oper} {rest : List Oper} {a : Act} {w : World} {Q : Exit → Act → World → Prop} {K : Act → World → Prop} {l n : Nat}
def noDefer (ops : Array Oper) : Bool := ops.all fun o => match o.op with
  | .defer _ => false
  | _ => true
theorem noDefer_get {i : Nat} (h : noDefer ops = true) (ho : ops[i]? = some o) : ∀ c, o.op ≠ .defer c := by
  intro c hc
  obtain ⟨hi, he⟩ := Array.getElem?_eq_some_iff.1 ho
  have := (Array.all_eq_true.1 h) i hi
  rw [he, hc] at this
  cases this
theorem rows_in {row : String} {args : Array Value} {R : Value → World → Prop} (h : Rows P row args w R) : RowsIn (Fence.wide.inRound l) n P row args w R := by
  intro c cs _
  obtain ⟨v, w', h1, h2⟩ := h c cs
  exact ⟨v, w', h1, (StepsIn.of_steps h2).mono fun m _ => fenced_wide P m⟩
theorem oper_in (hnd : ∀ c, o.op ≠ .defer c) (h : o.wp P a w K Q) : o.wpIn (Fence.wide.inRound l) n P a w K Q := by
  refine ⟨fun _ _ => trivial, ?_⟩
  show o.uponIn _ n P a K Q ((o.semAt (some l) a.eval).run P w)
  rw [Oper.semAt_some l _ _ hnd]
  unfold Oper.wp at h
  generalize (execOp a.eval o).run P w = x at h ⊢
  rcases x with ⟨nx, w'⟩ | ⟨hl, w'⟩
  · cases nx <;> simp only [Oper.upon] at h <;> simp only [Oper.uponIn]
    · exact h
    · exact h
    · refine ⟨fun hd => (by simp [Fence.wide] at hd), CallsIn.inRound l (callsIn_wide.2 h)⟩
    · exact h
    · exact ⟨fun hd => (by simp [Fence.wide] at hd), rows_in h⟩
    all_goals exact h.elim
  · cases hl <;> simp only [Oper.upon] at h <;> simp only [Oper.uponIn] <;> first | exact h | exact h.elim
theorem rin_step (hnd : ∀ c, o.op ≠ .defer c) (h : wpList P ops (Qn (wpListIn (Fence.wide.inRound l) n P ops Q rest)) [o] a w) : wpListIn (Fence.wide.inRound l) n P ops Q (o :: rest) a w := by
  by_cases hg : Region.wanted o (yielded ops a.tmps) = true
  · unfold wpListIn
    rw [if_pos hg]
    exact oper_in hnd (wp_of_list hg h)
  · unfold wpList at h
    rw [if_neg hg] at h
    unfold wpListIn
    rw [if_neg hg]
    exact ⟨fun _ _ => trivial, h⟩
theorem qn_out (h : K a w) : Qn K .normal a w := h
theorem opsIn_of_ops (hnd : noDefer ops = true) (hQ : ∀ a w, ¬ Q .outgrown a w) : ∀ (is : List Nat) (a : Act) (w : World), wpOps P ops Q is a w → wpOpsIn (Fence.wide.inRound l) n P ops Q is a w
  | [], a, w, h => h
  | i :: is, a, w, h => by
    unfold wpOps at h
    unfold wpOpsIn
    cases ho : ops[i]? with
    | none =>
      rw [ho] at h
      exact opsIn_of_ops hnd hQ is a w h
    | some o =>
      rw [ho] at h
      dsimp only at h ⊢
      by_cases hg : Region.wanted o (yielded ops a.tmps) = true
      · rw [if_pos hg] at h ⊢
        rcases h with h | ⟨_, a0, w0, h⟩
        · exact oper_in (noDefer_get hnd ho) (Oper.wp_mono (fun a w h => opsIn_of_ops hnd hQ is a w h) h)
        · exact (hQ _ _ h).elim
      · rw [if_neg hg] at h ⊢
        exact ⟨fun _ _ => trivial, opsIn_of_ops hnd hQ is _ w h⟩
variable {B : Nat} {w0 w' : World} {L Ls : List Blk} {F G : World → Prop}
theorem anyH_in {id : Nat} {S : World → Prop} (hm : P.follows .mixedOrders = true) (hnd : noDefer ops = true) (hQ : ∀ a w, ¬ Q .outgrown a w)
    (h : wpAnyH P .any ops (NoP Q) S ops.size (Array.replicate ops.size false) a w.drew) : (Code.region id ops true).wpIn (Fence.wide.inRound l) n P Q a w := by
  refine wpIn_mono (wpIn_region_draw (Q := NoP Q) fun t => ?_) NoP.imp
  simp only [Region.schedule, hm, Bool.true_or, if_true]
  exact opsIn_of_ops (Q := NoP Q) hnd (fun a w h => hQ a w h) _ _ _ (wpAny_sound ops.size t _ a _ (wpAny_of_held _ _ _ _ h))
theorem wm_treeIn {id : Nat} {os : List Oper} (Ls : List Blk) (T : Tr) (K : St B w0 L F w) (hsub : Ls.Sublist L) (hm : P.follows .mixedOrders = true) (hB : (Region.noSelect os.toArray && treeB .any os.toArray true os.length T (Array.replicate os.length false)) = true)
    (hnd : noDefer os.toArray = true) (hQ : ∀ a w, ¬ Q .outgrown a w) (h : ∀ w', St B w0 L F w' → wpTree P os.toArray (St B w0 Ls F) (NoP Q) T a w') : (Code.region id os.toArray true).wpIn (Fence.wide.inRound l) n P Q a w := by
  simp only [Bool.and_eq_true] at hB
  refine anyH_in (S := St B w0 Ls F) hm hnd hQ ?_
  have := wpTree_any (P := P) (Q := NoP Q) (S := St B w0 Ls F) hB.1 (fun _ _ _ _ _ h => h) _ T _ a w.drew hB.2 (K.drew.sub hsub) (h _ K.drew)
  simpa using this
def Firm (F : World → Prop) : Prop := ∀ (w : World) (r : Nat) (o o' : Obj), w.heap[r]? = some o → o.isCells = false → F w → F (w.putObj r o')
theorem firm_any : Firm Any := fun _ _ _ _ _ _ _ => trivial
theorem Firm.and (h1 : Firm F) (h2 : Firm G) : Firm (fun w => F w ∧ G w) := fun w r o o' ho hc h => ⟨h1 w r o o' ho hc h.1, h2 w r o o' ho hc h.2⟩
theorem cell_put {r : Nat} {o o' : Obj} {p : Addr} {v : Value} (ho : w.heap[r]? = some o) (hc : o.isCells = false) (h : w.cell? p = some v) : (w.putObj r o').cell? p = some v := by
  by_cases hb : p.block = r
  · exfalso
    unfold World.cell? at h
    rw [hb, ho] at h
    cases o <;> first | (cases hc; done) | cases h
  · exact (World.cell?_of_block (w := w) (World.putObj_heap_other hb)).trans h
theorem firm_rd {A : Option Addr} {n : Nat} {xs : List Value} : Firm (fun w => Rd w A n xs) := fun w r o o' ho hc h =>
  ⟨h.1, fun hn => by
    obtain ⟨b, off, rfl, hb, h2⟩ := h.2 hn
    exact ⟨b, off, rfl, by simpa using hb, fun j u hu => cell_put ho hc (h2 j u hu)⟩⟩
theorem St.turned (K : St B w0 L F w) (hF : Firm F) {row : Option Nat} (hg : w.grownBy w' row) (hr : ∀ r, row = some r → B ≤ r ∧ ∃ o : Obj, w.heap[r]? = some o ∧ o.isCells = false) : St B w0 L F w' := by
  cases row with
  | none => exact K.step ⟨hg.os, hg.tape, hg.output, hg.size, fun k hk => hg.block k hk (by simp)⟩
  | some r =>
    obtain ⟨hB, o, ho, hc⟩ := hr r rfl
    have hid : ∀ p ∈ L, p.1 ≠ r := by
      rintro p hp rfl
      have := (K.has p hp).2
      unfold Has at this
      rw [this] at ho
      cases ho
      cases hc
    have hsame : ∀ b, b < w.heap.size → b ≠ r → w'.heap[b]? = w.heap[b]? := fun b hb hbr => hg.block b hb (fun e => by cases e; exact hbr rfl)
    refine ⟨K.below.grown hg K.size (fun k e => by cases e; exact hB), Nat.le_trans K.size hg.size, fun p hp => ⟨(K.has p hp).1, ?_⟩, K.nodup, fun w'' hs hk => ?_⟩
    · have h1 := (K.has p hp).2
      have h2 := h1.lt
      unfold Has at h1 ⊢
      rw [hsame _ h2 (hid p hp)]
      exact h1
    · have hrw : r < w.heap.size := (Array.getElem?_eq_some_iff.1 ho).1
      have hr2 : r < w''.heap.size := Nat.lt_of_lt_of_le hrw (Nat.le_trans hg.size hs)
      have h1 : F (w''.putObj r o) := K.keep _ (by simp; exact Nat.le_trans hg.size hs) fun b hb hm => by
        by_cases hbr : b = r
        · subst hbr
          rw [World.putObj_heap_same hr2, ho]
        · rw [World.putObj_heap_other hbr, hk b (Nat.lt_of_lt_of_le hb hg.size) hm, hsame b hb hbr]
      have h2 := hF _ r o (w''.heap[r]'hr2) (World.putObj_heap_same hr2) hc h1
      have e : (w''.putObj r o).putObj r (w''.heap[r]'hr2) = w'' := by
        unfold World.putObj
        dsimp only
        have : (w''.heap.setIfInBounds r o).setIfInBounds r (w''.heap[r]'hr2) = w''.heap := by
          apply Array.ext_getElem?
          intro i
          by_cases hi : i = r
          · subst hi
            rw [Array.getElem?_setIfInBounds_self_of_lt (by simpa using hr2), Array.getElem?_eq_getElem hr2]
          · rw [Array.getElem?_setIfInBounds_ne (Ne.symm hi), Array.getElem?_setIfInBounds_ne (Ne.symm hi)]
        rw [this]
      rw [e] at h2
      exact h2
end
end Go.Proofs.Ytpejoaefnnbghaa
namespace Go.Proofs.Ytpejoaefnnbghaa
open Go.RowKit
set_option linter.unusedVariables false
structure Stable (D : Nat) (I : World → Prop) : Prop where
  below : ∀ W W' : World, I W → Below W.heap.size W W' → I W'
  turn : ∀ (W : World) (r : Nat) (o o' : Obj), D ≤ r → W.heap[r]? = some o → o.isCells = false → I W → I (W.putObj r o')
section
variable {B D : Nat} {w0 w W W' : World} {L : List Blk} {F : World → Prop} {I J : World → Prop}
theorem stable_st (hD : B ≤ D) (hF : Firm F) : Stable D (St B w0 L F) :=
  ⟨fun W W' K h => K.step h, fun W r o o' hr ho hc K => K.turned hF (grownBy_putObj' W r o') (fun r' e => by cases e; exact ⟨Nat.le_trans hD hr, o, ho, hc⟩)⟩
theorem stable_pure {p : Prop} : Stable D (fun _ => p) := ⟨fun _ _ h _ => h, fun _ _ _ _ _ _ _ h => h⟩
theorem stable_false : Stable D (fun _ => False) := stable_pure
def LoopAt (D : Nat) (r : Loop) (W : World) : Prop := W.heap[D]? = some (.deferred (some [])) ∧ W.heap[D + 1]? = some (.loop r)
theorem LoopAt.below {r : Loop} (h : LoopAt D r W) (hb : Below W.heap.size W W') : LoopAt D r W' :=
  ⟨(hb.block _ (Array.getElem?_eq_some_iff.1 h.1).1).trans h.1, (hb.block _ (Array.getElem?_eq_some_iff.1 h.2).1).trans h.2⟩
theorem LoopAt.keeps {r : Loop} (h : LoopAt D r W) (hk : KeepsFrom D W W') : LoopAt D r W' :=
  ⟨hk.same _ _ (Nat.le_refl _) h.1 rfl, hk.same _ _ (by omega) h.2 rfl⟩
theorem LoopAt.put {r r' : Loop} (h : LoopAt D r W) : LoopAt D r' (W.putObj (D + 1) (.loop r')) :=
  ⟨(World.putObj_heap_other (by omega)).trans h.1, World.putObj_heap_same (Array.getElem?_eq_some_iff.1 h.2).1⟩
end
section
variable {α : Type} {m n : Nat} {P : Program}
def Gives (m : Nat) (P : Program) (gf : Nat) (lb : Array Value) (encs : α → Array Value) (xs : List α) (R : World → Prop) : Prop :=
  ∀ (l : Nat) (J : Nat → World → Prop) (Jx : World → Prop) (W : World),
    (∀ (k : Nat) (W W' : World), J k W → Below W.heap.size W W' → J k W') → (∀ W W' : World, Jx W → Below W.heap.size W W' → Jx W') → (∀ (k : Nat) (W : World), J k W → R W) →
    (∀ (k : Nat) (x : α) (W : World), xs[k]? = some x → J k W → YieldAt Fence.wide (m - 1) P l (encs x) W fun e W' => (e = .returned (.bool true) ∧ J (k + 1) W') ∨ (e = .returned (.bool false) ∧ Jx W')) →
    J 0 W → CallsIn Fence.wide m P gf (#[.func (.yield l) #[] #[]] ++ lb) W fun e W' => (∃ v, e = .returned v) ∧ (J xs.length W' ∨ Jx W')
def roundQ (D : Nat) (I : Nat → World → Prop) (Ix : Code → World → Prop) (k : Nat) (W : World) : Exit → Act → World → Prop
  | .normal, _, W' => KeepsFrom D W W' ∧ I (k + 1) W'
  | .ret, _, W' => KeepsFrom D W W' ∧ Ix .ret W'
  | .exit id, _, W' => KeepsFrom D W W' ∧ Ix (.exit id) W'
  | .goto t, _, W' => KeepsFrom D W W' ∧ Ix (.goto t) W'
  | _, _, _ => False
def loopRec (fn : FuncId) (a : Act) (ps : Array Tmp) (assign body : Code) (D : Nat) (st : LoopState) (pe : Option Code) : Loop :=
  { state := st, pending := pe, fn := fn, tmps := a.tmps, params := ps, assign := assign, body := body, defers := D }
variable {g : Operand} {ps : Array Tmp} {assign body : Code} {Q : Exit → Act → World → Prop} {a : Act} {w : World}
theorem wm_range (n : Nat) {gf : Nat} {lb : Array Value} (hg : a.eval g = .func (.func gf) #[] lb) (eg : ∀ args w, (callFunc gf args).run P w = .ok (.enter gf args) w)
    {encs : α → Array Value} {xs : List α} {R : World → Prop} (hseq : Gives (n - 1) P gf lb encs xs R) (hps : ∀ x, (encs x).size = ps.size)
    (I : Nat → World → Prop) (Ix : Code → World → Prop) (hI : ∀ k, Stable w.heap.size (I k)) (hIx : ∀ c, Stable w.heap.size (Ix c))
    (hR : ∀ k W, I k W → R W) (h0 : I 0 w)
    (hround : ∀ (l k : Nat) (x : α) (W : World) (K : Act → World → Prop), w.heap.size ≤ l → xs[k]? = some x → I k W →
      (∀ a1 W1, KeepsFrom w.heap.size W W1 → (∀ (W2 : World) (r : Nat) (o o' : Obj), w.heap.size ≤ r → W1.heap[r]? = some o → o.isCells = false → W2 = W1.putObj r o' → body.wpIn (Fence.wide.inRound l) (n - 1 - 1) P (roundQ w.heap.size I Ix k W2) a1 W2) → K a1 W1) →
      assign.wpIn (Fence.wide.inRound l) (n - 1 - 1) P (Exit.then K (fun _ _ _ => False)) { tmps := (ps.zip (encs x)).foldl (fun t (p, v) => t.setIfInBounds p v) a.tmps, defers := [] } W)
    (hdone : ∀ (D : Nat) (W : World), w.heap.size ≤ D → I xs.length W → W.heap[D]? = some (.deferred (some [])) → Q .normal { a with defers := { target := .collected D, args := #[] } :: a.defers } W)
    (hstop : ∀ (D : Nat) (c : Code) (W : World), w.heap.size ≤ D → Ix c W → W.heap[D]? = some (.deferred (some [])) → c.wp P Q { a with defers := { target := .collected D, args := #[] } :: a.defers } W) :
    (Code.rangeFunc g ps assign body).wp P Q a w := by
  refine (wpIn_wide (n := n)).1 (wpIn_rangeFunc fun fn hfn => ?_)
  obtain ⟨D, hD⟩ : ∃ D, w.heap.size = D := ⟨_, rfl⟩
  obtain ⟨rc, hrc⟩ : ∃ rc, loopRec fn a ps assign body D = rc := ⟨_, rfl⟩
  obtain ⟨W1, hW1⟩ : ∃ W1, (w.alloc (.deferred (some []))).alloc (.loop (rc .ready none)) = W1 := ⟨_, rfl⟩
  have hb1 : Below w.heap.size w W1 := by rw [← hW1]; exact ((Below.refl _ w).alloc (Nat.le_refl _) _).alloc (by simp) _
  have hL1 : LoopAt D (rc .ready none) W1 := by
    rw [← hW1, ← hD]
    refine ⟨(Below.heap_alloc _ _ _ (by simp)).trans (World.alloc_heap_new w _), ?_⟩
    have := World.alloc_heap_new (w.alloc (.deferred (some []))) (.loop (rc .ready none))
    rwa [World.size_alloc] at this
  rw [hD] at hI hIx hround hdone hstop
  refine ⟨D + 1, [{ target := .collected D, args := #[] }], W1, { target := .fn (.func gf) lb, args := #[.func (.yield (D + 1)) #[] #[]] }, W1, gf, #[.func (.yield (D + 1)) #[] #[]] ++ lb, W1, ?_, ?_, fun _ _ => trivial, ?_, fun h => by simp [Fence.wide] at h, ?_⟩
  · show (Instr.enterLoop fn a.tmps ps assign body none).run P w = _
    rw [run_enterLoop_outer, ← hW1, ← hrc, ← hD]
    rfl
  · simp only [resolve, hg]
    simp [go_sem]
  · simp [invoke, go_sem, eg]
  refine (hseq (D + 1) (fun k W => I k W ∧ LoopAt D (rc .ready none) W) (fun W => ∃ c, Ix c W ∧ LoopAt D (rc .done (some c)) W) W1
    (fun k W W' h hb => ⟨(hI k).below _ _ h.1 hb, h.2.below hb⟩) (fun W W' h hb => by obtain ⟨c, h1, h2⟩ := h; exact ⟨c, (hIx c).below _ _ h1 hb, h2.below hb⟩) (fun k W h => hR k W h.1) ?_ ⟨(hI 0).below _ _ h0 hb1, hL1⟩).mono ?_
  · rintro k x W hx ⟨hi, hl⟩
    have hy := run_yield (P := P) (args := encs x) hl.2 (by rw [← hrc]; exact hps x)
    rw [← hrc] at hy
    refine ⟨fn, _, assign, body, hy, roundIn_of_wpIn (F := Fence.wide) trivial (hround (D + 1) k x W _ (by omega) hx hi fun a1 W1 hk1 hbody => ?_)⟩
    have hl1 := hl.keeps hk1
    refine ⟨_, run_beginRound hl1.2 (by rw [← hrc]; rfl), ?_⟩
    have hl2 : LoopAt D { rc .ready none with state := .busy } (W1.putObj (D + 1) (.loop { rc .ready none with state := .busy })) := hl1.put
    refine wpIn_mono (hbody _ (D + 1) _ _ (by omega) hl1.2 rfl rfl) ?_
    have fin : ∀ (jump : Option Code) (W3 : World), LoopAt D { rc .ready none with state := .busy } W3 →
        (Instr.endRound (D + 1) jump).run P W3 = .ok (.bool jump.isNone) (W3.putObj (D + 1) (.loop (rc (if jump.isNone then .ready else .done) jump))) ∧
        LoopAt D (rc (if jump.isNone then .ready else .done) jump) (W3.putObj (D + 1) (.loop (rc (if jump.isNone then .ready else .done) jump))) := fun jump W3 h3 => by
      have := run_endRound (P := P) jump h3.2
      rw [← hrc] at this ⊢
      exact ⟨this, by rw [← hrc] at h3; exact h3.put⟩
    rintro e a3 W3 hp
    cases e with
    | normal =>
      obtain ⟨hk3, hi3⟩ := hp
      have h3 := hl2.keeps hk3
      obtain ⟨hr, hl4⟩ := fin none W3 h3
      exact ⟨_, _, hr, .inl ⟨rfl, (hI _).turn _ _ _ _ (by omega) h3.2 rfl hi3, hl4⟩⟩
    | ret =>
      obtain ⟨hk3, hi3⟩ := hp
      have h3 := hl2.keeps hk3
      obtain ⟨hr, hl4⟩ := fin (some .ret) W3 h3
      exact ⟨_, _, hr, .inr ⟨rfl, .ret, (hIx _).turn _ _ _ _ (by omega) h3.2 rfl hi3, hl4⟩⟩
    | exit id =>
      obtain ⟨hk3, hi3⟩ := hp
      have h3 := hl2.keeps hk3
      obtain ⟨hr, hl4⟩ := fin (some (.exit id)) W3 h3
      exact ⟨_, _, hr, .inr ⟨rfl, .exit id, (hIx _).turn _ _ _ _ (by omega) h3.2 rfl hi3, hl4⟩⟩
    | goto t =>
      obtain ⟨hk3, hi3⟩ := hp
      have h3 := hl2.keeps hk3
      obtain ⟨hr, hl4⟩ := fin (some (.goto t)) W3 h3
      exact ⟨_, _, hr, .inr ⟨rfl, .goto t, (hIx _).turn _ _ _ _ (by omega) h3.2 rfl hi3, hl4⟩⟩
    | panic ch => exact hp.elim
    | outgrown => exact hp.elim
  · rintro e W2 ⟨⟨v, rfl⟩, (⟨hi, hl⟩ | ⟨c, hi, hl⟩)⟩
    · have := run_endLoop (P := P) hl.2 (by rw [← hrc]; simp [loopRec])
      rw [← hrc] at this
      exact ⟨none, _, this, hdone D _ (Nat.le_refl _) ((hI _).turn _ _ _ _ (by omega) hl.2 rfl hi) ((World.putObj_heap_other (by omega)).trans hl.1)⟩
    · have := run_endLoop (P := P) hl.2 (by rw [← hrc]; simp [loopRec])
      rw [← hrc] at this
      exact ⟨some c, _, this, wpIn_wide.2 (hstop D c _ (Nat.le_refl _) ((hIx c).turn _ _ _ _ (by omega) hl.2 rfl hi) ((World.putObj_heap_other (by omega)).trans hl.1))⟩
/-! A function whose body holds such loops. -/
def Marks : List Deferred → World → (World → Prop) → Prop
  | [], w, K => K w
  | d :: ds, w, K => ∃ r, d.target = .collected r ∧ w.heap[r]? = some (.deferred (some [])) ∧ Marks ds (w.putObj r (.deferred none)) K
def postM (P : Program) (fn : Func) (R : Ending → World → Prop) : Exit → Act → World → Prop
  | .normal, a, w => Marks a.defers w fun w' => ∃ v, (results fn a.tmps).run P w' = .ok v w' ∧ R (.returned v) w'
  | .ret, a, w => Marks a.defers w fun w' => ∃ v, (results fn a.tmps).run P w' = .ok v w' ∧ R (.returned v) w'
  | _, _, _ => False
theorem leaves_marks {fn : Func} {tmps : Array Value} {R : Ending → World → Prop} : ∀ (ds : List Deferred) (w : World), Marks ds w (fun w' => ∃ v, (results fn tmps).run P w' = .ok v w' ∧ R (.returned v) w') → LeavesInM Fence.wide n P fn tmps R ds .returning w
  | [], w, h => h
  | d :: ds, w, h => by
    obtain ⟨r, h1, h2, h3⟩ := h
    exact ⟨by simp, .inl ⟨r, _, h1, run_takeDeferred h2, leaves_marks ds _ h3⟩⟩
theorem calls_of_wp_marks {f : FuncId} {fn : Func} {c : Code} {args : Array Value} {w : World} {R : Ending → World → Prop} (hf : P.funcs[f]? = some fn) (hb : fn.body = some c)
    (h : c.wp P (postM P fn R) { tmps := args ++ Array.replicate (fn.ntmps - args.size) undef, defers := [] } w) : Calls P f args w R := by
  refine callsIn_wide.1 (callsIn_of_wp_marks (n := 3) hf hb trivial (wpIn_mono (wpIn_wide.2 h) ?_))
  rintro e a w' hp
  cases e with
  | normal => exact leaves_marks _ _ hp
  | ret => exact leaves_marks _ _ hp
  | exit id => exact hp.elim
  | goto t => exact hp.elim
  | panic ch => exact hp.elim
  | outgrown => exact hp.elim
variable {B : Nat} {w0 : World} {L : List Blk} {F : World → Prop} {fn : Func} {R : Ending → World → Prop}
theorem retM1 {D : Nat} (K : St B w0 L F w) (hF : Firm F) (hd : a.defers = [{ target := .collected D, args := #[] }]) (hD : B ≤ D) (hk : w.heap[D]? = some (.deferred (some [])))
    (h : ∀ w' : World, St B w0 L F w' → ∃ v, (results fn a.tmps).run P w' = .ok v w' ∧ R (.returned v) w') : postM P fn R .ret a w := by
  show Marks a.defers w _
  rw [hd]
  exact ⟨D, rfl, hk, h _ ((stable_st (Nat.le_refl B) hF).turn _ _ _ _ hD hk rfl K)⟩
theorem St.keepsFrom (K : St B w0 L F w) (D : Nat) : St B w0 L (fun w' => KeepsFrom D w w' ∧ F w') w :=
  K.add fun w' hs hk => ⟨hs, fun i o hD hi hc => (hk i (Array.getElem?_eq_some_iff.1 hi).1 (fun hm => by
    obtain ⟨p, hp, e⟩ := List.mem_map.1 hm
    have := (K.has p hp).2
    unfold Has at this
    rw [e, hi] at this
    cases this
    cases hc)).trans hi⟩
theorem St.mark {D : Nat} (K : St B w0 L F w) (hk : w.heap[D]? = some (.deferred (some []))) : St B w0 L (fun w' => w'.heap[D]? = some (.deferred (some [])) ∧ F w') w :=
  K.add fun w' hs hb => (hb D (Array.getElem?_eq_some_iff.1 hk).1 (fun hm => by
    obtain ⟨p, hp, e⟩ := List.mem_map.1 hm
    have := (K.has p hp).2
    unfold Has at this
    rw [e, hk] at this
    cases this)).trans hk
theorem St.begun {D r : Nat} {W W2 : World} {o o' : Obj} (K : St B w0 L (fun w' => KeepsFrom D W w' ∧ F w') w) (hD : B ≤ D) (hF : Firm F) (hr : D ≤ r) (ho : w.heap[r]? = some o) (hc : o.isCells = false) (e : W2 = w.putObj r o') : St B w0 L (fun w' => KeepsFrom D W2 w' ∧ F w') W2 := by
  have K2 := (stable_st hD hF).turn _ _ _ o' hr ho hc (K.weak fun _ h => h.2)
  rw [← e] at K2
  exact K2.keepsFrom D
end
end Go.Proofs.Ytpejoaefnnbghaa
namespace Go.Proofs.Ytpejoaefnnbghaa
open Go.RowKit
set_option linter.unusedVariables false
section
variable {P : Program} {ops : Array Oper} {md : Region.Mode} {o : Oper} {a : Act} {w : World} {Q : Exit → Act → World → Prop} {K : Act → World → Prop} {n : Nat} {S : World → Prop}
theorem rows_wide {row : String} {args : Array Value} {R : Value → World → Prop} (h : Rows P row args w R) : RowsIn Fence.wide n P row args w R := by
  intro c cs _
  obtain ⟨v, w', h1, h2⟩ := h c cs
  exact ⟨v, w', h1, (StepsIn.of_steps h2).mono fun m _ => fenced_wide P m⟩
theorem oper_wide (h : o.wp P a w K Q) : o.wpIn Fence.wide n P a w K Q := by
  refine ⟨fun _ _ => trivial, ?_⟩
  show o.uponIn _ n P a K Q ((o.semAt none a.eval).run P w)
  rw [Oper.semAt_none]
  unfold Oper.wp at h
  generalize (execOp a.eval o).run P w = x at h ⊢
  rcases x with ⟨nx, w'⟩ | ⟨hl, w'⟩
  · cases nx <;> simp only [Oper.upon] at h <;> simp only [Oper.uponIn]
    · exact h
    · exact h
    · exact ⟨fun hd => (by simp [Fence.wide] at hd), callsIn_wide.2 h⟩
    · exact h
    · exact ⟨fun hd => (by simp [Fence.wide] at hd), rows_wide h⟩
    all_goals exact h.elim
  · cases hl <;> simp only [Oper.upon] at h <;> simp only [Oper.uponIn] <;> first | exact h | exact h.elim
theorem wpOp_wide (hQ : ¬ LetsOut Q) {i : Nat} (h : wpOp P ops Q i K a w) : wpOpIn Fence.wide n P ops Q i K a w := by
  unfold wpOp at h
  unfold wpOpIn
  split
  · rename_i e; rw [e] at h; exact h
  · rename_i o e
    rw [e] at h
    by_cases hw : Region.wanted o (yielded ops a.tmps) = true
    · simp only [hw, if_true] at h ⊢
      rcases h with h | h
      · exact oper_wide h
      · exact absurd h.2 hQ
    · simp only [hw, if_false, Bool.false_eq_true] at h ⊢
      exact ⟨fun _ _ => trivial, h⟩
theorem HeadH.anyW {m g : Nat} {L : Array Bool → Act → World → Prop} (hQ : ¬ LetsOut Q) (hL : ∀ d a w, L d a w → wpAnyIn Fence.wide n P md ops Q g d a w) (f : Nat) :
    ∀ (d : Array Bool) (a : Act) (w : World), HeadH P md ops Q S m L f d a w → wpAnyIn Fence.wide n P md ops Q (f + g) d a w := by
  induction f with
  | zero => intro d a w h; rw [Nat.zero_add]; exact hL d a w h
  | succ f ih =>
    intro d a w h
    rw [Nat.add_right_comm]
    exact ⟨fun h0 => absurd h0 h.1, fun i hi => wpOpIn_mono (fun a' w' h' => ih _ a' w' h'.2) (wpOp_wide hQ (h.2 i hi).2)⟩
theorem wpAnyIn_of_seq {F : Fence} : ∀ (l : List Oper) (k : Nat) (listed : Array Bool) (a : Act) (w : World), (∀ j, l[j]? = ops[k + j]?) →
    Region.seqB md ops l.length k listed = true → wpListIn F n P ops Q l a w → wpAnyIn F n P md ops Q l.length listed a w
  | [], _, _, _, _, _, hB, h => ⟨by simpa [Region.seqB] using hB, h⟩
  | o :: l, k, listed, a, w, hl, hB, h => by
    have h0 : ops[k]? = some o := by simpa using (hl 0).symm
    simp only [List.length_cons, Region.seqB, Bool.and_eq_true, decide_eq_true_eq] at hB
    refine ⟨fun h1 => (by rw [hB.1] at h1; cases h1), fun i hi => ?_⟩
    rw [hB.1] at hi
    have hik : i = k := by simpa using hi
    subst hik
    have hw : wpOpIn F n P ops Q i (wpListIn F n P ops Q l) a w := by unfold wpOpIn; simp only [h0]; exact h
    exact wpOpIn_mono (fun a' w' h' => wpAnyIn_of_seq l (i + 1) _ a' w' (fun j => by have := hl (j + 1); simpa [Nat.add_assoc, Nat.add_comm 1 j] using this) hB.2 h') hw
def NoPO (Q : Exit → Act → World → Prop) : Exit → Act → World → Prop
  | .panic _, _, _ => False
  | .outgrown, _, _ => False
  | e, a, w => Q e a w
theorem NoPO.imp {Q : Exit → Act → World → Prop} : ∀ (e : Exit) (a : Act) (w : World), NoPO Q e a w → Q e a w := fun e a w h => by
  cases e <;> first | exact h | exact (h : False).elim
theorem heldw_end {T : Act → World → Prop} (h : T a w) : wpHeld P ops S (Behind T Q) [] a w := h
theorem nopo_out (h : Q .normal a w) : NoPO Q .normal a w := h
theorem wm_head_wide {id : Nat} {os : List Oper} (m : Nat) (S : World → Prop) (ord : List (Bool × Nat)) (hm : P.follows .mixedOrders = true)
    (hB : (Region.noSelect os.toArray && decide (m < os.length) && Region.sinkB .any os.toArray m && Region.chainB .any os.toArray m && decide (ord.length = m) && orderT .any os.toArray (os.length - m) m ord (Array.replicate os.length false)) = true)
    (hS : S w.drew) (h : wpHeld P os.toArray S (Behind (wpListIn Fence.wide n P os.toArray (NoPO Q) (os.drop m)) (NoPO Q)) (pick os.toArray ord) a w.drew) : (Code.region id os.toArray true).wpIn Fence.wide n P Q a w := by
  simp only [Bool.and_eq_true, decide_eq_true_eq] at hB
  obtain ⟨⟨⟨⟨⟨hsel, hn⟩, hsk⟩, hc⟩, hlen⟩, hord⟩ := hB
  refine wpIn_mono (wpIn_region_any (Q := NoPO Q) hm ?_) NoPO.imp
  have inv : HeadInv .any os.toArray m (Array.replicate os.length false) :=
    ⟨by simp, fun j p _ hl => (by rw [getD_replicate_false] at hl; cases hl), fun t _ ht => getD_in (by simpa using ht) (getD_replicate_false _ _)⟩
  have H := wpHeld_head (Q := NoPO Q) hsel hsk hc (by simpa using hn) (fun _ _ _ _ _ h => h) (fun ⟨a, w, h⟩ => ⟨a, w, h⟩) ord _ a w.drew hord inv hS h
  have := HeadH.anyW (Q := NoPO Q) (n := n) (g := os.length - m) (fun ⟨a, w, h⟩ => h) (fun d a' w' hL => by
    have hdl : (os.drop m).length = os.length - m := by simp
    have := wpAnyIn_of_seq (F := Fence.wide) (n := n) (md := .any) (Q := NoPO Q) (os.drop m) m d a' w' (fun j => by simp [List.getElem?_drop]) (by rw [hdl]; exact hL.1) hL.2
    rwa [hdl] at this) ord.length _ a w.drew H
  rw [hlen, show m + (os.length - m) = os.length by omega] at this
  simpa using this
end
end Go.Proofs.Ytpejoaefnnbghaa
