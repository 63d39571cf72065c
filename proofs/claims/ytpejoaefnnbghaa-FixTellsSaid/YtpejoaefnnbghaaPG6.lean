/-
  Lemmas and walks of this claim (the texts Pa15 of the work; what no proof here uses is left out). No claim of their own.
-/
import Derived.Test.YtpejoaefnnbghaaPG5
import Derived.Test.YtpejoaefnnbghaaPG1
set_option linter.all false
set_option linter.unusedSimpArgs false
set_option linter.unusedVariables false
namespace Go.Proofs.Ytpejoaefnnbghaa
set_option linter.unusedVariables false
def lsum {α : Type} (f : α → Int) : List α → Int
  | [] => 0
  | x :: r => f x + lsum f r
section
variable {α : Type} {f g : α → Int} {l : List α}
theorem lsum_app (l m : List α) : lsum f (l ++ m) = lsum f l + lsum f m := by
  induction l with
  | nil => simp [lsum]
  | cons x r ih => rw [List.cons_append, lsum, lsum, ih]; omega
theorem lsum_snoc {k : Nat} {x : α} (h : l[k]? = some x) : lsum f (l.take (k + 1)) = lsum f (l.take k) + f x := by
  rw [List.take_add_one, h, lsum_app]; simp [lsum]
theorem lsum_filter {p : α → Bool} (h : ∀ x ∈ l, p x = false → f x = 0) : lsum f (l.filter p) = lsum f l := by
  induction l with
  | nil => rfl
  | cons x r ih =>
    have ih := ih fun y hy => h y (List.mem_cons_of_mem _ hy)
    cases e : p x
    · rw [List.filter_cons_of_neg (by rw [e]; decide), ih, lsum, h x List.mem_cons_self e]; omega
    · rw [List.filter_cons_of_pos e, lsum, lsum, ih]
theorem lsum_nonneg (h : ∀ x ∈ l, 0 ≤ f x) : 0 ≤ lsum f l := by
  induction l with
  | nil => simp [lsum]
  | cons x r ih =>
    have h1 := h x List.mem_cons_self
    have h2 := ih fun z hz => h z (List.mem_cons_of_mem _ hz)
    rw [lsum]; omega
theorem lsum_le (h : ∀ x ∈ l, f x ≤ g x) : lsum f l ≤ lsum g l := by
  induction l with
  | nil => simp [lsum]
  | cons x r ih =>
    have h1 := h x List.mem_cons_self
    have h2 := ih fun z hz => h z (List.mem_cons_of_mem _ hz)
    rw [lsum, lsum]; omega
theorem lsum_congr (h : ∀ x ∈ l, f x = g x) : lsum f l = lsum g l := by
  have h1 := lsum_le (l := l) fun x hx => Int.le_of_eq (h x hx)
  have h2 := lsum_le (l := l) fun x hx => Int.le_of_eq (h x hx).symm
  omega
theorem lsum_mul (c : Int) : lsum (fun x => c * f x) l = c * lsum f l := by
  induction l with
  | nil => simp [lsum]
  | cons x r ih => rw [lsum, lsum, ih, Int.mul_add]
theorem lsum_take_le (h : ∀ x ∈ l, 0 ≤ f x) (k : Nat) : 0 ≤ lsum f (l.take k) ∧ lsum f (l.take k) ≤ lsum f l := by
  have e := lsum_app (f := f) (l.take k) (l.drop k)
  rw [List.take_append_drop] at e
  have h1 := lsum_nonneg (f := f) (l := l.drop k) fun z hz => h z (List.mem_of_mem_drop hz)
  have h2 := lsum_nonneg (f := f) (l := l.take k) fun z hz => h z (List.mem_of_mem_take hz)
  omega
theorem sq_step (c : Int) (u v : α → Int) (hu : ∀ x ∈ l, 0 ≤ u x) : 0 ≤ lsum u l * (c * c) - 2 * c * lsum (fun x => u x * v x) l + lsum (fun x => u x * (v x * v x)) l := by
  have e : lsum (fun x => u x * ((c - v x) * (c - v x))) l = lsum u l * (c * c) - 2 * c * lsum (fun x => u x * v x) l + lsum (fun x => u x * (v x * v x)) l := by
    clear hu
    induction l with
    | nil => simp [lsum]
    | cons x r ih =>
      simp only [lsum]
      rw [ih]; grind
  rw [← e]
  refine lsum_nonneg fun x hx => Int.mul_nonneg (hu x hx) ?_
  rcases Int.le_total 0 (c - v x) with h | h
  · exact Int.mul_nonneg h h
  · have := Int.mul_nonneg (a := -(c - v x)) (b := -(c - v x)) (by omega) (by omega)
    grind
theorem cauchy (u v : α → Int) (hu : ∀ x ∈ l, 0 ≤ u x) : lsum (fun x => u x * v x) l * lsum (fun x => u x * v x) l ≤ lsum u l * lsum (fun x => u x * (v x * v x)) l := by
  induction l with
  | nil => simp [lsum]
  | cons x r ih =>
    have ih := ih fun y hy => hu y (List.mem_cons_of_mem _ hy)
    have h1 := sq_step (l := r) (v x) u v fun y hy => hu y (List.mem_cons_of_mem _ hy)
    have h2 := Int.mul_nonneg (hu x List.mem_cons_self) h1
    simp only [lsum]
    generalize lsum u r = a at *
    generalize lsum (fun x => u x * v x) r = b at *
    generalize lsum (fun x => u x * (v x * v x)) r = c at *
    generalize u x = p at *
    generalize v x = z at *
    have e : (p + a) * (p * (z * z) + c) - (p * z + b) * (p * z + b) = (a * c - b * b) + p * (a * (z * z) - 2 * z * b + c) := by grind
    omega
end
def num15 (A : List Int) : List (Nat × Int) := (List.range A.length).map fun i => (i, A.getD i 0)
theorem num15_len (A : List Int) : (num15 A).length = A.length := by simp [num15]
theorem num15_get {A : List Int} {k : Nat} (h : k < A.length) : (num15 A)[k]? = some (k, A.getD k 0) := by simp [num15, h]
theorem num15_mem {A : List Int} {x : Nat × Int} : x ∈ num15 A ↔ x.1 < A.length ∧ x.2 = A.getD x.1 0 := by
  unfold num15
  rw [List.mem_map]
  constructor
  · rintro ⟨i, hi, rfl⟩
    exact ⟨List.mem_range.1 hi, rfl⟩
  · rintro ⟨h, e⟩
    exact ⟨x.1, List.mem_range.2 h, by rw [← e]⟩
theorem num15_pos {A : List Int} (h : ∀ z ∈ A, 0 ≤ z) {x : Nat × Int} (hx : x ∈ num15 A) : 0 ≤ x.2 := by
  rw [num15_mem] at hx
  rw [hx.2]; exact h _ (getD_mem hx.1)
theorem isum_num (A : List Int) : ∀ k ≤ A.length, isum (A.take k) = lsum (fun x => x.2) ((num15 A).take k)
  | 0, _ => by simp [isum, lsum]
  | k + 1, h => by
    rw [isum_snoc A k (by omega), lsum_snoc (num15_get (show k < A.length by omega)), isum_num A k (by omega)]
theorem isum_num15 (A : List Int) : isum A = lsum (fun x => x.2) (num15 A) := by
  have := isum_num A A.length (Nat.le_refl _)
  rw [List.take_length] at this
  rw [this, ← num15_len A, List.take_length]
def pls (A : List Int) : List (Nat × Int) := (num15 A).filter fun x => decide (0 < x.2)
def cnt (A : List Int) (i : Nat) : Nat := (((num15 A).take i).filter fun x => decide (0 < x.2)).length
theorem cnt_zero (A : List Int) : cnt A 0 = 0 := by simp [cnt]
theorem cnt_end (A : List Int) : cnt A A.length = (pls A).length := by
  unfold cnt pls; rw [← num15_len A, List.take_length]
theorem cnt_step {A : List Int} {i : Nat} (h : i < A.length) : cnt A (i + 1) = cnt A i + if 0 < A.getD i 0 then 1 else 0 := by
  unfold cnt
  rw [List.take_add_one, num15_get h, List.filter_append, List.length_append]
  congr 1
  by_cases h0 : 0 < A.getD i 0
  · simp only [Option.toList_some, List.filter_cons, h0, decide_true, if_true, List.filter_nil, List.length_cons, List.length_nil]
  · simp only [Option.toList_some, List.filter_cons, h0, decide_false, if_false, Bool.false_eq_true, List.filter_nil, List.length_nil]
theorem pls_get {A : List Int} {i : Nat} (h : i < A.length) (h0 : 0 < A.getD i 0) : (pls A)[cnt A i]? = some (i, A.getD i 0) := by
  have e : pls A = ((num15 A).take i).filter (fun x => decide (0 < x.2)) ++ ((num15 A).drop i).filter (fun x => decide (0 < x.2)) := by
    unfold pls; rw [← List.filter_append, List.take_append_drop]
  have e2 : (num15 A).drop i = (i, A.getD i 0) :: (num15 A).drop (i + 1) := by
    have hl : i < (num15 A).length := by rw [num15_len]; exact h
    rw [List.drop_eq_getElem_cons hl]
    have := num15_get h
    rw [List.getElem?_eq_getElem hl] at this
    rw [Option.some.inj this]
  rw [e, e2, List.filter_cons_of_pos (by simpa using h0)]
  unfold cnt
  rw [List.getElem?_append_right (Nat.le_refl _), Nat.sub_self]; rfl
theorem pls_mem {A : List Int} {x : Nat × Int} (h : x ∈ pls A) : x ∈ num15 A ∧ 0 < x.2 := by
  unfold pls at h
  rw [List.mem_filter] at h
  exact ⟨h.1, by simpa using h.2⟩
theorem pls_sum {A : List Int} (h : ∀ z ∈ A, 0 ≤ z) {f : Nat × Int → Int} (hf : ∀ x : Nat × Int, x.2 = 0 → f x = 0) : lsum f (pls A) = lsum f (num15 A) := by
  refine lsum_filter fun x hx hp => hf x ?_
  have h1 := num15_pos h hx
  have h2 := of_decide_eq_false hp
  omega
def xv (w : Nat) (x : Nat × Int) : Int := ((x.1 % w : Nat) : Int)
def yv (w : Nat) (x : Nat × Int) : Int := ((x.1 / w : Nat) : Int)
def mo (w a b : Nat) (x : Nat × Int) : Int := x.2 * xv w x ^ a * yv w x ^ b
def sm (A : List Int) (w a b : Nat) : Int := lsum (mo w a b) (num15 A)
theorem mo_none (w a b : Nat) (x : Nat × Int) (h : x.2 = 0) : mo w a b x = 0 := by unfold mo; rw [h, Int.zero_mul, Int.zero_mul]
theorem mo10 (w : Nat) (x : Nat × Int) : mo w 1 0 x = x.2 * xv w x := by unfold mo; rw [Int.pow_zero, Int.mul_one, Int.pow_succ, Int.pow_zero, Int.one_mul]
theorem mo01 (w : Nat) (x : Nat × Int) : mo w 0 1 x = x.2 * yv w x := by unfold mo; rw [Int.pow_zero, Int.mul_one, Int.pow_succ, Int.pow_zero, Int.one_mul]
theorem mo11 (w : Nat) (x : Nat × Int) : mo w 1 1 x = x.2 * xv w x * yv w x := by unfold mo; rw [Int.pow_succ, Int.pow_zero, Int.one_mul, Int.pow_succ, Int.pow_zero, Int.one_mul]
theorem mo20 (w : Nat) (x : Nat × Int) : mo w 2 0 x = x.2 * xv w x * xv w x := by unfold mo; rw [Int.pow_zero, Int.mul_one, Int.pow_succ, Int.pow_succ, Int.pow_zero, Int.one_mul, Int.mul_assoc]
theorem mo02 (w : Nat) (x : Nat × Int) : mo w 0 2 x = x.2 * yv w x * yv w x := by unfold mo; rw [Int.pow_zero, Int.mul_one, Int.pow_succ, Int.pow_succ, Int.pow_zero, Int.one_mul, Int.mul_assoc]
structure Gr (w h : Nat) (A : List Int) : Prop where
  w0 : 1 ≤ w
  w1 : w ≤ 64
  h0 : 1 ≤ h
  h1 : h ≤ 64
  len : A.length = w * h
  nums : ∀ z ∈ A, 0 ≤ z ∧ z ≤ 1073741824
  top : isum A ≤ 1073741824
section
variable {w h : Nat} {A : List Int} (G : Gr w h A)
include G
theorem Gr.pos : ∀ z ∈ A, 0 ≤ z := fun z hz => (G.nums z hz).1
theorem Gr.n2 : A.length ≤ 4096 := by rw [G.len]; exact Nat.mul_le_mul G.w1 G.h1
theorem Gr.x1 (x : Nat × Int) : 0 ≤ xv w x ∧ xv w x ≤ w - 1 ∧ xv w x ≤ 63 := by
  have := Nat.mod_lt x.1 (show 0 < w from G.w0)
  have := G.w1
  unfold xv; omega
theorem Gr.y1 {x : Nat × Int} (hx : x ∈ num15 A) : 0 ≤ yv w x ∧ yv w x ≤ h - 1 ∧ yv w x ≤ 63 := by
  have hl := (num15_mem.1 hx).1
  rw [G.len] at hl
  have := (Nat.div_lt_iff_lt_mul (show 0 < w from G.w0)).2 (Nat.mul_comm w h ▸ hl)
  have := G.h1
  unfold yv
  generalize x.1 / w = q at *
  omega
theorem Gr.p1 {x : Nat × Int} (hx : x ∈ num15 A) : 0 ≤ x.2 := num15_pos G.pos hx
theorem Gr.s0 : 0 ≤ isum A := isum_nonneg G.pos
end
theorem lsum_part {l : List (Nat × Int)} {f : Nat × Int → Int} {c : Int} (h : ∀ x ∈ l, 0 ≤ f x ∧ f x ≤ c * x.2) : 0 ≤ lsum f l ∧ lsum f l ≤ c * lsum (fun x => x.2) l := by
  refine ⟨lsum_nonneg fun x hx => (h x hx).1, ?_⟩
  rw [← lsum_mul]
  exact lsum_le fun x hx => (h x hx).2
theorem mul_part {p z c : Int} (hp : 0 ≤ p) (h0 : 0 ≤ z) (h1 : z ≤ c) : 0 ≤ p * z ∧ p * z ≤ c * p :=
  ⟨Int.mul_nonneg hp h0, by rw [Int.mul_comm c p]; exact Int.mul_le_mul_of_nonneg_left h1 hp⟩
section
variable {w h : Nat} {A : List Int} (G : Gr w h A)
include G
theorem Gr.b10 {x : Nat × Int} (hx : x ∈ num15 A) : 0 ≤ mo w 1 0 x ∧ mo w 1 0 x ≤ (w - 1) * x.2 := by
  rw [mo10]; exact mul_part (G.p1 hx) (G.x1 x).1 (G.x1 x).2.1
theorem Gr.b01 {x : Nat × Int} (hx : x ∈ num15 A) : 0 ≤ mo w 0 1 x ∧ mo w 0 1 x ≤ (h - 1) * x.2 := by
  rw [mo01]; exact mul_part (G.p1 hx) (G.y1 hx).1 (G.y1 hx).2.1
theorem Gr.b2 {x : Nat × Int} {u v : Int} (hx : x ∈ num15 A) (hu : 0 ≤ u ∧ u ≤ 63) (hv : 0 ≤ v ∧ v ≤ 63) : 0 ≤ x.2 * u * v ∧ x.2 * u * v ≤ 3969 * x.2 := by
  have h1 := mul_part (G.p1 hx) hu.1 hu.2
  have h2 := mul_part h1.1 hv.1 hv.2
  refine ⟨h2.1, ?_⟩
  omega
theorem Gr.bd {a b : Nat} (hab : a + b ≤ 2) {x : Nat × Int} (hx : x ∈ num15 A) : 0 ≤ mo w a b x ∧ mo w a b x ≤ 3969 * x.2 := by
  have hp := G.p1 hx
  have hX := G.x1 x
  have hY := G.y1 hx
  have c : (a = 0 ∧ b = 0) ∨ (a = 1 ∧ b = 0) ∨ (a = 0 ∧ b = 1) ∨ (a = 2 ∧ b = 0) ∨ (a = 1 ∧ b = 1) ∨ (a = 0 ∧ b = 2) := by omega
  rcases c with ⟨rfl, rfl⟩ | ⟨rfl, rfl⟩ | ⟨rfl, rfl⟩ | ⟨rfl, rfl⟩ | ⟨rfl, rfl⟩ | ⟨rfl, rfl⟩
  · unfold mo; rw [Int.pow_zero, Int.pow_zero, Int.mul_one, Int.mul_one]; omega
  · rw [mo10]; have := mul_part hp hX.1 hX.2.2; omega
  · rw [mo01]; have := mul_part hp hY.1 hY.2.2; omega
  · rw [mo20]; exact G.b2 hx ⟨hX.1, hX.2.2⟩ ⟨hX.1, hX.2.2⟩
  · rw [mo11]; exact G.b2 hx ⟨hX.1, hX.2.2⟩ ⟨hY.1, hY.2.2⟩
  · rw [mo02]; exact G.b2 hx ⟨hY.1, hY.2.2⟩ ⟨hY.1, hY.2.2⟩
theorem Gr.sm_bd {a b : Nat} (hab : a + b ≤ 2) : 0 ≤ sm A w a b ∧ sm A w a b ≤ 3969 * isum A := by
  rw [isum_num15]; exact lsum_part fun x hx => G.bd hab hx
theorem Gr.sm_bd' {a b : Nat} (hab : a + b ≤ 2) : 0 ≤ sm A w a b ∧ sm A w a b ≤ 4261681299456 := by
  have h1 := G.sm_bd hab
  have h2 := G.top
  omega
theorem Gr.pls_all {a b : Nat} : lsum (mo w a b) (pls A) = sm A w a b := pls_sum G.pos (mo_none w a b)
theorem Gr.pls_isum : lsum (fun x => x.2) (pls A) = isum A := by rw [isum_num15]; exact pls_sum G.pos fun x h => h
theorem Gr.pls_take {a b : Nat} (hab : a + b ≤ 2) (k : Nat) : 0 ≤ lsum (mo w a b) ((pls A).take k) ∧ lsum (mo w a b) ((pls A).take k) ≤ 4261681299456 := by
  have h1 := lsum_take_le (l := pls A) (fun x hx => (G.bd hab (pls_mem hx).1).1) k
  have h2 := G.sm_bd' hab
  rw [G.pls_all] at h1
  omega
theorem Gr.pls_taks (k : Nat) : 0 ≤ lsum (fun x => x.2) ((pls A).take k) ∧ lsum (fun x => x.2) ((pls A).take k) ≤ 1073741824 := by
  have h1 := lsum_take_le (l := pls A) (f := fun x => x.2) (fun x hx => G.p1 (pls_mem hx).1) k
  rw [G.pls_isum] at h1
  have := G.top
  omega
theorem Gr.mean_x : 0 ≤ sm A w 1 0 ∧ sm A w 1 0 ≤ (w - 1) * isum A := by
  rw [isum_num15]; exact lsum_part fun x hx => G.b10 hx
theorem Gr.mean_y : 0 ≤ sm A w 0 1 ∧ sm A w 0 1 ≤ (h - 1) * isum A := by
  rw [isum_num15]; exact lsum_part fun x hx => G.b01 hx
theorem Gr.cau_x : sm A w 1 0 * sm A w 1 0 ≤ isum A * sm A w 2 0 := by
  rw [isum_num15]
  have := cauchy (l := num15 A) (fun x => x.2) (xv w) fun x hx => G.p1 hx
  unfold sm
  rw [lsum_congr (f := mo w 1 0) (fun x _ => mo10 w x), lsum_congr (f := mo w 2 0) (g := fun x => x.2 * (xv w x * xv w x)) (fun x _ => by rw [mo20, Int.mul_assoc])]
  exact this
theorem Gr.cau_y : sm A w 0 1 * sm A w 0 1 ≤ isum A * sm A w 0 2 := by
  rw [isum_num15]
  have := cauchy (l := num15 A) (fun x => x.2) (yv w) fun x hx => G.p1 hx
  unfold sm
  rw [lsum_congr (f := mo w 0 1) (fun x _ => mo01 w x), lsum_congr (f := mo w 0 2) (g := fun x => x.2 * (yv w x * yv w x)) (fun x _ => by rw [mo02, Int.mul_assoc])]
  exact this
end
def mean15 (X S s : Int) : Int := (2 * S * X + s) / (2 * s)
theorem mean_rq {X S s : Int} (h : 0 < s) : rq (X * S) s 2 = mean15 X S s := by
  rw [rq_near _ _ h]; unfold mean15; congr 1
  rw [Int.mul_comm X S, Int.mul_assoc]
theorem mean_in {X S s m : Int} (h : 0 < s) (x0 : 0 ≤ X) (x1 : X ≤ m * s) (S0 : 0 ≤ S) : 0 ≤ mean15 X S s ∧ mean15 X S s ≤ m * S := by
  unfold mean15
  have e0 := Int.mul_nonneg S0 x0
  have e1 := Int.mul_le_mul_of_nonneg_left x1 S0
  constructor
  · exact Int.ediv_nonneg (by rw [Int.mul_assoc]; omega) (by omega)
  · have h2 : 2 * S * X + s < (m * S + 1) * (2 * s) := by
      have e2 : S * (m * s) = m * S * s := by grind
      have e3 : (m * S + 1) * (2 * s) = 2 * (m * S * s) + 2 * s := by grind
      rw [e2] at e1
      rw [e3, Int.mul_assoc]
      omega
    have := Int.ediv_lt_of_lt_mul (show 0 < 2 * s by omega) h2
    omega
theorem mean_div {X S s m : Int} (h : 0 < s) (x0 : 0 ≤ X) (x1 : X ≤ m * s) (S0 : 0 ≤ S) (S1 : S ≤ 4096) (m0 : 0 ≤ m) (m1 : m ≤ 63) : (divM (X * S) s 2).1 = mean15 X S s := by
  have h1 := mean_in h x0 x1 S0
  have h2 := Int.mul_le_mul m1 S1 S0 (by omega)
  rw [divM_fit (by unfold badB; simp; omega) (by rw [mean_rq h, fits64_iff]; omega), mean_rq h]
def vary15 (n P a b : Int) : Int := (n * P - a * b) * 65536 / n / n
theorem vary_is {n P a b : Int} (h : 0 < n) : n * n * vary15 n P a b ≤ (n * P - a * b) * 65536 ∧ (n * P - a * b) * 65536 < n * n * vary15 n P a b + n * n := by
  unfold vary15
  generalize (n * P - a * b) * 65536 = d
  have h2 := Int.mul_pos h h
  rw [Int.ediv_ediv_of_nonneg (by omega)]
  have e1 := Int.mul_ediv_self_le (x := d) (k := n * n) (by omega)
  have e2 := Int.lt_mul_ediv_self_add (x := d) (k := n * n) h2
  exact ⟨e1, e2⟩
theorem vary_bd {n P a b : Int} (h : 0 < n) (n1 : n ≤ 1073741824) (P0 : 0 ≤ P) (P1 : P ≤ 3969 * n) (a0 : 0 ≤ a) (a1 : a ≤ 63 * n) (b0 : 0 ≤ b) (b1 : b ≤ 63 * n) :
    (-4575945451784575647744 ≤ n * P - a * b ∧ n * P - a * b ≤ 4575945451784575647744) ∧ -279293545641148416 ≤ (n * P - a * b) * 65536 / n ∧ (n * P - a * b) * 65536 / n ≤ 279293545641148416 := by
  have e1 := Int.mul_nonneg (Int.le_of_lt h) P0
  have e2 := Int.mul_le_mul_of_nonneg_left P1 (Int.le_of_lt h)
  have e3 := Int.mul_nonneg a0 b0
  have e4 := Int.mul_le_mul a1 b1 b0 (by omega)
  have e5 : n * (3969 * n) = 3969 * (n * n) := by grind
  have e6 : 63 * n * (63 * n) = 3969 * (n * n) := by grind
  have e7 := Int.mul_le_mul n1 n1 (by omega) (by decide)
  rw [e5] at e2; rw [e6] at e4
  have e8 := Int.mul_le_mul_of_nonneg_left n1 (Int.le_of_lt h)
  refine ⟨by omega, ?_, ?_⟩
  · refine Int.le_ediv_of_mul_le h ?_
    have : n * 1073741824 * 3969 * 65536 = 279293545641148416 * n := by grind
    omega
  · have : (n * P - a * b) * 65536 < (279293545641148416 + 1) * n := by
      have : n * 1073741824 * 3969 * 65536 = 279293545641148416 * n := by grind
      rw [Int.add_mul, Int.one_mul]
      omega
    have := Int.ediv_lt_of_lt_mul h this
    omega
theorem vary_pos {n P a : Int} (h : 0 < n) (hc : a * a ≤ n * P) : 0 ≤ vary15 n P a a := by
  unfold vary15
  exact Int.ediv_nonneg (Int.ediv_nonneg (by omega) (by omega)) (by omega)
end Go.Proofs.Ytpejoaefnnbghaa
