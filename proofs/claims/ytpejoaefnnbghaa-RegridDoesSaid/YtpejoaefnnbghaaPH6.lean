/-
  Lemmas and walks of this claim (the texts Pa15 Pb15 of the work; what no proof here uses is left out). No claim of their own.
-/
import Derived.Test.YtpejoaefnnbghaaPH5
import Derived.Test.YtpejoaefnnbghaaPH1
set_option linter.all false
set_option linter.unusedSimpArgs false
set_option linter.unusedVariables false
namespace Go.Proofs.Ytpejoaefnnbghaa
set_option linter.unusedVariables false
def lsum {α : Type} (f : α → Int) : List α → Int
  | [] => 0
  | x :: r => f x + lsum f r
section
variable {α : Type} {f g : α → Int} {l : List α}
theorem lsum_app (l m : List α) : lsum f (l ++ m) = lsum f l + lsum f m := by
  induction l with
  | nil => simp [lsum]
  | cons x r ih => rw [List.cons_append, lsum, lsum, ih]; omega
theorem lsum_snoc {k : Nat} {x : α} (h : l[k]? = some x) : lsum f (l.take (k + 1)) = lsum f (l.take k) + f x := by
  rw [List.take_add_one, h, lsum_app]; simp [lsum]
theorem lsum_filter {p : α → Bool} (h : ∀ x ∈ l, p x = false → f x = 0) : lsum f (l.filter p) = lsum f l := by
  induction l with
  | nil => rfl
  | cons x r ih =>
    have ih := ih fun y hy => h y (List.mem_cons_of_mem _ hy)
    cases e : p x
    · rw [List.filter_cons_of_neg (by rw [e]; decide), ih, lsum, h x List.mem_cons_self e]; omega
    · rw [List.filter_cons_of_pos e, lsum, lsum, ih]
theorem lsum_nonneg (h : ∀ x ∈ l, 0 ≤ f x) : 0 ≤ lsum f l := by
  induction l with
  | nil => simp [lsum]
  | cons x r ih =>
    have h1 := h x List.mem_cons_self
    have h2 := ih fun z hz => h z (List.mem_cons_of_mem _ hz)
    rw [lsum]; omega
theorem lsum_le (h : ∀ x ∈ l, f x ≤ g x) : lsum f l ≤ lsum g l := by
  induction l with
  | nil => simp [lsum]
  | cons x r ih =>
    have h1 := h x List.mem_cons_self
    have h2 := ih fun z hz => h z (List.mem_cons_of_mem _ hz)
    rw [lsum, lsum]; omega
theorem lsum_mul (c : Int) : lsum (fun x => c * f x) l = c * lsum f l := by
  induction l with
  | nil => simp [lsum]
  | cons x r ih => rw [lsum, lsum, ih, Int.mul_add]
theorem lsum_one : lsum (fun _ => 1) l = l.length := by
  induction l with
  | nil => rfl
  | cons x r ih => rw [lsum, ih, List.length_cons]; omega
theorem lsum_take_le (h : ∀ x ∈ l, 0 ≤ f x) (k : Nat) : 0 ≤ lsum f (l.take k) ∧ lsum f (l.take k) ≤ lsum f l := by
  have e := lsum_app (f := f) (l.take k) (l.drop k)
  rw [List.take_append_drop] at e
  have h1 := lsum_nonneg (f := f) (l := l.drop k) fun z hz => h z (List.mem_of_mem_drop hz)
  have h2 := lsum_nonneg (f := f) (l := l.take k) fun z hz => h z (List.mem_of_mem_take hz)
  omega
theorem sq_step (c : Int) (u v : α → Int) (hu : ∀ x ∈ l, 0 ≤ u x) : 0 ≤ lsum u l * (c * c) - 2 * c * lsum (fun x => u x * v x) l + lsum (fun x => u x * (v x * v x)) l := by
  have e : lsum (fun x => u x * ((c - v x) * (c - v x))) l = lsum u l * (c * c) - 2 * c * lsum (fun x => u x * v x) l + lsum (fun x => u x * (v x * v x)) l := by
    clear hu
    induction l with
    | nil => simp [lsum]
    | cons x r ih =>
      simp only [lsum]
      rw [ih]; grind
  rw [← e]
  refine lsum_nonneg fun x hx => Int.mul_nonneg (hu x hx) ?_
  rcases Int.le_total 0 (c - v x) with h | h
  · exact Int.mul_nonneg h h
  · have := Int.mul_nonneg (a := -(c - v x)) (b := -(c - v x)) (by omega) (by omega)
    grind
theorem cauchy (u v : α → Int) (hu : ∀ x ∈ l, 0 ≤ u x) : lsum (fun x => u x * v x) l * lsum (fun x => u x * v x) l ≤ lsum u l * lsum (fun x => u x * (v x * v x)) l := by
  induction l with
  | nil => simp [lsum]
  | cons x r ih =>
    have ih := ih fun y hy => hu y (List.mem_cons_of_mem _ hy)
    have h1 := sq_step (l := r) (v x) u v fun y hy => hu y (List.mem_cons_of_mem _ hy)
    have h2 := Int.mul_nonneg (hu x List.mem_cons_self) h1
    simp only [lsum]
    generalize lsum u r = a at *
    generalize lsum (fun x => u x * v x) r = b at *
    generalize lsum (fun x => u x * (v x * v x)) r = c at *
    generalize u x = p at *
    generalize v x = z at *
    have e : (p + a) * (p * (z * z) + c) - (p * z + b) * (p * z + b) = (a * c - b * b) + p * (a * (z * z) - 2 * z * b + c) := by grind
    omega
end
def num15 (A : List Int) : List (Nat × Int) := (List.range A.length).map fun i => (i, A.getD i 0)
theorem num15_len (A : List Int) : (num15 A).length = A.length := by simp [num15]
theorem num15_get {A : List Int} {k : Nat} (h : k < A.length) : (num15 A)[k]? = some (k, A.getD k 0) := by simp [num15, h]
theorem num15_mem {A : List Int} {x : Nat × Int} : x ∈ num15 A ↔ x.1 < A.length ∧ x.2 = A.getD x.1 0 := by
  unfold num15
  rw [List.mem_map]
  constructor
  · rintro ⟨i, hi, rfl⟩
    exact ⟨List.mem_range.1 hi, rfl⟩
  · rintro ⟨h, e⟩
    exact ⟨x.1, List.mem_range.2 h, by rw [← e]⟩
theorem num15_pos {A : List Int} (h : ∀ z ∈ A, 0 ≤ z) {x : Nat × Int} (hx : x ∈ num15 A) : 0 ≤ x.2 := by
  rw [num15_mem] at hx
  rw [hx.2]; exact h _ (getD_mem hx.1)
theorem isum_num (A : List Int) : ∀ k ≤ A.length, isum (A.take k) = lsum (fun x => x.2) ((num15 A).take k)
  | 0, _ => by simp [isum, lsum]
  | k + 1, h => by
    rw [isum_snoc A k (by omega), lsum_snoc (num15_get (show k < A.length by omega)), isum_num A k (by omega)]
theorem isum_num15 (A : List Int) : isum A = lsum (fun x => x.2) (num15 A) := by
  have := isum_num A A.length (Nat.le_refl _)
  rw [List.take_length] at this
  rw [this, ← num15_len A, List.take_length]
def pls (A : List Int) : List (Nat × Int) := (num15 A).filter fun x => decide (0 < x.2)
def cnt (A : List Int) (i : Nat) : Nat := (((num15 A).take i).filter fun x => decide (0 < x.2)).length
theorem cnt_zero (A : List Int) : cnt A 0 = 0 := by simp [cnt]
theorem cnt_end (A : List Int) : cnt A A.length = (pls A).length := by
  unfold cnt pls; rw [← num15_len A, List.take_length]
theorem cnt_step {A : List Int} {i : Nat} (h : i < A.length) : cnt A (i + 1) = cnt A i + if 0 < A.getD i 0 then 1 else 0 := by
  unfold cnt
  rw [List.take_add_one, num15_get h, List.filter_append, List.length_append]
  congr 1
  by_cases h0 : 0 < A.getD i 0
  · simp only [Option.toList_some, List.filter_cons, h0, decide_true, if_true, List.filter_nil, List.length_cons, List.length_nil]
  · simp only [Option.toList_some, List.filter_cons, h0, decide_false, if_false, Bool.false_eq_true, List.filter_nil, List.length_nil]
theorem pls_get {A : List Int} {i : Nat} (h : i < A.length) (h0 : 0 < A.getD i 0) : (pls A)[cnt A i]? = some (i, A.getD i 0) := by
  have e : pls A = ((num15 A).take i).filter (fun x => decide (0 < x.2)) ++ ((num15 A).drop i).filter (fun x => decide (0 < x.2)) := by
    unfold pls; rw [← List.filter_append, List.take_append_drop]
  have e2 : (num15 A).drop i = (i, A.getD i 0) :: (num15 A).drop (i + 1) := by
    have hl : i < (num15 A).length := by rw [num15_len]; exact h
    rw [List.drop_eq_getElem_cons hl]
    have := num15_get h
    rw [List.getElem?_eq_getElem hl] at this
    rw [Option.some.inj this]
  rw [e, e2, List.filter_cons_of_pos (by simpa using h0)]
  unfold cnt
  rw [List.getElem?_append_right (Nat.le_refl _), Nat.sub_self]; rfl
theorem pls_mem {A : List Int} {x : Nat × Int} (h : x ∈ pls A) : x ∈ num15 A ∧ 0 < x.2 := by
  unfold pls at h
  rw [List.mem_filter] at h
  exact ⟨h.1, by simpa using h.2⟩
theorem pls_sum {A : List Int} (h : ∀ z ∈ A, 0 ≤ z) {f : Nat × Int → Int} (hf : ∀ x : Nat × Int, x.2 = 0 → f x = 0) : lsum f (pls A) = lsum f (num15 A) := by
  refine lsum_filter fun x hx hp => hf x ?_
  have h1 := num15_pos h hx
  have h2 := of_decide_eq_false hp
  omega
def xv (w : Nat) (x : Nat × Int) : Int := ((x.1 % w : Nat) : Int)
def yv (w : Nat) (x : Nat × Int) : Int := ((x.1 / w : Nat) : Int)
structure Gr (w h : Nat) (A : List Int) : Prop where
  w0 : 1 ≤ w
  w1 : w ≤ 64
  h0 : 1 ≤ h
  h1 : h ≤ 64
  len : A.length = w * h
  nums : ∀ z ∈ A, 0 ≤ z ∧ z ≤ 1073741824
  top : isum A ≤ 1073741824
theorem Right14.gr {W H S : Int} {A : List Int} (h : Right14 W H S A) {w k : Nat} (hw : W = w) (hk : H = k) : Gr w k A := by
  subst hw; subst hk
  refine ⟨by have := h.w0; omega, by have := h.w1; omega, by have := h.h0; omega, by have := h.h1; omega, ?_, h.nums, h.top⟩
  have := h.len
  rw [← Int.natCast_mul] at this
  exact Int.ofNat.inj this
section
variable {w h : Nat} {A : List Int} (G : Gr w h A)
include G
theorem Gr.pos : ∀ z ∈ A, 0 ≤ z := fun z hz => (G.nums z hz).1
theorem Gr.n1 : 1 ≤ A.length := by rw [G.len]; exact Nat.mul_pos G.w0 G.h0
theorem Gr.n2 : A.length ≤ 4096 := by rw [G.len]; exact Nat.mul_le_mul G.w1 G.h1
theorem Gr.x1 (x : Nat × Int) : 0 ≤ xv w x ∧ xv w x ≤ w - 1 ∧ xv w x ≤ 63 := by
  have := Nat.mod_lt x.1 (show 0 < w from G.w0)
  have := G.w1
  unfold xv; omega
theorem Gr.y1 {x : Nat × Int} (hx : x ∈ num15 A) : 0 ≤ yv w x ∧ yv w x ≤ h - 1 ∧ yv w x ≤ 63 := by
  have hl := (num15_mem.1 hx).1
  rw [G.len] at hl
  have := (Nat.div_lt_iff_lt_mul (show 0 < w from G.w0)).2 (Nat.mul_comm w h ▸ hl)
  have := G.h1
  unfold yv
  generalize x.1 / w = q at *
  omega
theorem Gr.p1 {x : Nat × Int} (hx : x ∈ num15 A) : 0 ≤ x.2 := num15_pos G.pos hx
theorem Gr.s0 : 0 ≤ isum A := isum_nonneg G.pos
end
theorem lsum_part {l : List (Nat × Int)} {f : Nat × Int → Int} {c : Int} (h : ∀ x ∈ l, 0 ≤ f x ∧ f x ≤ c * x.2) : 0 ≤ lsum f l ∧ lsum f l ≤ c * lsum (fun x => x.2) l := by
  refine ⟨lsum_nonneg fun x hx => (h x hx).1, ?_⟩
  rw [← lsum_mul]
  exact lsum_le fun x hx => (h x hx).2
section
variable {w h : Nat} {A : List Int} (G : Gr w h A)
include G
end
end Go.Proofs.Ytpejoaefnnbghaa
namespace Go.Proofs.Ytpejoaefnnbghaa
set_option linter.unusedVariables false
def most (A : List Int) (b : Int) : Int := if b < 0 then 0 else A.getD b.toNat 0
def pk (ok : Nat → Bool) (A : List Int) : Nat → Int
  | 0 => -1
  | k + 1 => if ok k = true ∧ most A (pk ok A k) < A.getD k 0 then k else pk ok A k
section
variable {ok : Nat → Bool} {A : List Int}
theorem most_none : most A (-1) = 0 := rfl
theorem most_at (k : Nat) : most A k = A.getD k 0 := by unfold most; rw [if_neg (by omega)]; rfl
theorem pk_in : ∀ k, pk ok A k = -1 ∨ ∃ j : Nat, j < k ∧ pk ok A k = j ∧ 0 < A.getD j 0 ∧ ok j = true
  | 0 => .inl rfl
  | k + 1 => by
    rw [pk]
    have ih := pk_in k
    by_cases h : ok k = true ∧ most A (pk ok A k) < A.getD k 0
    · rw [if_pos h]
      refine .inr ⟨k, by omega, rfl, ?_, h.1⟩
      have h2 := h.2
      rcases ih with e | ⟨j, hj, e, hp, -⟩
      · rw [e, most_none] at h2; exact h2
      · rw [e, most_at] at h2; omega
    · rw [if_neg h]
      rcases ih with e | ⟨j, hj, e, hp⟩
      · exact .inl e
      · exact .inr ⟨j, by omega, e, hp⟩
theorem pk_low (k : Nat) : -1 ≤ pk ok A k ∧ pk ok A k < k := by
  rcases pk_in (ok := ok) (A := A) k with e | ⟨j, hj, e, -⟩
  · rw [e]; omega
  · rw [e]; omega
theorem pk_yes {k : Nat} (h : ok k = true) (h2 : most A (pk ok A k) < A.getD k 0) : pk ok A (k + 1) = k ∧ most A (pk ok A (k + 1)) = A.getD k 0 := by
  have e : pk ok A (k + 1) = k := by rw [pk, if_pos ⟨h, h2⟩]
  exact ⟨e, by rw [e, most_at]⟩
theorem pk_no {k : Nat} (h : ok k = true → ¬most A (pk ok A k) < A.getD k 0) : pk ok A (k + 1) = pk ok A k := by
  rw [pk, if_neg fun h2 => h h2.1 h2.2]
end
def onE (w h : Nat) (x : Nat × Int) : Bool := decide (xv w x = 0) || (decide (yv w x = 0) || (decide (xv w x = (w : Int) - 1) || decide (yv w x = (h : Int) - 1)))
def edS (w h : Nat) (x : Nat × Int) : Int := if onE w h x = true then x.2 else 0
def edge15 (A : List Int) (w h : Nat) : Int := lsum (edS w h) (num15 A)
theorem edS_part {w h : Nat} {x : Nat × Int} (hx : 0 ≤ x.2) : 0 ≤ edS w h x ∧ edS w h x ≤ 1 * x.2 := by
  unfold edS
  split <;> omega
def sq (x : Nat × Int) : Int := x.2 * x.2
def squares (A : List Int) : Int := lsum sq (num15 A)
theorem sq_sum : ∀ {l : List (Nat × Int)}, (∀ x ∈ l, 0 ≤ x.2) → lsum sq l ≤ lsum (fun x => x.2) l * lsum (fun x => x.2) l
  | [], _ => by simp [lsum]
  | x :: r, h => by
    have ih := sq_sum (l := r) fun y hy => h y (List.mem_cons_of_mem _ hy)
    have hx := h x List.mem_cons_self
    have hs := lsum_nonneg (l := r) (f := fun x => x.2) fun y hy => h y (List.mem_cons_of_mem _ hy)
    have hm := Int.mul_nonneg hx hs
    simp only [lsum]
    generalize lsum (fun x : Nat × Int => x.2) r = s at *
    generalize lsum sq r = q at *
    unfold sq
    generalize x.2 = p at *
    have e : (p + s) * (p + s) = p * p + s * s + 2 * (p * s) := by grind
    omega
theorem sq_pos {l : List (Nat × Int)} : ∀ x ∈ l, 0 ≤ sq x := fun x _ => by
  unfold sq
  rcases Int.le_total 0 x.2 with h | h
  · exact Int.mul_nonneg h h
  · have := Int.mul_nonneg (a := -x.2) (b := -x.2) (by omega) (by omega)
    grind
def even15 (A : List Int) : Int := isum A * isum A / squares A
section
variable {w h : Nat} {A : List Int} (G : Gr w h A)
include G
theorem Gr.ed_pls : lsum (edS w h) (pls A) = edge15 A w h := pls_sum G.pos fun x hx => by unfold edS; rw [hx]; split <;> rfl
theorem Gr.ed_takeP (k : Nat) : 0 ≤ lsum (edS w h) ((pls A).take k) ∧ lsum (edS w h) ((pls A).take k) ≤ 1073741824 := by
  have h1 := lsum_take_le (l := pls A) (f := edS w h) (fun x hx => (edS_part (G.p1 (pls_mem hx).1)).1) k
  have h2 := lsum_part (l := num15 A) (f := edS w h) (c := 1) fun x hx => edS_part (G.p1 hx)
  rw [← isum_num15] at h2
  rw [G.ed_pls] at h1
  unfold edge15 at h1
  have := G.top
  omega
theorem Gr.sq_pls : lsum sq (pls A) = squares A := pls_sum G.pos fun x hx => by unfold sq; rw [hx]; rfl
theorem Gr.sq_le : squares A ≤ isum A * isum A := by
  rw [isum_num15]
  exact sq_sum fun x hx => G.p1 hx
theorem Gr.sq_bd : 0 ≤ squares A ∧ squares A ≤ 1152921504606846976 := by
  have h1 := G.sq_le
  have h2 := Int.mul_le_mul G.top G.top G.s0 (by decide)
  exact ⟨lsum_nonneg sq_pos, by omega⟩
theorem Gr.sq_takeP (k : Nat) : 0 ≤ lsum sq ((pls A).take k) ∧ lsum sq ((pls A).take k) ≤ 1152921504606846976 := by
  have h1 := lsum_take_le (l := pls A) (f := sq) sq_pos k
  have h2 := G.sq_bd
  rw [G.sq_pls] at h1
  omega
omit G in
theorem Gr.sum_le : isum A * isum A ≤ (A.length : Int) * squares A := by
  have := cauchy (l := num15 A) (fun _ => 1) (fun x => x.2) fun x hx => by decide
  rw [lsum_one, num15_len] at this
  simp only [Int.one_mul] at this
  rw [isum_num15]
  exact this
theorem Gr.sq_pos' (hs : 0 < isum A) : 0 < squares A := by
  have h1 := sum_le (A := A)
  have h2 := Int.mul_pos hs hs
  have h3 := G.sq_bd
  rcases Int.lt_or_le 0 (squares A) with h | h
  · exact h
  · have e : squares A = 0 := by omega
    rw [e, Int.mul_zero] at h1
    omega
theorem Gr.even_in (hs : 0 < isum A) : 1 ≤ even15 A ∧ even15 A ≤ A.length := by
  have hq := G.sq_pos' hs
  unfold even15
  constructor
  · rw [Int.le_ediv_iff_mul_le hq]
    have := G.sq_le
    omega
  · have := Int.ediv_le_ediv hq (sum_le (A := A))
    rwa [Int.mul_ediv_cancel _ (by omega)] at this
theorem Gr.even_iff (hs : 0 < isum A) (m : Int) : squares A * m ≤ isum A * isum A ↔ m ≤ even15 A := by
  unfold even15
  rw [Int.le_ediv_iff_mul_le (G.sq_pos' hs), Int.mul_comm]
end
end Go.Proofs.Ytpejoaefnnbghaa
