/-
  Lemmas and walks of this claim (the texts Sl Row Pa14 Pb14 Pd14 Pe14 Pf14 Pg14 Pj14 of the work; what no proof here uses is left out). No claim of their own.
-/
import Derived.Test.YtpejoaefnnbghaaPH3
import Derived.Laws.MakeOwn
import Derived.Laws.OwnMore
import Derived.OwnWalk
set_option linter.all false
set_option linter.unusedSimpArgs false
set_option linter.unusedVariables false
namespace Go.Proofs.Ytpejoaefnnbghaa
open Go.RowKit
set_option linter.unusedVariables false

def Rd (w : World) (A : Option Addr) (n : Nat) (cs : List Value) : Prop :=
  cs.length = n ∧ (0 < n → ∃ b off, A = some ⟨b, off, none⟩ ∧ b < w.heap.size ∧ ∀ j u, cs[j]? = some u → w.cell? ⟨b, off + j, none⟩ = some u)
def Sl (w : World) (e : TypeId) (A : Option Addr) (n : Nat) (cs : List Value) : Prop :=
  cs.length = n ∧ (0 < n → ∃ b off arr, A = some ⟨b, off, none⟩ ∧ w.heap[b]? = some (.cells arr e (0, 0)) ∧ ∀ j u, cs[j]? = some u → arr[off + j]? = some u)
def Nw (B : Nat) (A : Option Addr) : Prop := ∀ b off p, A = some ⟨b, off, p⟩ → B ≤ b
theorem Nw.mk (B b off : Nat) (h : B ≤ b) : Nw B (some ⟨b, off, none⟩) := by
  intro b' off' p e
  injection e with e
  injection e with e
  omega
theorem Nw.mono {B B' : Nat} {A : Option Addr} (h : Nw B A) (hb : B' ≤ B) : Nw B' A := fun b off p e => Nat.le_trans hb (h b off p e)

section
variable {w w' : World} {e : TypeId} {A : Option Addr} {n : Nat} {cs : List Value}
theorem Rd.nil (w : World) (A : Option Addr) : Rd w A 0 [] := ⟨rfl, fun h => absurd h (by omega)⟩
theorem Rd.keep (h : Rd w A n cs) (hs : w.heap.size ≤ w'.heap.size) (hk : ∀ p : Addr, p.block < w.heap.size → w'.cell? p = w.cell? p) : Rd w' A n cs :=
  ⟨h.1, fun hn => by
    obtain ⟨b, off, e, hb, hc⟩ := h.2 hn
    exact ⟨b, off, e, by omega, fun j u hu => (hk _ hb).trans (hc j u hu)⟩⟩
theorem Rd.below (h : Rd w A n cs) (hb : Below w.heap.size w w') : Rd w' A n cs := h.keep hb.size fun _ hp => hb.cell hp
theorem Rd.get (h : Rd w A n cs) {k : Nat} (hk : k < n) : ∃ b off, A = some ⟨b, off, none⟩ ∧ b < w.heap.size ∧ ∀ j u, cs[j]? = some u → w.cell? ⟨b, off + j, none⟩ = some u := h.2 (by omega)
theorem Sl.rd (h : Sl w e A n cs) : Rd w A n cs :=
  ⟨h.1, fun hn => by
    obtain ⟨b, off, arr, rfl, hb, hc⟩ := h.2 hn
    exact ⟨b, off, rfl, (Array.getElem?_eq_some_iff.1 hb).1, fun j u hu => by rw [cell_of_row _ _ _ _ _ _ hb]; exact hc j u hu⟩⟩
theorem Sl.of_has {b : Nat} {arr : Array Value} {t : TypeId} (h : Has w b arr t) : Sl w t (some ⟨b, 0, none⟩) arr.size arr.toList :=
  ⟨by simp, fun _ => ⟨b, 0, arr, rfl, h, fun j u hu => by simpa using hu⟩⟩
end

def nums (k : IntKind) (l : List Nat) : List Value := l.map fun (x : Nat) => .int k x
theorem nums_made (k : IntKind) (n : Nat) : madeCells #[.int k 0] (n * 1) = (nums k (List.replicate n 0)).toArray := by
  apply Array.ext'
  rw [toList_madeCells_one]
  simp [nums]

section
variable {P : Program} {w : World} {ops : Array Oper} {rest : List Oper} {o : Oper} {a : Act} {Q : Exit → Act → World → Prop}
theorem wl_make (hgd : Region.wanted o (yielded ops a.tmps) = true) (l c : Operand) (t : TypeId) (ho : o.op = .makeSlice t l c) (e : TypeId) (ht : P.underlying t = some (.slice e)) {k : IntKind} {bs : Nat}
    (hi : (P.info? e).map (fun i => (i.zero, i.size, i.bytes)) = some (some (.int k 0), 1, bs)) (n : Nat) {kl kc : IntKind} {L C : Int} (hl : a.eval l = .int kl L) (hc : a.eval c = .int kc C) (hL : L = (n : Int)) (hC : C = (n : Int)) (hb : bs * n ≤ 281474976710656) (hn : n ≤ 4611686018427387904)
    (h : wpList P ops Q rest (a.put o.dst (.slice (some ⟨w.heap.size, 0, none⟩) n n)) (w.alloc (.cells (nums k (List.replicate n 0)).toArray e))) : wpList P ops Q (o :: rest) a w :=
  wl_wanted hgd fun K hK => by
    obtain ⟨i, hi1, hz, hs, hbs⟩ := info_parts hi
    subst hL hC
    have hb' : (i.bytes : Int) * (n : Int) ≤ 281474976710656 := by
      rw [hbs, ← Int.natCast_mul]; omega
    have hr := run_make (P := P) w t e i (.int k 0) ht hi1 hz kl kc n n (by omega) (Int.le_refl _) hb' (by omega)
    simp only [Int.toNat_natCast, hs] at hr
    rw [show (Value.int k 0).cells = #[.int k 0] from rfl, nums_made] at hr
    unfold Oper.wp
    simp [execOp, ho, hl, hc, hr, Result.andThen]
    exact hK _ _ h
end

end Go.Proofs.Ytpejoaefnnbghaa
namespace Go.Proofs.Ytpejoaefnnbghaa
open Go.RowKit
set_option linter.unusedVariables false
def IsRow (k : IntKind) (w : World) (a : Option Addr) (len cap : Nat) (zs : List Int) : Prop :=
  (a = none ∧ len = 0 ∧ cap = 0 ∧ zs = []) ∨
  ∃ x, a = some x ∧ len ≤ cap ∧ cap ≤ maxLen ∧ zs.length = cap ∧ (∀ i, i < zs.length → w.cell? (x.add i) = some (.int k (zs.getD i 0))) ∧ ∀ n ∈ zs, (Lit.int k n).wf = true

theorem cell_some {w : World} {x : Addr} {v : Value} (h : w.cell? x = some v) : x.spot = none ∧ x.block < w.heap.size := by
  unfold World.cell? at h
  split at h
  · rename_i c e f hb
    split at h
    · cases h
    · rename_i hs
      exact ⟨by simpa using hs, (Array.getElem?_eq_some_iff.1 hb).1⟩
  · cases h
def ints (k : IntKind) (l : List Int) : List Value := l.map (.int k)
theorem ints_len (k : IntKind) (l : List Int) : (ints k l).length = l.length := by simp [ints]
theorem ints_app (k : IntKind) (l m : List Int) : ints k (l ++ m) = ints k l ++ ints k m := by simp [ints]
theorem ints_get (k : IntKind) (l : List Int) (i : Nat) (h : i < l.length) : (ints k l)[i]? = some (.int k (l.getD i 0)) := by
  simp [ints, List.getD, h]
theorem take_snoc (l : List Int) (i : Nat) (h : i < l.length) : l.take (i + 1) = l.take i ++ [l.getD i 0] := by
  rw [List.take_succ_eq_append_getElem h, List.getD, List.getElem?_eq_getElem h]; rfl
theorem IsRow.rdI {k : IntKind} {w : World} {a : Option Addr} {len cap : Nat} {zs : List Int} (h : IsRow k w a len cap zs) :
    ∃ l : List Int, (∀ x ∈ l, (Lit.int k x).wf = true) ∧ Rd w a len (ints k l) ∧ l.length = len := by
  rcases h with ⟨rfl, rfl, rfl, rfl⟩ | ⟨x, rfl, hl, hm, hz, hc, hwf⟩
  · exact ⟨[], by simp, Rd.nil _ _, rfl⟩
  · refine ⟨zs.take len, fun y hy => hwf y (List.mem_of_mem_take hy), ⟨?_, fun h0 => ?_⟩, ?_⟩
    · rw [ints_len, List.length_take]; omega
    · have h1 := hc 0 (by omega)
      obtain ⟨hs, hb⟩ := cell_some h1
      rcases x with ⟨b, off, sp⟩
      simp only [Addr.add] at hs hb
      subst hs
      refine ⟨b, off, rfl, hb, fun j u hj => ?_⟩
      have hj' : j < len := by
        have := (List.getElem?_eq_some_iff.1 hj).1
        rw [ints_len, List.length_take] at this
        omega
      have h2 := hc j (by omega)
      rw [Addr.add_mid] at h2
      rw [h2]
      have e := ints_get k (zs.take len) j (by rw [List.length_take]; omega)
      rw [hj] at e
      injection e with e
      rw [e, List.getD, List.getD, List.getElem?_take, if_pos hj']
    · rw [List.length_take]; omega
end Go.Proofs.Ytpejoaefnnbghaa
namespace Go.Proofs.Ytpejoaefnnbghaa
set_option linter.unusedVariables false
def isum : List Int → Int
  | [] => 0
  | x :: r => x + isum r
theorem isum_app (l m : List Int) : isum (l ++ m) = isum l + isum m := by
  induction l with
  | nil => simp [isum]
  | cons x r ih => rw [List.cons_append, isum, isum, ih]; omega
theorem isum_snoc (l : List Int) (i : Nat) (h : i < l.length) : isum (l.take (i + 1)) = isum (l.take i) + l.getD i 0 := by
  rw [take_snoc l i h, isum_app]; simp [isum]
theorem isum_bd {M : Int} {l : List Int} (hM : 0 ≤ M) (h : ∀ z ∈ l, -M ≤ z ∧ z ≤ M) : -(M * l.length) ≤ isum l ∧ isum l ≤ M * l.length := by
  induction l with
  | nil => simp [isum]
  | cons x r ih =>
    have h1 := h x List.mem_cons_self
    have h2 := ih fun z hz => h z (List.mem_cons_of_mem _ hz)
    rw [isum, List.length_cons]
    have e : M * ((r.length + 1 : Nat) : Int) = M * r.length + M := by rw [Int.natCast_add, Int.mul_add]; simp
    omega
theorem isum_nonneg {l : List Int} (h : ∀ z ∈ l, 0 ≤ z) : 0 ≤ isum l := by
  induction l with
  | nil => simp [isum]
  | cons x r ih =>
    have h1 := h x List.mem_cons_self
    have h2 := ih fun z hz => h z (List.mem_cons_of_mem _ hz)
    rw [isum]; omega
theorem isum_take_bd {M : Int} {l : List Int} {n : Nat} (hM : 0 ≤ M) (h : ∀ z ∈ l, -M ≤ z ∧ z ≤ M) (hl : l.length ≤ n) (k : Nat) : -(M * n) ≤ isum (l.take k) ∧ isum (l.take k) ≤ M * n := by
  have h1 := isum_bd (l := l.take k) hM fun z hz => h z (List.mem_of_mem_take hz)
  have h2 : M * ((l.take k).length : Int) ≤ M * n := Int.mul_le_mul_of_nonneg_left (by rw [List.length_take]; omega) hM
  omega
theorem isum_mem {l : List Int} (h : ∀ z ∈ l, 0 ≤ z) {z : Int} (hz : z ∈ l) : z ≤ isum l := by
  induction l with
  | nil => cases hz
  | cons x r ih =>
    have h1 := h x List.mem_cons_self
    have h2 := isum_nonneg (l := r) fun z hz => h z (List.mem_cons_of_mem _ hz)
    rw [isum]
    rcases List.mem_cons.1 hz with rfl | hz
    · omega
    · have := ih (fun z hz => h z (List.mem_cons_of_mem _ hz)) hz; omega
theorem getD_mem {l : List Int} {i : Nat} (h : i < l.length) : l.getD i 0 ∈ l := by
  rw [List.getD, List.getElem?_eq_getElem h]; exact List.getElem_mem _
def allIn (l : List Int) (lo hi : Int) : Bool := l.all fun z => decide (lo ≤ z) && decide (z ≤ hi)
theorem allIn_iff {l : List Int} {lo hi : Int} : allIn l lo hi = true ↔ ∀ z ∈ l, lo ≤ z ∧ z ≤ hi := by
  unfold allIn; simp [List.all_eq_true]
theorem allIn_snoc {l : List Int} {lo hi : Int} {i : Nat} (h : i < l.length) : allIn (l.take (i + 1)) lo hi = (allIn (l.take i) lo hi && (decide (lo ≤ l.getD i 0) && decide (l.getD i 0 ≤ hi))) := by
  unfold allIn; rw [take_snoc l i h, List.all_append]; simp
theorem allIn_false {l : List Int} {lo hi : Int} {i : Nat} (h : i < l.length) (hz : l.getD i 0 < lo ∨ hi < l.getD i 0) : allIn l lo hi = false := by
  cases e : allIn l lo hi
  · rfl
  · have := allIn_iff.1 e _ (getD_mem h); omega
def sides14 (W H S : Int) : Bool := decide (1 ≤ W) && decide (W ≤ 64) && decide (1 ≤ H) && decide (H ≤ 64) && decide (16 ≤ S) && decide (S ≤ 4096)
def chk14 (W H S : Int) (l : List Int) : Int :=
  if sides14 W H S = false then 2 else if (l.length : Int) ≠ W * H then 5 else if allIn l 0 1073741824 = false then 1 else if isum l > 1073741824 ∨ isum l + l.length < 1073741824 then 11 else 0
def norm14 (s : Int) (l : List Int) : List Int := l.map fun p => p * 1073741824 / s
theorem norm_len (s : Int) (l : List Int) : (norm14 s l).length = l.length := by simp [norm14]
theorem norm_get (s : Int) (l : List Int) (i : Nat) (h : i < l.length) : (norm14 s l).getD i 0 = l.getD i 0 * 1073741824 / s := by
  simp [norm14, List.getD, h]
theorem norm_snoc (s : Int) (l : List Int) (i : Nat) (h : i < l.length) : norm14 s (l.take (i + 1)) = norm14 s (l.take i) ++ [l.getD i 0 * 1073741824 / s] := by
  rw [take_snoc l i h]; simp [norm14]
structure Right14 (W H S : Int) (l : List Int) : Prop where
  w0 : 1 ≤ W
  w1 : W ≤ 64
  h0 : 1 ≤ H
  h1 : H ≤ 64
  s0 : 16 ≤ S
  s1 : S ≤ 4096
  len : (l.length : Int) = W * H
  nums : ∀ z ∈ l, 0 ≤ z ∧ z ≤ 1073741824
  top : isum l ≤ 1073741824
  low : 1073741824 ≤ isum l + l.length
theorem sides_iff {W H S : Int} : sides14 W H S = true ↔ (1 ≤ W ∧ W ≤ 64) ∧ (1 ≤ H ∧ H ≤ 64) ∧ 16 ≤ S ∧ S ≤ 4096 := by
  unfold sides14; simp [and_assoc]
theorem right_iff {W H S : Int} {l : List Int} : chk14 W H S l = 0 ↔ Right14 W H S l := by
  unfold chk14
  constructor
  · intro h
    split at h
    · omega
    · rename_i h1
      split at h
      · omega
      · rename_i h2
        split at h
        · omega
        · rename_i h3
          split at h
          · omega
          · rename_i h4
            rw [Bool.not_eq_false] at h1 h3
            obtain ⟨⟨a1, a2⟩, ⟨a3, a4⟩, a5, a6⟩ := sides_iff.1 h1
            exact ⟨a1, a2, a3, a4, a5, a6, by omega, allIn_iff.1 h3, by omega, by omega⟩
  · rintro ⟨a1, a2, a3, a4, a5, a6, a7, a8, a9, a10⟩
    rw [if_neg (by rw [sides_iff.2 ⟨⟨a1, a2⟩, ⟨a3, a4⟩, a5, a6⟩]; simp), if_neg (by omega), if_neg (by rw [allIn_iff.2 a8]; simp), if_neg (by omega)]
theorem norm_sum {l : List Int} {s : Int} (hs : 0 < s) (h : ∀ z ∈ l, 0 ≤ z) : isum (norm14 s l) * s ≤ isum l * 1073741824 ∧ isum l * 1073741824 ≤ (isum (norm14 s l) + l.length) * s := by
  induction l with
  | nil => simp [isum, norm14]
  | cons x r ih =>
    have h1 := h x List.mem_cons_self
    obtain ⟨h2, h3⟩ := ih fun z hz => h z (List.mem_cons_of_mem _ hz)
    have e : norm14 s (x :: r) = x * 1073741824 / s :: norm14 s r := by simp [norm14]
    rw [e, isum, isum, List.length_cons]
    have a1 := Int.ediv_mul_le (x * 1073741824) (show s ≠ 0 by omega)
    have a2 := Int.lt_ediv_add_one_mul_self (x * 1073741824) hs
    generalize x * 1073741824 / s = q at *
    rw [Int.add_mul] at a2
    have b1 : (q + isum (norm14 s r)) * s = q * s + isum (norm14 s r) * s := Int.add_mul ..
    have b2 : (q + isum (norm14 s r) + ((r.length + 1 : Nat) : Int)) * s = q * s + 1 * s + (isum (norm14 s r) + r.length) * s := by
      rw [← Int.add_mul, ← Int.add_mul]; congr 1; omega
    rw [b1, b2]
    omega
theorem norm_right {W H S : Int} {l : List Int} (hw : 1 ≤ W ∧ W ≤ 64) (hh : 1 ≤ H ∧ H ≤ 64) (hs : 16 ≤ S ∧ S ≤ 4096) (hl : (l.length : Int) = W * H) (h : ∀ z ∈ l, 0 ≤ z) (hp : 0 < isum l) : Right14 W H S (norm14 (isum l) l) := by
  obtain ⟨n1, n2⟩ := norm_sum hp h
  have n1' : isum (norm14 (isum l) l) ≤ 1073741824 := Int.le_of_mul_le_mul_right (by rw [Int.mul_comm 1073741824]; exact n1) hp
  have n2' : 1073741824 ≤ isum (norm14 (isum l) l) + l.length := Int.le_of_mul_le_mul_right (by rw [Int.mul_comm 1073741824]; exact n2) hp
  have h0 : ∀ z ∈ norm14 (isum l) l, 0 ≤ z := by
    intro z hz
    obtain ⟨p, hp', rfl⟩ := List.mem_map.1 hz
    have := h p hp'
    exact Int.ediv_nonneg (by omega) (by omega)
  refine ⟨hw.1, hw.2, hh.1, hh.2, hs.1, hs.2, by rw [norm_len]; exact hl, fun z hz => ⟨h0 z hz, ?_⟩, n1', by rw [norm_len]; exact n2'⟩
  have := isum_mem h0 hz
  omega
end Go.Proofs.Ytpejoaefnnbghaa
namespace Go.Proofs.Ytpejoaefnnbghaa
set_option linter.unusedVariables false
theorem mix_set {T Z : List Int} {n k : Nat} (hT : T.length = n) (hZ : Z.length = n) (hk : k < n) : (T.take k ++ Z.drop k).set k (T.getD k 0) = T.take (k + 1) ++ Z.drop (k + 1) := by
  rw [take_snoc T k (by omega), List.drop_eq_getElem_cons (show k < Z.length by omega)]
  rw [List.set_append_right _ _ (by rw [List.length_take]; omega)]
  rw [show k - (T.take k).length = 0 by rw [List.length_take]; omega, List.set_cons_zero, List.append_assoc]
  rfl
theorem mix_get {T Z : List Int} {n k : Nat} (hT : T.length = n) (hZ : Z.length = n) (hk : k < n) : (T.take k ++ Z.drop k).getD k 0 = Z.getD k 0 := by
  rw [List.getD, List.getD, List.getElem?_append_right (by rw [List.length_take]; omega), List.getElem?_drop]
  congr 2
  rw [List.length_take]; omega
theorem mix_len {T Z : List Int} {n k : Nat} (hT : T.length = n) (hZ : Z.length = n) (hk : k ≤ n) : (T.take k ++ Z.drop k).length = n := by
  rw [List.length_append, List.length_take, List.length_drop]; omega
theorem ints_set (k : IntKind) (l : List Int) (i : Nat) (x : Int) : (ints k l).set i (.int k x) = ints k (l.set i x) := by simp [ints, List.map_set]
theorem row_put {cur : Array Value} {m : Nat} {k : IntKind} {o : List Int} {i : Nat} {x : Int} (h : cur.toList.take m = ints k o) : (cur.setIfInBounds i (.int k x)).toList.take m = ints k (o.set i x) := by
  rw [Array.toList_setIfInBounds, List.take_set, h, ints_set]
theorem row_at {cur : Array Value} {m : Nat} {k : IntKind} {o : List Int} {i : Nat} (h : cur.toList.take m = ints k o) (hm : o.length = m) (hi : i < m) : cur[i]? = some (.int k (o.getD i 0)) := by
  have h1 := ints_get k o i (by omega)
  rw [← h, List.getElem?_take, if_pos hi] at h1
  simpa using h1
end Go.Proofs.Ytpejoaefnnbghaa
namespace Go.Proofs.Ytpejoaefnnbghaa
set_option linter.unusedVariables false
def src14 (n : Nat) (ls : List Int) : List Int := ls.take n ++ List.replicate (n - ls.length) 1
theorem src_len (n : Nat) (ls : List Int) : (src14 n ls).length = n := by
  unfold src14; rw [List.length_append, List.length_take, List.length_replicate]; omega
theorem src_get {n i : Nat} {ls : List Int} (hi : i < n) : (src14 n ls).getD i 0 = if i < ls.length then ls.getD i 0 else 1 := by
  unfold src14
  by_cases h : i < ls.length
  · rw [if_pos h, List.getD, List.getD, List.getElem?_append_left (by rw [List.length_take]; omega), List.getElem?_take, if_pos hi]
  · rw [if_neg h, List.getD, List.getElem?_append_right (by rw [List.length_take]; omega), List.getElem?_replicate, if_pos (by rw [List.length_take]; omega)]
    rfl
theorem src_bd {n : Nat} {ls : List Int} (h : ∀ z ∈ ls, 0 ≤ z ∧ z ≤ 65535) : ∀ z ∈ src14 n ls, 0 ≤ z ∧ z ≤ 65535 := by
  intro z hz
  unfold src14 at hz
  rcases List.mem_append.1 hz with hz | hz
  · exact h z (List.mem_of_mem_take hz)
  · rw [(List.mem_replicate.1 hz).2]; omega
def fix14 (l : List Int) : List Int := if isum l = 0 then l.set 0 1 else l
theorem fix_len (l : List Int) : (fix14 l).length = l.length := by unfold fix14; split <;> simp
theorem fix_bd {l : List Int} (h : ∀ z ∈ l, 0 ≤ z ∧ z ≤ 65535) : ∀ z ∈ fix14 l, 0 ≤ z ∧ z ≤ 65535 := by
  intro z hz
  unfold fix14 at hz
  split at hz
  · rcases List.mem_or_eq_of_mem_set hz with hz | rfl
    · exact h z hz
    · omega
  · exact h z hz
theorem fix_pos {l : List Int} (h : ∀ z ∈ l, 0 ≤ z ∧ z ≤ 65535) (hl : 0 < l.length) : 0 < isum (fix14 l) := by
  have hn := isum_nonneg (l := fix14 l) fun z hz => (fix_bd h z hz).1
  by_cases h0 : isum l = 0
  · have hm : (1 : Int) ∈ fix14 l := by
      unfold fix14; rw [if_pos h0]
      exact List.mem_set hl 1
    have := isum_mem (l := fix14 l) (fun z hz => (fix_bd h z hz).1) hm
    omega
  · have e : fix14 l = l := by unfold fix14; rw [if_neg h0]
    rw [e] at hn ⊢
    omega
def mad14 (n : Nat) (ls : List Int) : List Int := norm14 (isum (fix14 (src14 n ls))) (fix14 (src14 n ls))
theorem mad_len (n : Nat) (ls : List Int) : (mad14 n ls).length = n := by unfold mad14; rw [norm_len, fix_len, src_len]
theorem mad_right {W H S : Int} {n : Nat} {ls : List Int} (hw : 1 ≤ W ∧ W ≤ 64) (hh : 1 ≤ H ∧ H ≤ 64) (hs : 16 ≤ S ∧ S ≤ 4096) (hn : W * H = n) (h : ∀ z ∈ ls, 0 ≤ z ∧ z ≤ 65535) : Right14 W H S (mad14 n ls) := by
  have h1 := src_bd (n := n) h
  have hn0 : 0 < n := by
    have := Int.mul_le_mul hw.1 hh.1 (by omega) (by omega)
    omega
  exact norm_right hw hh hs (by rw [fix_len, src_len]; exact hn.symm) (fun z hz => (fix_bd h1 z hz).1) (fix_pos h1 (by rw [src_len]; exact hn0))
end Go.Proofs.Ytpejoaefnnbghaa
namespace Go.Proofs.Ytpejoaefnnbghaa
set_option linter.unusedVariables false
def gen14 (n : Nat) (f : Nat → Int) : List Int := (List.range n).map f
theorem gen_len (n : Nat) (f : Nat → Int) : (gen14 n f).length = n := by simp [gen14]
theorem gen_get {n : Nat} (f : Nat → Int) {i : Nat} (h : i < n) : (gen14 n f).getD i 0 = f i := by
  simp [gen14, List.getD, h]
theorem gen_snoc {n : Nat} (f : Nat → Int) {i : Nat} (h : i < n) : (gen14 n f).take (i + 1) = (gen14 n f).take i ++ [f i] := by
  rw [take_snoc _ i (by rw [gen_len]; exact h), gen_get f h]
theorem gen_mem {n : Nat} {f : Nat → Int} {P : Int → Prop} (h : ∀ i, i < n → P (f i)) : ∀ z ∈ gen14 n f, P z := by
  intro z hz
  obtain ⟨i, hi, rfl⟩ := List.mem_map.1 hz
  exact h i (List.mem_range.1 hi)
theorem gen_all {n : Nat} (f : Nat → Int) : (gen14 n f).take n = gen14 n f := List.take_of_length_le (by rw [gen_len]; omega)
theorem place_bd {W H a b : Int} {n : Nat} (hn : W * H = n) (a0 : 0 ≤ a) (a1 : a < W) (b0 : 0 ≤ b) (b1 : b < H) : 0 ≤ b * W + a ∧ b * W + a < n := by
  have h1 := Int.mul_nonneg b0 (show 0 ≤ W by omega)
  have h2 := Int.mul_le_mul_of_nonneg_right (show b + 1 ≤ H by omega) (show 0 ≤ W by omega)
  rw [Int.add_mul, Int.one_mul, Int.mul_comm H W, hn] at h2
  omega
def cutv (W H : Int) (zs : List Int) (x y w : Int) (i : Nat) : Int :=
  if 0 ≤ x + (i : Int) % w ∧ x + (i : Int) % w < W ∧ 0 ≤ y + (i : Int) / w ∧ y + (i : Int) / w < H then zs.getD ((y + (i : Int) / w) * W + (x + (i : Int) % w)).toNat 0 else 0
def cut14 (W H : Int) (zs : List Int) (x y w : Int) (n : Nat) : List Int := gen14 n (cutv W H zs x y w)
theorem cutv_bd {W H : Int} {zs : List Int} {x y w : Int} (h : ∀ z ∈ zs, 0 ≤ z ∧ z ≤ 1073741824) (i : Nat) : 0 ≤ cutv W H zs x y w i ∧ cutv W H zs x y w i ≤ 1073741824 := by
  unfold cutv
  split
  · generalize ((y + (i : Int) / w) * W + (x + (i : Int) % w)).toNat = j
    by_cases hj : j < zs.length
    · exact h _ (getD_mem hj)
    · rw [List.getD, List.getElem?_eq_none (by omega)]; simp
  · omega
def cutok (x y w h : Int) : Bool := decide (1 ≤ w) && decide (w ≤ 64) && decide (1 ≤ h) && decide (h ≤ 64) && decide (-64 ≤ x) && decide (x ≤ 64) && decide (-64 ≤ y) && decide (y ≤ 64)
theorem cutok_iff {x y w h : Int} : cutok x y w h = true ↔ (1 ≤ w ∧ w ≤ 64) ∧ (1 ≤ h ∧ h ≤ 64) ∧ (-64 ≤ x ∧ x ≤ 64) ∧ -64 ≤ y ∧ y ≤ 64 := by
  unfold cutok; simp [and_assoc]
theorem cutok_not {x y w h : Int} (hs : cutok x y w h = false) : ∃ (u1 u2 u3 u4 u5 u6 u7 u8 : Bool), decide (w < 1) = u1 ∧ decide (64 < w) = u2 ∧ decide (h < 1) = u3 ∧ decide (64 < h) = u4 ∧ decide (x < -64) = u5 ∧ decide (64 < x) = u6 ∧ decide (y < -64) = u7 ∧ decide (64 < y) = u8 ∧ (u1 || u2 || u3 || u4 || u5 || u6 || u7 || u8) = true := by
  refine ⟨_, _, _, _, _, _, _, _, rfl, rfl, rfl, rfl, rfl, rfl, rfl, rfl, ?_⟩
  unfold cutok at hs
  rw [Bool.eq_iff_iff] at hs ⊢
  simp only [Bool.and_eq_true, Bool.or_eq_true, decide_eq_true_eq, Bool.false_eq_true, iff_false, iff_true] at hs ⊢
  omega
theorem four_not {a b W H : Int} (h : ¬ (0 ≤ a ∧ a < W ∧ 0 ≤ b ∧ b < H)) : ∃ (u1 u2 u3 u4 : Bool), decide (0 ≤ a) = u1 ∧ decide (a < W) = u2 ∧ decide (0 ≤ b) = u3 ∧ decide (b < H) = u4 ∧ (u1 && u2 && u3 && u4) = false := by
  refine ⟨_, _, _, _, rfl, rfl, rfl, rfl, ?_⟩
  rw [Bool.eq_false_iff]
  simp only [ne_eq, Bool.and_eq_true, decide_eq_true_eq]
  omega
end Go.Proofs.Ytpejoaefnnbghaa
namespace Go.Proofs.Ytpejoaefnnbghaa
set_option linter.unusedVariables false
def splitv (p : Nat) (zs : List Int) (k : Nat) : Int := zs.getD (k / (2 * p) / 2 * p + k % (2 * p) / 2) 0 / 4
def split14 (p : Nat) (zs : List Int) (m : Nat) : List Int := gen14 m (splitv p zs)
theorem split_place {p q k : Nat} (hp : 0 < p) (hk : k < 4 * (p * q)) : k % (2 * p) / 2 < p ∧ k / (2 * p) / 2 < q ∧ k / (2 * p) / 2 * p + k % (2 * p) / 2 < p * q := by
  have h1 := Nat.mod_lt k (show 0 < 2 * p by omega)
  have h2 : k / (2 * p) < 2 * q := (Nat.div_lt_iff_lt_mul (by omega)).2 (by
    rw [show 2 * q * (2 * p) = 4 * (p * q) by rw [Nat.mul_mul_mul_comm, Nat.mul_comm q p]]; exact hk)
  have h3 : k % (2 * p) / 2 < p := by omega
  have h4 : k / (2 * p) / 2 < q := by omega
  refine ⟨h3, h4, ?_⟩
  have h5 := Nat.mul_le_mul_right p (show k / (2 * p) / 2 + 1 ≤ q by omega)
  rw [Nat.succ_mul, Nat.mul_comm q p] at h5
  omega
theorem splitv_bd {p : Nat} {zs : List Int} (h : ∀ z ∈ zs, 0 ≤ z ∧ z ≤ 1073741824) (k : Nat) : 0 ≤ splitv p zs k ∧ splitv p zs k ≤ 1073741824 := by
  unfold splitv
  generalize k / (2 * p) / 2 * p + k % (2 * p) / 2 = j
  by_cases hj : j < zs.length
  · have := h _ (getD_mem hj); omega
  · rw [List.getD, List.getElem?_eq_none (by omega)]; simp
def splok (W H S : Int) : Bool := decide (W ≤ 32) && decide (H ≤ 32) && decide (32 ≤ S) && decide (S % 4 = 0)
theorem splok_iff {W H S : Int} : splok W H S = true ↔ W ≤ 32 ∧ H ≤ 32 ∧ 32 ≤ S ∧ S % 4 = 0 := by
  unfold splok; simp [and_assoc]
end Go.Proofs.Ytpejoaefnnbghaa
namespace Go.Proofs.Ytpejoaefnnbghaa
set_option linter.unusedVariables false
def dest14 (p m i : Nat) : Nat := i / p / 2 * m + i % p / 2
def base14 (p m k : Nat) : Nat := 2 * (k / m) * p + 2 * (k % m)
def pjoin (p m : Nat) (zs : List Int) (i k : Nat) : Int :=
  (if base14 p m k < i then zs.getD (base14 p m k) 0 else 0) + (if base14 p m k + 1 < i then zs.getD (base14 p m k + 1) 0 else 0) + (if base14 p m k + p < i then zs.getD (base14 p m k + p) 0 else 0) + (if base14 p m k + p + 1 < i then zs.getD (base14 p m k + p + 1) 0 else 0)
theorem dest_iff {p m i k : Nat} (hp : p = 2 * m) (hm : 0 < m) : dest14 p m i = k ↔ i / p / 2 = k / m ∧ i % p / 2 = k % m := by
  have hx : i % p / 2 < m := by have := Nat.mod_lt i (show 0 < p by omega); omega
  unfold dest14
  generalize i / p / 2 = y at *
  generalize i % p / 2 = x at *
  constructor
  · rintro rfl
    constructor
    · rw [Nat.mul_comm, Nat.mul_add_div hm, Nat.div_eq_of_lt hx, Nat.add_zero]
    · rw [Nat.mul_comm, Nat.mul_add_mod, Nat.mod_eq_of_lt hx]
  · rintro ⟨rfl, rfl⟩
    have := Nat.div_add_mod k m
    rw [Nat.mul_comm] at this
    exact this
theorem four_iff {p m i k : Nat} (hp : p = 2 * m) (hm : 0 < m) : dest14 p m i = k ↔ (i = base14 p m k ∨ i = base14 p m k + 1 ∨ i = base14 p m k + p ∨ i = base14 p m k + p + 1) := by
  rw [dest_iff hp hm]
  have hk : k % m < m := Nat.mod_lt k hm
  unfold base14
  generalize k / m = Y at *
  generalize k % m = X at *
  have hi := Nat.div_add_mod i p
  have hip := Nat.mod_lt i (show 0 < p by omega)
  have aux : ∀ (y x : Nat), x < p → (p * y + x) / p = y ∧ (p * y + x) % p = x := fun y x hx => ⟨by rw [Nat.mul_add_div (by omega), Nat.div_eq_of_lt hx, Nat.add_zero], by rw [Nat.mul_add_mod, Nat.mod_eq_of_lt hx]⟩
  have e0 : 2 * Y * p = p * (2 * Y) := Nat.mul_comm _ _
  have e1 : p * (2 * Y + 1) = p * (2 * Y) + p := by rw [Nat.mul_add, Nat.mul_one]
  constructor
  · rintro ⟨h1, h2⟩
    generalize i / p = y at *
    generalize i % p = x at *
    rcases (show y = 2 * Y ∨ y = 2 * Y + 1 by omega) with rfl | rfl
    · rcases (show x = 2 * X ∨ x = 2 * X + 1 by omega) with rfl | rfl <;> omega
    · rw [e1] at hi
      rcases (show x = 2 * X ∨ x = 2 * X + 1 by omega) with rfl | rfl <;> omega
  · have f1 := aux (2 * Y) (2 * X) (by omega)
    have f2 := aux (2 * Y) (2 * X + 1) (by omega)
    have f3 := aux (2 * Y + 1) (2 * X) (by omega)
    have f4 := aux (2 * Y + 1) (2 * X + 1) (by omega)
    rw [e1] at f3 f4
    rintro (h | h | h | h)
    · rw [h, e0, f1.1, f1.2]; omega
    · rw [h, e0, show p * (2 * Y) + 2 * X + 1 = p * (2 * Y) + (2 * X + 1) by omega, f2.1, f2.2]; omega
    · rw [h, e0, show p * (2 * Y) + 2 * X + p = p * (2 * Y) + p + 2 * X by omega, f3.1, f3.2]; omega
    · rw [h, e0, show p * (2 * Y) + 2 * X + p + 1 = p * (2 * Y) + p + (2 * X + 1) by omega, f4.1, f4.2]; omega
theorem pjoin_step {p m i k : Nat} {zs : List Int} (hp : p = 2 * m) (hm : 0 < m) : pjoin p m zs (i + 1) k = pjoin p m zs i k + if dest14 p m i = k then zs.getD i 0 else 0 := by
  have key : ∀ j : Nat, (if j < i + 1 then zs.getD j 0 else 0) = (if j < i then zs.getD j 0 else 0) + (if i = j then zs.getD i 0 else 0) := by
    intro j
    by_cases h1 : i = j
    · subst h1
      rw [if_pos (by omega), if_neg (by omega), if_pos rfl]; omega
    · by_cases h2 : j < i
      · rw [if_pos (by omega), if_pos h2, if_neg h1]; omega
      · rw [if_neg (by omega), if_neg h2, if_neg h1]; omega
  have h4 := four_iff (p := p) (m := m) (i := i) (k := k) hp hm
  unfold pjoin
  generalize base14 p m k = a at *
  rw [key a, key (a + 1), key (a + p), key (a + p + 1)]
  by_cases h : dest14 p m i = k
  · rw [if_pos h]
    rcases h4.1 h with e | e | e | e
    · rw [if_pos e, if_neg (show ¬ i = a + 1 by omega), if_neg (show ¬ i = a + p by omega), if_neg (show ¬ i = a + p + 1 by omega)]; omega
    · rw [if_neg (show ¬ i = a by omega), if_pos e, if_neg (show ¬ i = a + p by omega), if_neg (show ¬ i = a + p + 1 by omega)]; omega
    · rw [if_neg (show ¬ i = a by omega), if_neg (show ¬ i = a + 1 by omega), if_pos e, if_neg (show ¬ i = a + p + 1 by omega)]; omega
    · rw [if_neg (show ¬ i = a by omega), if_neg (show ¬ i = a + 1 by omega), if_neg (show ¬ i = a + p by omega), if_pos e]; omega
  · rw [if_neg h]
    have hn : ¬ (i = a ∨ i = a + 1 ∨ i = a + p ∨ i = a + p + 1) := fun e => h (h4.2 e)
    rw [if_neg (fun e => hn (.inl e)), if_neg (fun e => hn (.inr (.inl e))), if_neg (fun e => hn (.inr (.inr (.inl e)))), if_neg (fun e => hn (.inr (.inr (.inr e))))]; omega
theorem pjoin_zero {p m k : Nat} {zs : List Int} : pjoin p m zs 0 k = 0 := by
  unfold pjoin
  rw [if_neg (by omega), if_neg (by omega), if_neg (by omega), if_neg (by omega)]; rfl
def joinv (p m : Nat) (zs : List Int) (k : Nat) : Int := zs.getD (base14 p m k) 0 + zs.getD (base14 p m k + 1) 0 + zs.getD (base14 p m k + p) 0 + zs.getD (base14 p m k + p + 1) 0
def join14 (p m : Nat) (zs : List Int) (n4 : Nat) : List Int := gen14 n4 (joinv p m zs)
theorem base_lt {p m q2 k : Nat} (hp : p = 2 * m) (hm : 0 < m) (hk : k < m * q2) : base14 p m k + p + 1 < p * (2 * q2) := by
  have h1 := Nat.mod_lt k hm
  have h2 : k / m < q2 := (Nat.div_lt_iff_lt_mul hm).2 (by rw [Nat.mul_comm]; exact hk)
  unfold base14
  have h3 := Nat.mul_le_mul_left p (show 2 * (k / m) + 2 ≤ 2 * q2 by omega)
  rw [Nat.mul_add] at h3
  have e : 2 * (k / m) * p = p * (2 * (k / m)) := Nat.mul_comm _ _
  omega
theorem pjoin_all {p m q2 k : Nat} {zs : List Int} (hp : p = 2 * m) (hm : 0 < m) (hk : k < m * q2) : pjoin p m zs (p * (2 * q2)) k = joinv p m zs k := by
  have h := base_lt hp hm hk
  unfold pjoin joinv
  rw [if_pos (by omega), if_pos (by omega), if_pos (by omega), if_pos (by omega)]
theorem dest_lt {p m q2 i : Nat} (hp : p = 2 * m) (hm : 0 < m) (hi : i < p * (2 * q2)) : dest14 p m i < m * q2 := by
  have h1 := Nat.mod_lt i (show 0 < p by omega)
  have h2 : i / p < 2 * q2 := (Nat.div_lt_iff_lt_mul (by omega)).2 (by rw [Nat.mul_comm]; exact hi)
  unfold dest14
  have h3 := Nat.mul_le_mul_right m (show i / p / 2 + 1 ≤ q2 by omega)
  rw [Nat.succ_mul, Nat.mul_comm q2 m] at h3
  omega
theorem scatter_step {p m i n4 : Nat} {zs : List Int} (hp : p = 2 * m) (hm : 0 < m) (hd : dest14 p m i < n4) : (gen14 n4 (pjoin p m zs i)).set (dest14 p m i) ((gen14 n4 (pjoin p m zs i)).getD (dest14 p m i) 0 + zs.getD i 0) = gen14 n4 (pjoin p m zs (i + 1)) := by
  rw [gen_get _ hd]
  apply List.ext_getElem?
  intro k
  by_cases hk : k < n4
  · have e2 : (gen14 n4 (pjoin p m zs (i + 1)))[k]? = some (pjoin p m zs (i + 1) k) := by simp [gen14, hk]
    rw [e2, pjoin_step hp hm]
    by_cases h : dest14 p m i = k
    · subst h
      rw [List.getElem?_set_self (by rw [gen_len]; exact hd), if_pos rfl]
    · rw [List.getElem?_set_ne h, if_neg h]
      simp [gen14, hk]
  · rw [List.getElem?_eq_none (by rw [List.length_set, gen_len]; omega), List.getElem?_eq_none (by rw [gen_len]; omega)]
theorem isum_set {l : List Int} {k : Nat} (x : Int) (hk : k < l.length) : isum (l.set k (l.getD k 0 + x)) = isum l + x := by
  induction l generalizing k with
  | nil => simp at hk
  | cons y r ih =>
    cases k with
    | zero => simp [isum, List.getD]; omega
    | succ k =>
      have := ih (k := k) (by simpa using hk)
      rw [List.set_cons_succ, isum, isum]
      have e : (y :: r).getD (k + 1) 0 = r.getD k 0 := by simp [List.getD]
      rw [e, this]; omega
theorem isum_zeros : ∀ n : Nat, isum (List.replicate n 0) = 0
  | 0 => rfl
  | n + 1 => by rw [List.replicate_succ, isum, isum_zeros n]; rfl
theorem scatter_sum {p m n4 : Nat} {zs : List Int} (hp : p = 2 * m) (hm : 0 < m) : ∀ (i : Nat), i ≤ zs.length → (∀ j, j < i → dest14 p m j < n4) → isum (gen14 n4 (pjoin p m zs i)) = isum (zs.take i)
  | 0, _, _ => by
    have : gen14 n4 (pjoin p m zs 0) = List.replicate n4 0 := by
      apply List.ext_getElem?
      intro k
      by_cases hk : k < n4
      · simp [gen14, hk, pjoin_zero]
      · rw [List.getElem?_eq_none (by rw [gen_len]; omega), List.getElem?_eq_none (by simp; omega)]
    rw [this, List.take_zero, isum_zeros]
    rfl
  | i + 1, hi, hd => by
    rw [← scatter_step hp hm (hd i (by omega)), isum_set _ (by rw [gen_len]; exact hd i (by omega)), scatter_sum hp hm i (by omega) (fun j hj => hd j (by omega)), isum_snoc zs i (by omega)]
end Go.Proofs.Ytpejoaefnnbghaa
namespace Go.Proofs.Ytpejoaefnnbghaa
set_option linter.unusedVariables false
theorem join_sum {p q n4 : Nat} {zs : List Int} (hm : 0 < p) (hn : p * q = n4) (hl : zs.length = 2 * p * (2 * q)) : isum (join14 (2 * p) p zs n4) = isum zs := by
  have hs := scatter_sum (p := 2 * p) (m := p) (n4 := n4) (zs := zs) rfl hm zs.length (Nat.le_refl _) (fun j hj => by
    rw [← hn]
    exact dest_lt rfl hm (by omega))
  rw [List.take_length] at hs
  rw [← hs, hl]
  congr 1
  unfold join14
  apply List.ext_getElem?
  intro k
  by_cases hk : k < n4
  · have := pjoin_all (p := 2 * p) (m := p) (q2 := q) (k := k) (zs := zs) rfl hm (by omega)
    simp [gen14, hk, this]
  · rw [List.getElem?_eq_none (by rw [gen_len]; omega), List.getElem?_eq_none (by rw [gen_len]; omega)]
end Go.Proofs.Ytpejoaefnnbghaa
