/-
  Lemmas and walks of this claim (the texts Sl Row Pa14 Pb14 Pd14 of the work; what no proof here uses is left out). No claim of their own.
-/
import Derived.Test.YtpejoaefnnbghaaPF3
import Derived.Laws.MakeOwn
import Derived.Laws.OwnMore
import Derived.OwnWalk
set_option linter.all false
set_option linter.unusedSimpArgs false
set_option linter.unusedVariables false
namespace Go.Proofs.Ytpejoaefnnbghaa
open Go.RowKit
set_option linter.unusedVariables false

def Rd (w : World) (A : Option Addr) (n : Nat) (cs : List Value) : Prop :=
  cs.length = n ∧ (0 < n → ∃ b off, A = some ⟨b, off, none⟩ ∧ b < w.heap.size ∧ ∀ j u, cs[j]? = some u → w.cell? ⟨b, off + j, none⟩ = some u)
def Sl (w : World) (e : TypeId) (A : Option Addr) (n : Nat) (cs : List Value) : Prop :=
  cs.length = n ∧ (0 < n → ∃ b off arr, A = some ⟨b, off, none⟩ ∧ w.heap[b]? = some (.cells arr e (0, 0)) ∧ ∀ j u, cs[j]? = some u → arr[off + j]? = some u)
def Nw (B : Nat) (A : Option Addr) : Prop := ∀ b off p, A = some ⟨b, off, p⟩ → B ≤ b
theorem Nw.mk (B b off : Nat) (h : B ≤ b) : Nw B (some ⟨b, off, none⟩) := by
  intro b' off' p e
  injection e with e
  injection e with e
  omega
theorem Nw.mono {B B' : Nat} {A : Option Addr} (h : Nw B A) (hb : B' ≤ B) : Nw B' A := fun b off p e => Nat.le_trans hb (h b off p e)

section
variable {w w' : World} {e : TypeId} {A : Option Addr} {n : Nat} {cs : List Value}
theorem Rd.nil (w : World) (A : Option Addr) : Rd w A 0 [] := ⟨rfl, fun h => absurd h (by omega)⟩
theorem Rd.keep (h : Rd w A n cs) (hs : w.heap.size ≤ w'.heap.size) (hk : ∀ p : Addr, p.block < w.heap.size → w'.cell? p = w.cell? p) : Rd w' A n cs :=
  ⟨h.1, fun hn => by
    obtain ⟨b, off, e, hb, hc⟩ := h.2 hn
    exact ⟨b, off, e, by omega, fun j u hu => (hk _ hb).trans (hc j u hu)⟩⟩
theorem Rd.below (h : Rd w A n cs) (hb : Below w.heap.size w w') : Rd w' A n cs := h.keep hb.size fun _ hp => hb.cell hp
theorem Rd.get (h : Rd w A n cs) {k : Nat} (hk : k < n) : ∃ b off, A = some ⟨b, off, none⟩ ∧ b < w.heap.size ∧ ∀ j u, cs[j]? = some u → w.cell? ⟨b, off + j, none⟩ = some u := h.2 (by omega)
theorem Sl.rd (h : Sl w e A n cs) : Rd w A n cs :=
  ⟨h.1, fun hn => by
    obtain ⟨b, off, arr, rfl, hb, hc⟩ := h.2 hn
    exact ⟨b, off, rfl, (Array.getElem?_eq_some_iff.1 hb).1, fun j u hu => by rw [cell_of_row _ _ _ _ _ _ hb]; exact hc j u hu⟩⟩
theorem Sl.of_has {b : Nat} {arr : Array Value} {t : TypeId} (h : Has w b arr t) : Sl w t (some ⟨b, 0, none⟩) arr.size arr.toList :=
  ⟨by simp, fun _ => ⟨b, 0, arr, rfl, h, fun j u hu => by simpa using hu⟩⟩
end

def nums (k : IntKind) (l : List Nat) : List Value := l.map fun (x : Nat) => .int k x
theorem nums_length (k : IntKind) (l : List Nat) : (nums k l).length = l.length := by simp [nums]
theorem nums_get (k : IntKind) (l : List Nat) (i : Nat) (h : i < l.length) : (nums k l)[i]? = some (.int k (l.getD i 0 : Nat)) := by simp [nums, List.getD, h]
theorem nums_take (k : IntKind) (l : List Nat) (i : Nat) : (nums k l).take i = nums k (l.take i) := by simp [nums, List.map_take]
theorem nums_ones (k : IntKind) (l : List Nat) : ∀ u ∈ nums k l, u.oneCell' = true := by
  intro u hu
  obtain ⟨x, _, rfl⟩ := List.mem_map.1 hu
  rfl
theorem nums_append (k : IntKind) (l m : List Nat) : nums k l ++ nums k m = nums k (l ++ m) := by simp [nums]
section
variable {P : Program} {w : World} {ops : Array Oper} {rest : List Oper} {o : Oper} {a : Act} {Q : Exit → Act → World → Prop}
end

end Go.Proofs.Ytpejoaefnnbghaa
namespace Go.Proofs.Ytpejoaefnnbghaa
open Go.RowKit
set_option linter.unusedVariables false
def IsRow (k : IntKind) (w : World) (a : Option Addr) (len cap : Nat) (zs : List Int) : Prop :=
  (a = none ∧ len = 0 ∧ cap = 0 ∧ zs = []) ∨
  ∃ x, a = some x ∧ len ≤ cap ∧ cap ≤ maxLen ∧ zs.length = cap ∧ (∀ i, i < zs.length → w.cell? (x.add i) = some (.int k (zs.getD i 0))) ∧ ∀ n ∈ zs, (Lit.int k n).wf = true

theorem cell_some {w : World} {x : Addr} {v : Value} (h : w.cell? x = some v) : x.spot = none ∧ x.block < w.heap.size := by
  unfold World.cell? at h
  split at h
  · rename_i c e f hb
    split at h
    · cases h
    · rename_i hs
      exact ⟨by simpa using hs, (Array.getElem?_eq_some_iff.1 hb).1⟩
  · cases h
def ints (k : IntKind) (l : List Int) : List Value := l.map (.int k)
theorem ints_len (k : IntKind) (l : List Int) : (ints k l).length = l.length := by simp [ints]
theorem ints_app (k : IntKind) (l m : List Int) : ints k (l ++ m) = ints k l ++ ints k m := by simp [ints]
theorem ints_get (k : IntKind) (l : List Int) (i : Nat) (h : i < l.length) : (ints k l)[i]? = some (.int k (l.getD i 0)) := by
  simp [ints, List.getD, h]
theorem take_snoc (l : List Int) (i : Nat) (h : i < l.length) : l.take (i + 1) = l.take i ++ [l.getD i 0] := by
  rw [List.take_succ_eq_append_getElem h, List.getD, List.getElem?_eq_getElem h]; rfl
theorem IsRow.rdI {k : IntKind} {w : World} {a : Option Addr} {len cap : Nat} {zs : List Int} (h : IsRow k w a len cap zs) :
    ∃ l : List Int, (∀ x ∈ l, (Lit.int k x).wf = true) ∧ Rd w a len (ints k l) ∧ l.length = len := by
  rcases h with ⟨rfl, rfl, rfl, rfl⟩ | ⟨x, rfl, hl, hm, hz, hc, hwf⟩
  · exact ⟨[], by simp, Rd.nil _ _, rfl⟩
  · refine ⟨zs.take len, fun y hy => hwf y (List.mem_of_mem_take hy), ⟨?_, fun h0 => ?_⟩, ?_⟩
    · rw [ints_len, List.length_take]; omega
    · have h1 := hc 0 (by omega)
      obtain ⟨hs, hb⟩ := cell_some h1
      rcases x with ⟨b, off, sp⟩
      simp only [Addr.add] at hs hb
      subst hs
      refine ⟨b, off, rfl, hb, fun j u hj => ?_⟩
      have hj' : j < len := by
        have := (List.getElem?_eq_some_iff.1 hj).1
        rw [ints_len, List.length_take] at this
        omega
      have h2 := hc j (by omega)
      rw [Addr.add_mid] at h2
      rw [h2]
      have e := ints_get k (zs.take len) j (by rw [List.length_take]; omega)
      rw [hj] at e
      injection e with e
      rw [e, List.getD, List.getD, List.getElem?_take, if_pos hj']
    · rw [List.length_take]; omega
end Go.Proofs.Ytpejoaefnnbghaa
namespace Go.Proofs.Ytpejoaefnnbghaa
set_option linter.unusedVariables false
def isum : List Int → Int
  | [] => 0
  | x :: r => x + isum r
theorem isum_app (l m : List Int) : isum (l ++ m) = isum l + isum m := by
  induction l with
  | nil => simp [isum]
  | cons x r ih => rw [List.cons_append, isum, isum, ih]; omega
theorem isum_snoc (l : List Int) (i : Nat) (h : i < l.length) : isum (l.take (i + 1)) = isum (l.take i) + l.getD i 0 := by
  rw [take_snoc l i h, isum_app]; simp [isum]
theorem isum_bd {M : Int} {l : List Int} (hM : 0 ≤ M) (h : ∀ z ∈ l, -M ≤ z ∧ z ≤ M) : -(M * l.length) ≤ isum l ∧ isum l ≤ M * l.length := by
  induction l with
  | nil => simp [isum]
  | cons x r ih =>
    have h1 := h x List.mem_cons_self
    have h2 := ih fun z hz => h z (List.mem_cons_of_mem _ hz)
    rw [isum, List.length_cons]
    have e : M * ((r.length + 1 : Nat) : Int) = M * r.length + M := by rw [Int.natCast_add, Int.mul_add]; simp
    omega
theorem isum_nonneg {l : List Int} (h : ∀ z ∈ l, 0 ≤ z) : 0 ≤ isum l := by
  induction l with
  | nil => simp [isum]
  | cons x r ih =>
    have h1 := h x List.mem_cons_self
    have h2 := ih fun z hz => h z (List.mem_cons_of_mem _ hz)
    rw [isum]; omega
theorem isum_take_bd {M : Int} {l : List Int} {n : Nat} (hM : 0 ≤ M) (h : ∀ z ∈ l, -M ≤ z ∧ z ≤ M) (hl : l.length ≤ n) (k : Nat) : -(M * n) ≤ isum (l.take k) ∧ isum (l.take k) ≤ M * n := by
  have h1 := isum_bd (l := l.take k) hM fun z hz => h z (List.mem_of_mem_take hz)
  have h2 : M * ((l.take k).length : Int) ≤ M * n := Int.mul_le_mul_of_nonneg_left (by rw [List.length_take]; omega) hM
  omega
theorem isum_mem {l : List Int} (h : ∀ z ∈ l, 0 ≤ z) {z : Int} (hz : z ∈ l) : z ≤ isum l := by
  induction l with
  | nil => cases hz
  | cons x r ih =>
    have h1 := h x List.mem_cons_self
    have h2 := isum_nonneg (l := r) fun z hz => h z (List.mem_cons_of_mem _ hz)
    rw [isum]
    rcases List.mem_cons.1 hz with rfl | hz
    · omega
    · have := ih (fun z hz => h z (List.mem_cons_of_mem _ hz)) hz; omega
theorem getD_mem {l : List Int} {i : Nat} (h : i < l.length) : l.getD i 0 ∈ l := by
  rw [List.getD, List.getElem?_eq_getElem h]; exact List.getElem_mem _
def norm14 (s : Int) (l : List Int) : List Int := l.map fun p => p * 1073741824 / s
theorem norm_len (s : Int) (l : List Int) : (norm14 s l).length = l.length := by simp [norm14]
theorem norm_snoc (s : Int) (l : List Int) (i : Nat) (h : i < l.length) : norm14 s (l.take (i + 1)) = norm14 s (l.take i) ++ [l.getD i 0 * 1073741824 / s] := by
  rw [take_snoc l i h]; simp [norm14]
structure Right14 (W H S : Int) (l : List Int) : Prop where
  w0 : 1 ≤ W
  w1 : W ≤ 64
  h0 : 1 ≤ H
  h1 : H ≤ 64
  s0 : 16 ≤ S
  s1 : S ≤ 4096
  len : (l.length : Int) = W * H
  nums : ∀ z ∈ l, 0 ≤ z ∧ z ≤ 1073741824
  top : isum l ≤ 1073741824
  low : 1073741824 ≤ isum l + l.length
theorem norm_sum {l : List Int} {s : Int} (hs : 0 < s) (h : ∀ z ∈ l, 0 ≤ z) : isum (norm14 s l) * s ≤ isum l * 1073741824 ∧ isum l * 1073741824 ≤ (isum (norm14 s l) + l.length) * s := by
  induction l with
  | nil => simp [isum, norm14]
  | cons x r ih =>
    have h1 := h x List.mem_cons_self
    obtain ⟨h2, h3⟩ := ih fun z hz => h z (List.mem_cons_of_mem _ hz)
    have e : norm14 s (x :: r) = x * 1073741824 / s :: norm14 s r := by simp [norm14]
    rw [e, isum, isum, List.length_cons]
    have a1 := Int.ediv_mul_le (x * 1073741824) (show s ≠ 0 by omega)
    have a2 := Int.lt_ediv_add_one_mul_self (x * 1073741824) hs
    generalize x * 1073741824 / s = q at *
    rw [Int.add_mul] at a2
    have b1 : (q + isum (norm14 s r)) * s = q * s + isum (norm14 s r) * s := Int.add_mul ..
    have b2 : (q + isum (norm14 s r) + ((r.length + 1 : Nat) : Int)) * s = q * s + 1 * s + (isum (norm14 s r) + r.length) * s := by
      rw [← Int.add_mul, ← Int.add_mul]; congr 1; omega
    rw [b1, b2]
    omega
theorem norm_right {W H S : Int} {l : List Int} (hw : 1 ≤ W ∧ W ≤ 64) (hh : 1 ≤ H ∧ H ≤ 64) (hs : 16 ≤ S ∧ S ≤ 4096) (hl : (l.length : Int) = W * H) (h : ∀ z ∈ l, 0 ≤ z) (hp : 0 < isum l) : Right14 W H S (norm14 (isum l) l) := by
  obtain ⟨n1, n2⟩ := norm_sum hp h
  have n1' : isum (norm14 (isum l) l) ≤ 1073741824 := Int.le_of_mul_le_mul_right (by rw [Int.mul_comm 1073741824]; exact n1) hp
  have n2' : 1073741824 ≤ isum (norm14 (isum l) l) + l.length := Int.le_of_mul_le_mul_right (by rw [Int.mul_comm 1073741824]; exact n2) hp
  have h0 : ∀ z ∈ norm14 (isum l) l, 0 ≤ z := by
    intro z hz
    obtain ⟨p, hp', rfl⟩ := List.mem_map.1 hz
    have := h p hp'
    exact Int.ediv_nonneg (by omega) (by omega)
  refine ⟨hw.1, hw.2, hh.1, hh.2, hs.1, hs.2, by rw [norm_len]; exact hl, fun z hz => ⟨h0 z hz, ?_⟩, n1', by rw [norm_len]; exact n2'⟩
  have := isum_mem h0 hz
  omega
end Go.Proofs.Ytpejoaefnnbghaa
namespace Go.Proofs.Ytpejoaefnnbghaa
set_option linter.unusedVariables false
theorem ints_set (k : IntKind) (l : List Int) (i : Nat) (x : Int) : (ints k l).set i (.int k x) = ints k (l.set i x) := by simp [ints, List.map_set]
theorem row_put {cur : Array Value} {m : Nat} {k : IntKind} {o : List Int} {i : Nat} {x : Int} (h : cur.toList.take m = ints k o) : (cur.setIfInBounds i (.int k x)).toList.take m = ints k (o.set i x) := by
  rw [Array.toList_setIfInBounds, List.take_set, h, ints_set]
end Go.Proofs.Ytpejoaefnnbghaa
namespace Go.Proofs.Ytpejoaefnnbghaa
set_option linter.unusedVariables false
def src14 (n : Nat) (ls : List Int) : List Int := ls.take n ++ List.replicate (n - ls.length) 1
theorem src_len (n : Nat) (ls : List Int) : (src14 n ls).length = n := by
  unfold src14; rw [List.length_append, List.length_take, List.length_replicate]; omega
theorem src_get {n i : Nat} {ls : List Int} (hi : i < n) : (src14 n ls).getD i 0 = if i < ls.length then ls.getD i 0 else 1 := by
  unfold src14
  by_cases h : i < ls.length
  · rw [if_pos h, List.getD, List.getD, List.getElem?_append_left (by rw [List.length_take]; omega), List.getElem?_take, if_pos hi]
  · rw [if_neg h, List.getD, List.getElem?_append_right (by rw [List.length_take]; omega), List.getElem?_replicate, if_pos (by rw [List.length_take]; omega)]
    rfl
theorem src_bd {n : Nat} {ls : List Int} (h : ∀ z ∈ ls, 0 ≤ z ∧ z ≤ 65535) : ∀ z ∈ src14 n ls, 0 ≤ z ∧ z ≤ 65535 := by
  intro z hz
  unfold src14 at hz
  rcases List.mem_append.1 hz with hz | hz
  · exact h z (List.mem_of_mem_take hz)
  · rw [(List.mem_replicate.1 hz).2]; omega
def fix14 (l : List Int) : List Int := if isum l = 0 then l.set 0 1 else l
theorem fix_len (l : List Int) : (fix14 l).length = l.length := by unfold fix14; split <;> simp
theorem fix_bd {l : List Int} (h : ∀ z ∈ l, 0 ≤ z ∧ z ≤ 65535) : ∀ z ∈ fix14 l, 0 ≤ z ∧ z ≤ 65535 := by
  intro z hz
  unfold fix14 at hz
  split at hz
  · rcases List.mem_or_eq_of_mem_set hz with hz | rfl
    · exact h z hz
    · omega
  · exact h z hz
theorem fix_pos {l : List Int} (h : ∀ z ∈ l, 0 ≤ z ∧ z ≤ 65535) (hl : 0 < l.length) : 0 < isum (fix14 l) := by
  have hn := isum_nonneg (l := fix14 l) fun z hz => (fix_bd h z hz).1
  by_cases h0 : isum l = 0
  · have hm : (1 : Int) ∈ fix14 l := by
      unfold fix14; rw [if_pos h0]
      exact List.mem_set hl 1
    have := isum_mem (l := fix14 l) (fun z hz => (fix_bd h z hz).1) hm
    omega
  · have e : fix14 l = l := by unfold fix14; rw [if_neg h0]
    rw [e] at hn ⊢
    omega
def mad14 (n : Nat) (ls : List Int) : List Int := norm14 (isum (fix14 (src14 n ls))) (fix14 (src14 n ls))
theorem mad_len (n : Nat) (ls : List Int) : (mad14 n ls).length = n := by unfold mad14; rw [norm_len, fix_len, src_len]
theorem mad_right {W H S : Int} {n : Nat} {ls : List Int} (hw : 1 ≤ W ∧ W ≤ 64) (hh : 1 ≤ H ∧ H ≤ 64) (hs : 16 ≤ S ∧ S ≤ 4096) (hn : W * H = n) (h : ∀ z ∈ ls, 0 ≤ z ∧ z ≤ 65535) : Right14 W H S (mad14 n ls) := by
  have h1 := src_bd (n := n) h
  have hn0 : 0 < n := by
    have := Int.mul_le_mul hw.1 hh.1 (by omega) (by omega)
    omega
  exact norm_right hw hh hs (by rw [fix_len, src_len]; exact hn.symm) (fun z hz => (fix_bd h1 z hz).1) (fix_pos h1 (by rw [src_len]; exact hn0))
end Go.Proofs.Ytpejoaefnnbghaa
