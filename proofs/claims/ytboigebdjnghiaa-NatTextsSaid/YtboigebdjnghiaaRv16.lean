/-
  The walk of slices.Reverse at bytes.
-/
import Derived.Test.YtboigebdjnghiaaRe16
import Derived.RegionTactic
import Derived.ChangeAlike
namespace Go.Proofs.Ytboigebdjnghiaa
open Go.RowKit
set_option linter.unusedVariables false

def RevAt (l : List Nat) (k : Nat) (o : List Nat) : Prop := o.length = l.length ∧ ∀ t, t < l.length → o.getD t 0 = if t < k ∨ l.length ≤ t + k then l.getD (l.length - 1 - t) 0 else l.getD t 0
theorem RevAt.start (l : List Nat) : RevAt l 0 l := ⟨rfl, fun t ht => by rw [if_neg (by omega)]⟩
theorem RevAt.step {l : List Nat} {k : Nat} {o : List Nat} (h : RevAt l k o) (hk : k + k + 1 < l.length) : RevAt l (k + 1) ((o.set k (o.getD (l.length - 1 - k) 0)).set (l.length - 1 - k) (o.getD k 0)) := by
  obtain ⟨h1, h2⟩ := h
  refine ⟨by simp [h1], fun t ht => ?_⟩
  have hk1 := h2 k (by omega)
  have hk2 := h2 (l.length - 1 - k) (by omega)
  rw [if_neg (by omega)] at hk1
  rw [if_neg (by omega)] at hk2
  by_cases ha : t = l.length - 1 - k
  · subst ha
    rw [getD_set_self _ _ _ (by rw [List.length_set]; omega), if_pos (by omega), hk1]
    congr 1; omega
  · rw [getD_set_other _ _ _ _ (by omega)]
    by_cases hb : t = k
    · subst hb
      rw [getD_set_self _ _ _ (by omega), if_pos (by omega), hk2]
    · rw [getD_set_other _ _ _ _ (by omega), h2 t ht]
      by_cases hc : t < k ∨ l.length ≤ t + k
      · rw [if_pos hc, if_pos (by omega)]
      · rw [if_neg hc, if_neg (by omega)]
theorem RevAt.done {l : List Nat} {k : Nat} {o : List Nat} (h : RevAt l k o) (hk : l.length ≤ k + k + 1) : o = l.reverse := by
  apply List.ext_getElem (by rw [h.1, List.length_reverse])
  intro t h1 h2
  have := h.2 t (by rw [← h.1]; exact h1)
  rw [List.getD, List.getElem?_eq_getElem h1] at this
  simp only [Option.getD_some] at this
  have hl : t < l.length := by rw [← h.1]; exact h1
  rw [this, List.getElem_reverse]
  split
  · rw [List.getD, List.getElem?_eq_getElem (by omega)]; rfl
  · have : l.length - 1 - t = t := by omega
    simp only [this]
    rw [List.getD, List.getElem?_eq_getElem (by omega)]; rfl
theorem rowK_at {k : IntKind} {cur : Array Value} {m : Nat} {o : List Nat} {i : Nat} (h : cur.toList.take m = nums k o) (hi : i < o.length) : cur[i]? = some (.int k (o.getD i 0 : Nat)) := by
  have h1 := nums_get k o i hi
  rw [← h, List.getElem?_take] at h1
  split at h1
  · simpa using h1
  · cases h1
theorem rowK_set {k : IntKind} {cur : Array Value} {m : Nat} {o : List Nat} {i x : Nat} (h : cur.toList.take m = nums k o) : (cur.setIfInBounds i (.int k x)).toList.take m = nums k (o.set i x) := by
  rw [Array.toList_setIfInBounds, List.take_set, h]
  simp [nums, List.map_set]

set_option maxHeartbeats 2000000 in
theorem Reverse_own {B : Nat} {w0 w : World} {L0 : List Blk} {F : World → Prop} {g cap n : Nat} {cur : Array Value} {l : List Nat} (K : St B w0 ((g, cur, 5) :: L0) F w) (hct : cur.toList.take n = nums .u8 l) (hln : l.length = n) (hcap : n ≤ cur.size) (hn : n ≤ 1000000000) :
    Calls Try.prog 41 #[.slice (some ⟨g, 0, none⟩) n cap] w fun e w' => e = .returned (.tuple #[]) ∧ ∃ cur', cur'.size = cur.size ∧ cur'.toList.take n = nums .u8 l.reverse ∧ St B w0 ((g, cur', 5) :: L0) F w' := by
  have HC := Lib.hid hct
  have HLN := Lib.hid hln
  obtain ⟨sz, hsz⟩ : ∃ sz, sz = cur.size := ⟨_, rfl⟩
  have HS : Hid (cur.size = sz) := Lib.hid hsz.symm
  rw [← hsz] at hcap ⊢
  clear hct hln hsz
  go_enter Try.func41, Try.ntmps41
  go_wp2
  go_loopw [2, 3] (fun i j wr => ∃ (k : Nat) (z : Int) (o : List Nat) (cur : Array Value), k ≤ n ∧ i = .int .i64 k ∧ j = .int .i64 z ∧ z = (n : Int) - 1 - k ∧ Hid (RevAt l k o) ∧ Hid (cur.size = sz) ∧ Hid (cur.toList.take n = nums .u8 o) ∧ St B w0 ((g, cur, 5) :: L0) F wr) (fun i _ _ => n - (intOf i).toNat)
  case atStart => exact ⟨0, _, l, cur, Nat.zero_le _, rfl, rfl, by omega, Lib.hid (RevAt.start l), HS, HC, K⟩
  case round =>
    clear K HC HS
    obtain ⟨k, z, o, cur, hk, rfl, rfl, hz, hs, HS, HC, K⟩ := hrel
    by_cases hlt : k + k + 1 < n
    · obtain ⟨j, hj⟩ : ∃ j : Nat, j = n - 1 - k := ⟨_, rfl⟩
      have ez : z = (j : Int) := by omega
      subst ez
      have st := hs.out.step (by rw [HLN.out]; exact hlt)
      rw [HLN.out, ← hj] at st
      have ol : o.length = n := by rw [hs.out.1, HLN.out]
      have c1 := (K.get .hd).cell (rowK_at HC.out (i := k) (by omega))
      have c2 := (K.get .hd).cell (rowK_at HC.out (i := j) (by omega))
      have f1 := (K.get .hd).free k
      have f2 := (K.get .hd).free j
      have s1 : k < cur.size := by rw [HS.out]; omega
      have s2 : j < cur.size := by rw [HS.out]; omega
      generalize o.getD k 0 = x at *
      generalize o.getD j 0 = y at *
      have ST := Lib.hid st
      have t1 : decide ((k : Int) < (j : Int)) = true := decide_eq_true (by omega)
      have t2 : decide (k < j) = true := decide_eq_true (by omega)
      have i1 : (k : Int) < (n : Int) := by omega
      have i2 : (j : Int) < (n : Int) := by omega
      have e1 : IntKind.i64.wrap (k : Int) = (k : Int) := IntWalk.i64_in _ (by omega)
      have e2 : IntKind.i64.wrap (j : Int) = (j : Int) := IntWalk.i64_in _ (by omega)
      have hkj : k ≠ j := by omega
      have HJ := Lib.hid hj
      clear st hs hz hj ol
      go_wp2_with fail
      go_region
      have h2 := rowK_set (i := j) (x := x) (rowK_set (i := k) (x := y) HC.out)
      have s3 : ((cur.setIfInBounds k (.int .u8 y)).setIfInBounds j (.int .u8 x)).size = sz := by rw [Array.size_setIfInBounds, Array.size_setIfInBounds, HS.out]
      have K1 := Lib.hid ((K.setCell (i := k) (v := .int .u8 y) .hd).setCell (i := j) (v := .int .u8 x) .hd).drew
      have K2 := Lib.hid ((K.drew.setCell (i := k) (v := .int .u8 y) .hd).setCell (i := j) (v := .int .u8 x) .hd)
      have H2 := Lib.hid h2
      have S3 := Lib.hid s3
      clear h2 s3 K c1 c2 f1 f2 e1 e2
      go_wp2
      exact ⟨⟨k + 1, _, _, _, by omega, by go_num, rfl, by have := HJ.out; omega, ST, S3, H2, by first | exact K1.out | exact K2.out⟩, by simp [intOf]; omega⟩
    · have hr := Lib.hid (hs.out.done (by rw [HLN.out]; omega))
      have t1 : decide ((k : Int) < z) = false := decide_eq_false (by omega)
      clear hz hs
      go_wp2
      go_end0
      exact ⟨rfl, cur, HS.out, by rw [← hr.out]; exact HC.out, K⟩
end Go.Proofs.Ytboigebdjnghiaa
