/-
  The walk of the law ExpoSums.
-/
import Derived.Test.YtaibopgoigcbjaaV06
import Derived.Test.YtaibopgoigcbjaaLawA
import Derived.OpenShut
namespace Go.Proofs.Ytaibopgoigcbjaa
open Go.RowKit
set_option linter.unusedVariables false

/-- A slice of integers that came in: nil, or a row of 'cap' cells, the first 'len' of them its elements. -/
def IsRow (k : IntKind) (w : World) (a : Option Addr) (len cap : Nat) (zs : List Int) : Prop :=
  (a = none ∧ len = 0 ∧ cap = 0 ∧ zs = []) ∨
  ∃ x, a = some x ∧ len ≤ cap ∧ cap ≤ maxLen ∧ zs.length = cap ∧ (∀ i, i < zs.length → w.cell? (x.add i) = some (.int k (zs.getD i 0))) ∧ ∀ n ∈ zs, (Lit.int k n).wf = true

/-! ### The plain law of sums -/
theorem ls_comm (a b : Int) : ls a b = ls b a := by
  unfold ls
  by_cases h1 : a < b
  · rw [if_pos h1, if_neg (by omega)]
  · by_cases h2 : b < a
    · rw [if_neg h1, if_pos h2]
    · have : a = b := by omega
      subst this; rfl
theorem lsOf_ge (x y : Int) (h : x ≤ 9223372036854775807) : x ≤ lsOf x y := by
  have := more_bd (x - y).toNat
  unfold lsOf
  split
  · omega
  · split <;> omega
theorem ls_ge (a b : Int) (ha : a ≤ 9223372036854775807) (hb : b ≤ 9223372036854775807) : a ≤ ls a b ∧ b ≤ ls a b := by
  unfold ls
  split
  · have := lsOf_ge b a hb; omega
  · have := lsOf_ge a b ha; omega
theorem more_zero : more 0 = 65536 := by decide +kernel
theorem ls_same (a : Int) (h : a ≤ 4611686018427387904) : ls a a = a + 65536 := by
  unfold ls lsOf
  rw [if_neg (by omega), Int.sub_self]
  simp only [Int.toNat_zero, more_zero]
  rw [if_neg (by omega), if_neg (by omega)]

/-- The sums of all that came in, by the walks of both texts: in every later world. -/
theorem row_bounds {w : World} {a : Option Addr} {len cap : Nat} {zs : List Int} (h : IsRow .i64 w a len cap zs) : ∀ z ∈ zs, -9223372036854775808 ≤ z ∧ z ≤ 9223372036854775807 := by
  rcases h with ⟨rfl, rfl, rfl, rfl⟩ | ⟨x, rfl, hl, hm, hz, hc, hw⟩
  · intro z hz; cases hz
  · intro z hz; exact bounds_i64 (hw z hz)
theorem LogSums_empty (a : Option Addr) (cap : Nat) (w : World) : Calls Try.prog 15 #[.slice a 0 cap] w fun e w' => e = .returned (.int .i64 (-9223372036854775808)) ∧ Below w.heap.size w w' := by
  go_enter Try.func15, Try.ntmps15
  go_wp2
  go_loopw [3, 8] (fun s i wr => s = .int .i64 (-9223372036854775808) ∧ i = .int .i64 0 ∧ wr = w) (fun _ _ _ => 0)
  case atStart => exact ⟨rfl, rfl, rfl⟩
  case round =>
    obtain ⟨rfl, rfl, rfl⟩ := hrel
    go_wp2
    go_ret
    exact ⟨rfl, Below.refl _ _⟩

set_option maxHeartbeats 1000000 in
theorem sums_great (a b : Int) (o : Option Addr) (len cap : Nat) (w : World) (hlen : 20 < len) :
    Calls Try.prog 7 #[.int .i64 a, .int .i64 b, .slice o len cap] w fun e w' => e = .returned (.bool true) ∧ Below w.heap.size w w' := by
  have T : decide ((20 : Int) < (len : Int)) = true := decide_eq_true (by omega)
  have T2 : decide (20 < len) = true := decide_eq_true hlen
  clear hlen
  go_enter Try.func7, Try.ntmps7
  go_wp2_with fail
  refine (works_any _).mono ?_; rintro e w1 ⟨rfl, k⟩; dsimp only
  go_wp2
  go_ret
  exact ⟨rfl, k⟩

/-- What stands ahead of the loop, and behind it: the sum of two, both ways round, and of two that are the same. -/
theorem sums_pre (a b s : Int) (hs : s = ls a b) (x0 : -9223372036854775808 ≤ a) (x1 : a ≤ 9223372036854775807) (y0 : -9223372036854775808 ≤ b) (y1 : b ≤ 9223372036854775807) :
    (∀ w, Calls Try.prog 13 #[.int .i64 a, .int .i64 b] w fun e w' => e = .returned (.int .i64 s) ∧ Below w.heap.size w w') ∧
    (∀ w, Calls Try.prog 14 #[.int .i64 a, .int .i64 b] w fun e w' => e = .returned (.int .i64 s) ∧ Below w.heap.size w w') ∧
    (∀ w, Calls Try.prog 13 #[.int .i64 b, .int .i64 a] w fun e w' => e = .returned (.int .i64 s) ∧ Below w.heap.size w w') ∧
    (a ≤ 4611686018427387904 → ∀ w, Calls Try.prog 13 #[.int .i64 a, .int .i64 a] w fun e w' => e = .returned (.int .i64 (a + 65536)) ∧ Below w.heap.size w w') := by
  refine ⟨fun w => ?_, fun w => ?_, fun w => ?_, fun h w => ?_⟩
  · rw [hs]; exact LogSum_any a b w x0 x1 y0 y1
  · rw [hs]; exact RLogSum_any a b w x0 x1 y0 y1
  · rw [hs, ls_comm]; exact LogSum_any b a w y0 y1 x0 x1
  · have := LogSum_any a a w x0 x1 x0 x1
    rw [ls_same a h] at this; exact this

set_option maxHeartbeats 4000000 in
set_option maxRecDepth 100000 in
theorem sums_empty (a b : Int) (o : Option Addr) (cap : Nat) (w : World) (x0 : -9223372036854775808 ≤ a) (x1 : a ≤ 9223372036854775807) (y0 : -9223372036854775808 ≤ b) (y1 : b ≤ 9223372036854775807) :
    Calls Try.prog 7 #[.int .i64 a, .int .i64 b, .slice o 0 cap] w fun e w' => e = .returned (.bool true) ∧ Below w.heap.size w w' := by
  obtain ⟨s, hs⟩ : ∃ s, s = ls a b := ⟨_, rfl⟩
  have P := Lib.hid (sums_pre a b s hs x0 x1 y0 y1)
  have hge := ls_ge a b x1 y1
  rw [← hs] at hge
  have B := Lib.hid (And.intro x0 x1)
  have G1 : decide (s < a) = false := decide_eq_false (by omega)
  have G2 : decide (s < b) = false := decide_eq_false (by omega)
  clear hs hge x0 x1 y0 y1
  go_enter Try.func7, Try.ntmps7
  go_wp2_with fail
  refine (P.out.1 _).mono ?_; rintro e w1 ⟨rfl, k1⟩; dsimp only
  go_wp2_with fail
  refine (P.out.2.1 _).mono ?_; rintro e w2 ⟨rfl, k2⟩; dsimp only
  replace k2 := below_step k1 k2 k1.size
  clear k1
  go_wp2_with fail
  refine (P.out.2.2.1 _).mono ?_; rintro e w3 ⟨rfl, k3⟩; dsimp only
  replace k3 := below_step k2 k3 k2.size
  clear k2
  go_wp2
  go_loopw [8, 9] (fun s i wr => s = .int .i64 (-9223372036854775808) ∧ i = .int .i64 0 ∧ Below w.heap.size w wr) (fun _ _ _ => 0)
  case atStart => exact ⟨rfl, rfl, k3⟩
  case round =>
    clear k3
    obtain ⟨rfl, rfl, g⟩ := hrel
    by_cases hbig : 4611686018427387904 < a
    · have T : decide ((4611686018427387904 : Int) < a) = true := decide_eq_true hbig
      clear hbig
      go_wp2_with fail
      refine (LogSums_empty o cap _).mono ?_; rintro e w4 ⟨rfl, k4⟩; dsimp only
      replace k4 := below_step g k4 g.size
      go_wp2_with fail
      refine (works_any _).mono ?_; rintro e w5 ⟨rfl, k5⟩; dsimp only
      replace k5 := below_step k4 k5 k4.size
      go_wp2
      go_ret
      exact ⟨rfl, k5⟩
    · have T : decide ((4611686018427387904 : Int) < a) = false := decide_eq_false hbig
      have C4 := Lib.hid (P.out.2.2.2 (by omega))
      have ea : IntKind.i64.wrap (a + 65536) = a + 65536 := IntWalk.i64_in _ (by have := B.out; omega)
      have ea2 : wrap64 (a + 65536) = a + 65536 := IntWalk.wrap64_in _ (by have := B.out; omega)
      clear hbig
      go_wp2_with fail
      refine (LogSums_empty o cap _).mono ?_; rintro e w4 ⟨rfl, k4⟩; dsimp only
      replace k4 := below_step g k4 g.size
      go_wp2_with fail
      refine (C4.out _).mono ?_; rintro e w6 ⟨rfl, k6⟩; dsimp only
      replace k6 := below_step k4 k6 k4.size
      go_wp2_with fail
      refine (works_any _).mono ?_; rintro e w5 ⟨rfl, k5⟩; dsimp only
      replace k5 := below_step k6 k5 k6.size
      go_wp2
      go_ret
      exact ⟨rfl, k5⟩

set_option maxHeartbeats 4000000 in
set_option maxRecDepth 100000 in
theorem sums_some (a b : Int) (bb off len cap : Nat) (zs : List Int) (w : World) (x0 : -9223372036854775808 ≤ a) (x1 : a ≤ 9223372036854775807) (y0 : -9223372036854775808 ≤ b) (y1 : b ≤ 9223372036854775807)
    (hlen : len ≤ 20) (hl : zs.length = len) (hlt : bb < w.heap.size) (hc : ∀ i, i < len → w.cell? ⟨bb, off + i, none⟩ = some (.int .i64 (zs.getD i 0))) (hz : ∀ z ∈ zs, -9223372036854775808 ≤ z ∧ z ≤ 9223372036854775807) :
    Calls Try.prog 7 #[.int .i64 a, .int .i64 b, .slice (some ⟨bb, off, none⟩) len cap] w fun e w' => e = .returned (.bool true) ∧ Below w.heap.size w w' := by
  have T0 : decide ((20 : Int) < (len : Int)) = false := decide_eq_false (by omega)
  have T1 : decide (20 < len) = false := decide_eq_false (by omega)
  have HL := Lib.hid hl
  have HC := Lib.hid hc
  have HZ := Lib.hid hz
  have HLT := Lib.hid hlt
  clear hl hc hz hlt
  obtain ⟨s, hs⟩ : ∃ s, s = ls a b := ⟨_, rfl⟩
  have P := Lib.hid (sums_pre a b s hs x0 x1 y0 y1)
  have hge := ls_ge a b x1 y1
  rw [← hs] at hge
  have B := Lib.hid (And.intro x0 x1)
  have G1 : decide (s < a) = false := decide_eq_false (by omega)
  have G2 : decide (s < b) = false := decide_eq_false (by omega)
  clear hs hge x0 x1 y0 y1
  go_enter Try.func7, Try.ntmps7
  go_wp2_with fail
  refine (P.out.1 _).mono ?_; rintro e w1 ⟨rfl, k1⟩; dsimp only
  go_wp2_with fail
  refine (P.out.2.1 _).mono ?_; rintro e w2 ⟨rfl, k2⟩; dsimp only
  replace k2 := below_step k1 k2 k1.size
  clear k1
  go_wp2_with fail
  refine (P.out.2.2.1 _).mono ?_; rintro e w3 ⟨rfl, k3⟩; dsimp only
  replace k3 := below_step k2 k3 k2.size
  clear k2
  go_wp2
  go_loopw [8, 9] (fun s i wr => ∃ k : Nat, k ≤ len ∧ i = .int .i64 k ∧ s = .int .i64 (lsAll (zs.take k)) ∧ Below w.heap.size w wr) (fun _ i _ => len - (intOf i).toNat)
  case atStart => exact ⟨0, by omega, rfl, rfl, k3⟩
  case round =>
    clear k3
    obtain ⟨k, hk, rfl, rfl, g⟩ := hrel
    by_cases hkl : k < len
    · have hc : wr.cell? ⟨bb, off + k, none⟩ = some (.int .i64 (zs.getD k 0)) := by rw [g.cell (p := ⟨bb, off + k, none⟩) HLT.out]; exact HC.out k hkl
      have hs := Lib.hid (lsAll_take zs k (by rw [HL.out]; exact hkl))
      have bs := Lib.hid (lsAll_bd (zs.take k) (fun z h => HZ.out z (List.mem_of_mem_take h)))
      have bz : Hid (-9223372036854775808 ≤ zs.getD k 0 ∧ zs.getD k 0 ≤ 9223372036854775807) := Lib.hid (by
        have : k < zs.length := by rw [HL.out]; exact hkl
        exact HZ.out (zs.getD k 0) (by simp [List.getD, this]))
      generalize lsAll (zs.take k) = s1 at *
      generalize zs.getD k 0 = z at *
      go_wp2_with fail
      refine (RLogSum_any s1 z _ bs.out.1 bs.out.2 bz.out.1 bz.out.2).mono ?_; rintro e w4 ⟨rfl, k4⟩; dsimp only
      replace g := below_step g k4 g.size
      go_wp2
      refine ⟨⟨k + 1, by omega, by go_num, by rw [hs.out], g⟩, by simp [intOf]; omega⟩
    · have CL : Hid (∀ W, Below w.heap.size w W → Calls Try.prog 15 #[.slice (some ⟨bb, off, none⟩) len cap] W fun e w' => e = .returned (.int .i64 (lsAll (zs.take k))) ∧ Below W.heap.size W w') := Lib.hid (fun W hW => by
        rw [List.take_of_length_le (by rw [HL.out]; omega)]
        exact LogSums_any bb off len cap zs W HL.out (by omega) (Nat.lt_of_lt_of_le HLT.out hW.size) (fun i hi => by rw [hW.cell (p := ⟨bb, off + i, none⟩) HLT.out]; exact HC.out i hi) HZ.out)
      generalize lsAll (zs.take k) = s1 at *
      by_cases hbig : 4611686018427387904 < a
      · have T : decide ((4611686018427387904 : Int) < a) = true := decide_eq_true hbig
        clear hbig
        go_wp2_with fail
        refine (CL.out _ g).mono ?_; rintro e w4 ⟨rfl, k4⟩; dsimp only
        replace k4 := below_step g k4 g.size
        go_wp2_with fail
        refine (works_any _).mono ?_; rintro e w5 ⟨rfl, k5⟩; dsimp only
        replace k5 := below_step k4 k5 k4.size
        go_wp2
        go_ret
        exact ⟨rfl, k5⟩
      · have T : decide ((4611686018427387904 : Int) < a) = false := decide_eq_false hbig
        have C4 := Lib.hid (P.out.2.2.2 (by omega))
        have ea : IntKind.i64.wrap (a + 65536) = a + 65536 := IntWalk.i64_in _ (by have := B.out; omega)
        have ea2 : wrap64 (a + 65536) = a + 65536 := IntWalk.wrap64_in _ (by have := B.out; omega)
        clear hbig
        go_wp2_with fail
        refine (CL.out _ g).mono ?_; rintro e w4 ⟨rfl, k4⟩; dsimp only
        replace k4 := below_step g k4 g.size
        go_wp2_with fail
        refine (C4.out _).mono ?_; rintro e w6 ⟨rfl, k6⟩; dsimp only
        replace k6 := below_step k4 k6 k4.size
        go_wp2_with fail
        refine (works_any _).mono ?_; rintro e w5 ⟨rfl, k5⟩; dsimp only
        replace k5 := below_step k6 k5 k6.size
        go_wp2
        go_ret
        exact ⟨rfl, k5⟩

theorem walk_ExpoSums (a0 : Int) (a1 : Int) (a2 : Option Addr) (len2 cap2 : Nat) (z2 : List Int) (w : World) (w0 : (Lit.int .i64 a0).wf = true) (w1 : (Lit.int .i64 a1).wf = true) (w2 : IsRow .i64 w a2 len2 cap2 z2) :
    Calls Try.prog 7 #[.int .i64 a0, .int .i64 a1, .slice a2 len2 cap2] w fun e w' => e = .returned (.bool true) ∧ Below w.heap.size w w' := by
  have b0 := bounds_i64 w0
  have b1 := bounds_i64 w1
  have hbd := row_bounds w2
  by_cases hg : 20 < len2
  · exact sums_great a0 a1 a2 len2 cap2 w hg
  rcases Nat.eq_zero_or_pos len2 with rfl | hpos
  · exact sums_empty a0 a1 a2 cap2 w b0.1 b0.2 b1.1 b1.2
  · rcases w2 with ⟨rfl, rfl, rfl, rfl⟩ | ⟨x, rfl, hl, hm, hz, hc, hw⟩
    · omega
    · have h0 := hc 0 (by omega)
      obtain ⟨b, off, spot⟩ := x
      have hspot : spot = none := by simpa [Addr.add] using World.cell?_spot h0
      subst hspot
      have hlt : b < w.heap.size := by simpa [Addr.add] using block_lt_of_cell h0
      refine sums_some a0 a1 b off len2 cap2 (z2.take len2) w b0.1 b0.2 b1.1 b1.2 (by omega) (by simp; omega) hlt ?_ (fun z h => hbd z (List.mem_of_mem_take h))
      intro i hi
      have h1 := hc i (by omega)
      rw [Addr.add_mid] at h1
      rw [h1]
      congr 2
      simp [List.getD, hi]
end Go.Proofs.Ytaibopgoigcbjaa
