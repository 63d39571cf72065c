/-
  Lemmas and walks of this claim (the texts P16 of the work; what no proof here uses is left out). No claim of their own.
-/
import Derived.Test.YteancdipmpmjpaaMD17
import Derived.Laws.BitsLemmas
set_option linter.all false
set_option linter.unusedSimpArgs false
set_option linter.unusedVariables false
namespace Go.Proofs.Yteancdipmpmjpaa
open Go.RowKit
set_option maxRecDepth 100000
set_option linter.unusedVariables false

theorem bits32 (o : BinOp) (f : Nat → Nat → Nat) (hf : (o = .and ∧ f = (· &&& ·)) ∨ (o = .or ∧ f = (· ||| ·)) ∨ (o = .xor ∧ f = (· ^^^ ·))) (a b : Nat) (ha : a < 4294967296) (hb : b < 4294967296) :
    bits o .u32 (a : Int) (b : Int) = (f a b : Nat) ∧ f a b < 4294967296 := by
  have h32 : IntKind.u32.bits = 32 := rfl
  rcases hf with ⟨rfl, rfl⟩ | ⟨rfl, rfl⟩ | ⟨rfl, rfl⟩
  · have := Nat.and_lt_two_pow (n := 32) a (by simpa using hb)
    refine ⟨?_, this⟩
    simp only [bits, h32, BitVec.ofInt_natCast, BitVec.toNat_and, BitVec.toNat_ofNat, Nat.mod_eq_of_lt ha, Nat.mod_eq_of_lt hb]
    rw [IntKind.wrap_u32]
    simp only [Nat.reducePow] at this
    omega
  · have := Nat.or_lt_two_pow (n := 32) (by simpa using ha) (by simpa using hb)
    refine ⟨?_, this⟩
    simp only [bits, h32, BitVec.ofInt_natCast, BitVec.toNat_or, BitVec.toNat_ofNat, Nat.mod_eq_of_lt ha, Nat.mod_eq_of_lt hb]
    rw [IntKind.wrap_u32]
    simp only [Nat.reducePow] at this
    omega
  · have := Nat.xor_lt_two_pow (n := 32) (by simpa using ha) (by simpa using hb)
    refine ⟨?_, this⟩
    simp only [bits, h32, BitVec.ofInt_natCast, BitVec.toNat_xor, BitVec.toNat_ofNat, Nat.mod_eq_of_lt ha, Nat.mod_eq_of_lt hb]
    rw [IntKind.wrap_u32]
    simp only [Nat.reducePow] at this
    omega
theorem and32 (a b : Nat) (ha : a < 4294967296) (hb : b < 4294967296) : bits .and .u32 (a : Int) (b : Int) = (a &&& b : Nat) ∧ a &&& b < 4294967296 := bits32 .and (· &&& ·) (.inl ⟨rfl, rfl⟩) a b ha hb
theorem or32 (a b : Nat) (ha : a < 4294967296) (hb : b < 4294967296) : bits .or .u32 (a : Int) (b : Int) = (a ||| b : Nat) ∧ a ||| b < 4294967296 := bits32 .or (· ||| ·) (.inr (.inl ⟨rfl, rfl⟩)) a b ha hb
theorem xor32 (a b : Nat) (ha : a < 4294967296) (hb : b < 4294967296) : bits .xor .u32 (a : Int) (b : Int) = (a ^^^ b : Nat) ∧ a ^^^ b < 4294967296 := bits32 .xor (· ^^^ ·) (.inr (.inr ⟨rfl, rfl⟩)) a b ha hb
theorem top32 (a : Nat) (ha : a < 4294967296) : a.testBit 31 = decide (2147483648 ≤ a) := by
  rw [Nat.testBit_eq_decide_div_mod_eq]
  by_cases h : 2147483648 ≤ a
  · rw [decide_eq_true h, decide_eq_true (by omega)]
  · rw [decide_eq_false h, decide_eq_false (by omega)]
theorem div32 (a : Nat) (ha : a < 4294967296) : a / 2147483648 = if a.testBit 31 then 1 else 0 := by
  rw [top32 a ha]
  by_cases h : 2147483648 ≤ a
  · simp only [decide_eq_true h, if_true]; omega
  · simp only [decide_eq_false h]; simp; omega
theorem borrow32 (x y b d : Nat) (hx : x < 4294967296) (hy : y < 4294967296) (hb : b ≤ 1) (hd : (d : Int) = ((x : Int) - y - b) % 4294967296) :
    (bits .or .u32 (bits .and .u32 (bits .xor .u32 4294967295 (x : Int)) (y : Int)) (bits .and .u32 (bits .xor .u32 4294967295 (bits .xor .u32 (x : Int) (y : Int))) (d : Int))) / 2147483648 = if x < y + b then 1 else 0 := by
  have hd' : d < 4294967296 := by omega
  have e1 := xor32 4294967295 x (by omega) hx
  have e2 := and32 _ y e1.2 hy
  have e3 := xor32 x y hx hy
  have e4 := xor32 4294967295 _ (by omega) e3.2
  have e5 := and32 _ d e4.2 hd'
  have e6 := or32 _ _ e2.2 e5.2
  have n1 : (4294967295 : Int) = ((4294967295 : Nat) : Int) := rfl
  rw [n1, e1.1, e2.1, e3.1, e4.1, e5.1, e6.1]
  have e7 := div32 _ e6.2
  rw [Nat.testBit_or, Nat.testBit_and, Nat.testBit_xor, Nat.testBit_and, Nat.testBit_xor, Nat.testBit_xor, top32 x hx, top32 y hy, top32 d hd', show (4294967295 : Nat).testBit 31 = true by decide] at e7
  generalize ((4294967295 ^^^ x) &&& y) ||| ((4294967295 ^^^ (x ^^^ y)) &&& d) = v at *
  have e8 : ((v : Int) / 2147483648) = ((v / 2147483648 : Nat) : Int) := by omega
  rw [e8, e7]
  by_cases h1 : 2147483648 ≤ x <;> by_cases h2 : 2147483648 ≤ y <;> by_cases h3 : 2147483648 ≤ d <;> by_cases h4 : x < y + b <;> simp [h1, h2, h3, h4] <;> omega
theorem Sub32_any (x y b : Nat) (w : World) (hx : x < 4294967296) (hy : y < 4294967296) (hb : b ≤ 1) :
    Calls Try.prog 119 #[.int .u32 x, .int .u32 y, .int .u32 b] w fun e w' => e = .returned (.tuple #[.int .u32 (((x : Int) - y - b) % 4294967296), .int .u32 (if x < y + b then 1 else 0)]) ∧ w = w' := by
  obtain ⟨d, hd⟩ : ∃ d : Nat, (d : Int) = ((x : Int) - y - b) % 4294967296 := ⟨(((x : Int) - y - b) % 4294967296).toNat, by omega⟩
  have hq := Lib.hid (borrow32 x y b d hx hy hb hd)
  obtain ⟨q, hq2⟩ : ∃ q : Int, q = if x < y + b then 1 else 0 := ⟨_, rfl⟩
  rw [← hq2] at hq ⊢
  have hm : IntKind.u32.max = 4294967295 := by decide
  rw [← hd]
  have HD := Lib.hid hd
  clear hq2 hd
  go_enter Try.func119, Try.ntmps119
  go_wp2
  go_ret2
  refine ⟨?_, rfl⟩
  show Ending.returned (.tuple #[.int .u32 (((x : Int) - y - b) % 4294967296), .int .u32 (_ / 2147483648)]) = _
  rw [← HD.out, hq.out]
end Go.Proofs.Yteancdipmpmjpaa
