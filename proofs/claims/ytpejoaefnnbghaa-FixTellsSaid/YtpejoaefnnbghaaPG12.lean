/-
  Lemmas and walks of this claim (the texts Bt12 Ba26 Cr26 of the work; what no proof here uses is left out). No claim of their own.
-/
import Derived.Test.YtpejoaefnnbghaaPG8
import Derived.Test.YtpejoaefnnbghaaPG10
import Derived.Test.YtpejoaefnnbghaaPG7
set_option linter.all false
set_option linter.unusedSimpArgs false
set_option linter.unusedVariables false
namespace Go.Proofs.Ytpejoaefnnbghaa
open Go.RowKit
attribute [local irreducible] wpHeld wpTree wpList
set_option linter.unusedVariables false
def leB (k x : Nat) : List Nat := (List.range k).map fun j => x / 256 ^ j % 256
theorem leB_succ (k x : Nat) : leB (k + 1) x = leB k x ++ [x / 256 ^ k % 256] := by simp [leB, List.range_succ]
theorem leB_len (k x : Nat) : (leB k x).length = k := by simp [leB]
theorem leB_lt (k x : Nat) : ∀ y ∈ leB k x, y < 256 := by
  intro y hy
  obtain ⟨j, _, rfl⟩ := List.mem_map.1 hy
  exact Nat.mod_lt _ (by omega)
theorem wrap_u32 (x : Int) : ∃ n : Nat, n < 4294967296 ∧ IntKind.u32.wrap x = (n : Int) := by
  refine ⟨(IntKind.u32.wrap x).toNat, ?_, ?_⟩
  all_goals
    unfold IntKind.wrap
    simp [IntKind.bits, IntKind.signed]
    omega
theorem bits_u32 (op : BinOp) (a b : Int) : ∃ n : Nat, n < 4294967296 ∧ bits op .u32 a b = (n : Int) := wrap_u32 _
end Go.Proofs.Ytpejoaefnnbghaa
namespace Go.Proofs.Ytpejoaefnnbghaa
open Go.RowKit
attribute [local irreducible] wpHeld wpTree wpList
set_option linter.unusedVariables false
set_option linter.unusedSimpArgs false
section
variable {P : Program} {B : Nat} {w0 w w' : World} {L L' L0 : List Blk} {F : World → Prop} {ops : Array Oper} {rest : List Oper} {o : Oper} {a : Act} {Q : Exit → Act → World → Prop}
theorem wm_noneT (K : St B w0 L F w) (hgd : Region.wanted o (yielded ops a.tmps) = true) (t : TypeId) (ho : o.op = .buildSlice t 0 #[]) {e : TypeId} (hu : P.underlying t = some (.slice e)) {k : IntKind} {bs : Nat}
    (hi : (P.info? e).map (fun i => (i.zero, i.size, i.bytes)) = some (some (.int k 0), 1, bs))
    (h : ∀ (v' : Value) (w' : World) (Lo' : List Blk), OwnT v' e [] Lo' → St B w0 (L ++ Lo') F w' → wpList P ops Q rest (a.put o.dst v') w') : wpList P ops Q (o :: rest) a w :=
  wl_wanted hgd fun K' hK => by
    obtain ⟨i, hi1, hz, hs, _⟩ := info_parts hi
    have hr : (Instr.buildSlice t 0 #[]).run P w = .ok (.slice (some ⟨w.heap.size, 0, none⟩) 0 0) (w.alloc (.cells #[] e)) := by simp [Instr.buildSlice, run_underlying hu, sizeOf, typeInfo, hi1, Instr.fill, newRow]; rw [show (Array.map (fun _ => (default : Value)) (Array.range 0)) = #[] from by apply Array.ext'; simp]
    unfold Oper.wp execOp
    simp [ho, hr, Oper.upon]
    exact hK _ _ (h _ _ [(w.heap.size, #[], e)] (.inr ⟨w.heap.size, 0, #[], rfl, Nat.le_refl _, by omega, rfl, rfl, rfl⟩) ((K.alloc _ e).perm (List.perm_append_comm (l₁ := [(w.heap.size, (#[] : Array Value), e)]) (l₂ := L))))
end
theorem byteAt (x i : Nat) : ((x : Int) / 2 ^ (8 * i) % 256) = ((x / 256 ^ i % 256 : Nat) : Int) := by
  have : (2 : Nat) ^ (8 * i) = 256 ^ i := by rw [Nat.pow_mul]
  rw [← this]
  simp
set_option maxRecDepth 100000 in
set_option maxHeartbeats 2000000 in
theorem Put26_any (A : Option Addr) (n c : Nat) (l : List Nat) (x k : Nat) (kz : Int) (w : World) (hkz : kz = k) (h : Rd w A n (nums .u8 l)) (hn0 : 0 < n) (hn : n ≤ 1000) (hx : x < 18446744073709551616) (hk : k ≤ 8) :
    Calls Try.prog 94 #[.slice A n c, .int .u64 x, .int .i64 kz] w fun e w' => ∃ A2 c2, e = .returned (.slice A2 (n + k) c2) ∧ (Rd w' A2 (n + k) (nums .u8 (l ++ leB k x)) ∧ Nw w.heap.size A2) ∧ n + k ≤ c2 ∧ Below w.heap.size w w' := by
  subst hkz
  have K := St.start w
  have H := Lib.hid h
  have HN : Hid (l.length = n) := Lib.hid (by rw [← h.1, nums_length])
  clear h
  go_enter Try.func94, Try.ntmps94
  go_wp2_with (first|go_big_skip|((with_reducible refine at_load ?_);fail)|((with_reducible refine at_store ?_);fail)|((with_reducible refine at_bsl ?_);refine wm_noneT K rfl _ rfl Try.underlying80 num5 ?_;(try clear K);(try clear ww);intro v ww Lo hO K)|((with_reducible refine at_app ?_);refine wm_appST (L0 := ?_) K ?_ rfl _ _ _ rfl Try.underlying80 num5 rfl hO rfl (H.out.below K.below) hn0 (nums_ones _ _) (by simp;omega) (by simp;unfold maxLen;omega) ?_;rotate_left;(repeat (first|exact Tl.nil|(refine Tl.cons (L0 := ?_) ?_;rotate_left)));(try clear K hO);(try clear ww);intro v ww Lo hO K))
  have hO0 : OwnT v 5 (nums .u8 (l ++ leB 0 x)) Lo := by simpa [leB] using hO
  go_loopw [7, 14] (fun v j wr => ∃ (i : Nat) (Lo : List Blk), i ≤ k ∧ j = .int .i64 i ∧ OwnT v 5 (nums .u8 (l ++ leB i x)) Lo ∧ St w.heap.size w Lo Any wr) (fun _ j _ => k - (intOf j).toNat)
  case atStart => exact ⟨0, Lo, Nat.zero_le _, rfl, hO0, K⟩
  case round =>
    clear K hO hO0
    obtain ⟨i, Lo, hi, rfl, hO, K⟩ := hrel
    by_cases hlt : i < k
    · have ht : decide ((i : Int) < k) = true := decide_eq_true (by omega)
      have ht8 : decide ((i : Int) < 8) = true := decide_eq_true (by omega)
      have ht8b : decide (i < 8) = true := decide_eq_true (by omega)
      have hs : Hid (leB (i + 1) x = leB i x ++ [x / 256 ^ i % 256]) := Lib.hid (leB_succ i x)
      have hl : (nums .u8 (l ++ leB i x)).length ≤ 1008 := by rw [nums_length, List.length_append, HN.out, leB_len]; omega
      go_wp2_with (first|go_big_skip|((with_reducible refine at_load ?_);fail)|((with_reducible refine at_store ?_);fail)|((with_reducible refine at_bsl ?_);refine wm_one K rfl _ _ rfl Try.underlying80 num5 rfl ?_;(try clear K);(try clear ww);intro bb ww K;(try simp [go_sem] at K))|((with_reducible refine at_app ?_);refine wm_appT (L0 := ?_) K ?_ rfl _ _ _ rfl Try.underlying80 num5 rfl hO rfl rfl (by first|(simp only [nums_length, List.length_map];omega)|omega) (by first|(simp only [nums_length, List.length_map];unfold maxLen;omega)|(unfold maxLen;omega)) ?_;rotate_left;(repeat (first|exact Tl.nil|(refine Tl.cons (L0 := ?_) ?_;rotate_left)));(try clear K hO);(try clear ww);intro v ww Lo hO K;simp only [List.cons_append, List.nil_append] at K))
      exact ⟨⟨i + 1, Lo, by omega, by go_num, by rw [byteAt] at hO; rw [hs.out, ← List.append_assoc, ← nums_append]; exact hO, K⟩, by simp [intOf]; omega⟩
    · obtain rfl : k = i := by omega
      have ht : decide ((k : Int) < k) = false := decide_eq_false (by omega)
      obtain ⟨A2, c2, rfl, hc1, hc2, hA, K2⟩ := hO.fix (L0 := []) K
      have hlen : (nums .u8 (l ++ leB k x)).length = n + k := by rw [nums_length, List.length_append, HN.out, leB_len]
      rw [hlen] at K2 hc1 ⊢
      have HA := Lib.hid (And.intro hA hc1)
      clear K hO hA hc1 hc2 hlen
      revert wr
      intro ww K
      go_wp2
      go_ret
      exact ⟨A2, c2, rfl, ⟨K.fact.1, HA.out.1⟩, HA.out.2, K.below⟩
end Go.Proofs.Ytpejoaefnnbghaa
namespace Go.Proofs.Ytpejoaefnnbghaa
open Go.RowKit
attribute [local irreducible] wpHeld wpTree wpList
set_option linter.unusedVariables false
set_option linter.unusedSimpArgs false
def bitC (r : Int) : Int := bits .xor .u32 (r / 2) (bits .and .u32 3988292384 (IntKind.u32.wrap (-(bits .and .u32 r 1))))
def bitsC : Nat → Int → Int
  | 0, r => r
  | k + 1, r => bitC (bitsC k r)
theorem bitC_in (r : Int) : 0 ≤ bitC r ∧ bitC r < 4294967296 := by
  obtain ⟨n, hn, e⟩ := bits_u32 .xor (r / 2) (bits .and .u32 3988292384 (IntKind.u32.wrap (-(bits .and .u32 r 1))))
  unfold bitC; rw [e]; omega
theorem bitsC_in (r : Int) (h : 0 ≤ r ∧ r < 4294967296) : ∀ k, 0 ≤ bitsC k r ∧ bitsC k r < 4294967296
  | 0 => h
  | k + 1 => bitC_in _
set_option maxRecDepth 100000 in
set_option maxHeartbeats 2000000 in
theorem byte26 (r : Int) (w : World) (hr : 0 ≤ r ∧ r < 4294967296) :
    Calls Try.prog 125 #[.int .u32 r] w fun e w' => e = .returned (.int .u32 (bitsC 8 r)) ∧ Below w.heap.size w w' := by
  have K := St.start w
  have HB := Lib.hid (bitsC_in r hr)
  have HS0 : ∀ k, bitsC (k + 1) r = bitC (bitsC k r) := fun _ => rfl
  have HS := Lib.hid HS0
  clear HS0
  have H0 : bitsC 0 r = r := rfl
  obtain ⟨rv, hrv⟩ : ∃ rv, bitsC 8 r = rv := ⟨_, rfl⟩
  rw [hrv]
  have HV := Lib.hid hrv
  clear hr hrv
  go_enter Try.func125, Try.ntmps125
  go_wp2_with (first|go_big_skip|((with_reducible refine at_load ?_);first|(refine wm_own (cs := ?_) (t := ?_) (v := ?_) K rfl _ _ rfl rfl ?_ ?_ ?_ ?_;rotate_left 2;(repeat (first|exact At.hd|refine At.tl ?_));rotate_left;(first|exact rfl|assumption);(with_reducible first|exact one5))|(refine wm_cell (v := ?_) rfl _ _ rfl rfl ?_ ?_ ?_;rotate_left;(first|assumption|exact (K.below.cell (by assumption)).trans (by assumption));(with_reducible first|exact one5)))|((with_reducible refine at_store ?_);first|(refine wm_put (L' := ?_) (cs := ?_) (new := ?_) (t := ?_) K rfl _ _ _ rfl rfl rfl rfl ?_ ?_ ?_ ?_ rfl rfl ?_;rotate_left 4;(repeat (first|exact Put.hd|(refine Put.tl (L' := ?_) ?_;rotate_left)));(solve|exact Nat.le_of_ble_eq_true rfl|decide|(simp only [List.size_toArray, nums_length];first|assumption|omega)|(simp only [List.size_toArray, nums_length, List.length_set];first|assumption|omega)|simp|omega|(simp only [List.size_toArray, nums_length];omega)|assumption);(solve|(simp only [List.setIfInBounds_toArray];exact rfl)|exact nums_set _ _ _ _|simp only [List.setIfInBounds_toArray, List.set_cons_zero]|simp only [List.setIfInBounds_toArray, List.set_cons_zero, List.set_cons_succ]|(simp only [List.setIfInBounds_toArray, List.set_cons_zero, List.set_cons_succ];exact rfl)|exact rfl);(with_reducible first|exact one5);(try clear K);(try clear ww);intro ww K;(try simp [go_sem] at K))))
  go_loopw [0, 4] (fun v j wr => ∃ (k : Nat), k ≤ 8 ∧ j = .int .i64 k ∧ v = .int .u32 (bitsC k r) ∧ St w.heap.size w [] Any wr) (fun _ j _ => 8 - (intOf j).toNat)
  case atStart => exact ⟨0, by omega, rfl, by rw [H0], K⟩
  case round =>
    clear K H0
    obtain ⟨k, hk, rfl, rfl, K⟩ := hrel
    by_cases hlt : k < 8
    · have ht : decide ((k : Int) < 8) = true := decide_eq_true (by omega)
      have hs := HS.out k
      have hb := HB.out k
      generalize bitsC k r = x at *
      obtain ⟨m, rfl⟩ : ∃ m : Nat, x = m := ⟨x.toNat, by omega⟩
      have hs := Lib.hid hs
      go_wp2_with (first|go_big_skip|((with_reducible refine at_load ?_);first|(refine wm_own (cs := ?_) (t := ?_) (v := ?_) K rfl _ _ rfl rfl ?_ ?_ ?_ ?_;rotate_left 2;(repeat (first|exact At.hd|refine At.tl ?_));rotate_left;(first|exact rfl|assumption);(with_reducible first|exact one5))|(refine wm_cell (v := ?_) rfl _ _ rfl rfl ?_ ?_ ?_;rotate_left;(first|assumption|exact (K.below.cell (by assumption)).trans (by assumption));(with_reducible first|exact one5)))|((with_reducible refine at_store ?_);first|(refine wm_put (L' := ?_) (cs := ?_) (new := ?_) (t := ?_) K rfl _ _ _ rfl rfl rfl rfl ?_ ?_ ?_ ?_ rfl rfl ?_;rotate_left 4;(repeat (first|exact Put.hd|(refine Put.tl (L' := ?_) ?_;rotate_left)));(solve|exact Nat.le_of_ble_eq_true rfl|decide|(simp only [List.size_toArray, nums_length];first|assumption|omega)|(simp only [List.size_toArray, nums_length, List.length_set];first|assumption|omega)|simp|omega|(simp only [List.size_toArray, nums_length];omega)|assumption);(solve|(simp only [List.setIfInBounds_toArray];exact rfl)|exact nums_set _ _ _ _|simp only [List.setIfInBounds_toArray, List.set_cons_zero]|simp only [List.setIfInBounds_toArray, List.set_cons_zero, List.set_cons_succ]|(simp only [List.setIfInBounds_toArray, List.set_cons_zero, List.set_cons_succ];exact rfl)|exact rfl);(with_reducible first|exact one5);(try clear K);(try clear ww);intro ww K;(try simp [go_sem] at K))))
      refine ⟨⟨k + 1, by omega, by go_num, ?_, K⟩, by simp [intOf]; omega⟩
      rw [hs.out]
      rfl
    · obtain rfl : k = 8 := by omega
      have ht : decide (((8 : Nat) : Int) < 8) = false := by decide
      rw [HV.out]
      go_wp2_with (first|go_big_skip|((with_reducible refine at_load ?_);first|(refine wm_own (cs := ?_) (t := ?_) (v := ?_) K rfl _ _ rfl rfl ?_ ?_ ?_ ?_;rotate_left 2;(repeat (first|exact At.hd|refine At.tl ?_));rotate_left;(first|exact rfl|assumption);(with_reducible first|exact one5))|(refine wm_cell (v := ?_) rfl _ _ rfl rfl ?_ ?_ ?_;rotate_left;(first|assumption|exact (K.below.cell (by assumption)).trans (by assumption));(with_reducible first|exact one5)))|((with_reducible refine at_store ?_);first|(refine wm_put (L' := ?_) (cs := ?_) (new := ?_) (t := ?_) K rfl _ _ _ rfl rfl rfl rfl ?_ ?_ ?_ ?_ rfl rfl ?_;rotate_left 4;(repeat (first|exact Put.hd|(refine Put.tl (L' := ?_) ?_;rotate_left)));(solve|exact Nat.le_of_ble_eq_true rfl|decide|(simp only [List.size_toArray, nums_length];first|assumption|omega)|(simp only [List.size_toArray, nums_length, List.length_set];first|assumption|omega)|simp|omega|(simp only [List.size_toArray, nums_length];omega)|assumption);(solve|(simp only [List.setIfInBounds_toArray];exact rfl)|exact nums_set _ _ _ _|simp only [List.setIfInBounds_toArray, List.set_cons_zero]|simp only [List.setIfInBounds_toArray, List.set_cons_zero, List.set_cons_succ]|(simp only [List.setIfInBounds_toArray, List.set_cons_zero, List.set_cons_succ];exact rfl)|exact rfl);(with_reducible first|exact one5);(try clear K);(try clear ww);intro ww K;(try simp [go_sem] at K))))
      go_ret
      exact ⟨rfl, K.below⟩
def crcK (l : List Nat) : Nat → Int
  | 0 => 4294967295
  | k + 1 => bitsC 8 (bits .xor .u32 (crcK l k) (l.getD k 0))
theorem xor_in (a b : Int) : 0 ≤ bits .xor .u32 a b ∧ bits .xor .u32 a b < 4294967296 := by
  obtain ⟨n, hn, e⟩ := bits_u32 .xor a b
  rw [e]; omega
theorem crcK_in (l : List Nat) : ∀ k, 0 ≤ crcK l k ∧ crcK l k < 4294967296
  | 0 => by simp [crcK]
  | k + 1 => bitsC_in _ (xor_in _ _) 8
def crcN (l : List Nat) : Nat := (bits .xor .u32 IntKind.u32.max (crcK l l.length)).toNat
theorem crcN_is (l : List Nat) : bits .xor .u32 IntKind.u32.max (crcK l l.length) = (crcN l : Int) := by
  have := xor_in IntKind.u32.max (crcK l l.length)
  unfold crcN; omega
set_option maxRecDepth 100000 in
set_option maxHeartbeats 2000000 in
theorem Sum26_any (A : Option Addr) (n c : Nat) (l : List Nat) (w : World) (h : Rd w A n (nums .u8 l)) (hn : n ≤ 1000) (hl : ∀ x ∈ l, x < 256) :
    Calls Try.prog 118 #[.slice A n c] w fun e w' => e = .returned (.int .u32 (crcN l)) ∧ Below w.heap.size w w' := by
  have K := St.start w
  have HL := Lib.hid hl
  have H := Lib.hid h
  have HN : Hid (l.length = n) := Lib.hid (by rw [← h.1, nums_length])
  have HB := Lib.hid (crcK_in l)
  have HS0 : ∀ k, crcK l (k + 1) = bitsC 8 (bits .xor .u32 (crcK l k) (l.getD k 0)) := fun _ => rfl
  have HS := Lib.hid HS0
  have HE := Lib.hid (crcN_is l)
  have H0 : crcK l 0 = 4294967295 := rfl
  clear h hl HS0
  go_enter Try.func118, Try.ntmps118
  go_wp2_with (first|go_big_skip|((with_reducible refine at_load ?_);first|(refine wm_own (cs := ?_) (t := ?_) (v := ?_) K rfl _ _ rfl rfl ?_ ?_ ?_ ?_;rotate_left 2;(repeat (first|exact At.hd|refine At.tl ?_));rotate_left;(first|exact rfl|assumption);(with_reducible first|exact one5))|(refine wm_cell (v := ?_) rfl _ _ rfl rfl ?_ ?_ ?_;rotate_left;(first|assumption|exact (K.below.cell (by assumption)).trans (by assumption));(with_reducible first|exact one5)))|((with_reducible refine at_store ?_);first|(refine wm_put (L' := ?_) (cs := ?_) (new := ?_) (t := ?_) K rfl _ _ _ rfl rfl rfl rfl ?_ ?_ ?_ ?_ rfl rfl ?_;rotate_left 4;(repeat (first|exact Put.hd|(refine Put.tl (L' := ?_) ?_;rotate_left)));(solve|exact Nat.le_of_ble_eq_true rfl|decide|(simp only [List.size_toArray, nums_length];first|assumption|omega)|(simp only [List.size_toArray, nums_length, List.length_set];first|assumption|omega)|simp|omega|(simp only [List.size_toArray, nums_length];omega)|assumption);(solve|(simp only [List.setIfInBounds_toArray];exact rfl)|exact nums_set _ _ _ _|simp only [List.setIfInBounds_toArray, List.set_cons_zero]|simp only [List.setIfInBounds_toArray, List.set_cons_zero, List.set_cons_succ]|(simp only [List.setIfInBounds_toArray, List.set_cons_zero, List.set_cons_succ];exact rfl)|exact rfl);(with_reducible first|exact one5);(try clear K);(try clear ww);intro ww K;(try simp [go_sem] at K))))
  go_loopw [3, 8] (fun r j wr => ∃ (i : Nat), i ≤ n ∧ j = .int .i64 i ∧ r = .int .u32 (crcK l i) ∧ St w.heap.size w [] Any wr) (fun _ j _ => n - (intOf j).toNat)
  case atStart => exact ⟨0, Nat.zero_le _, rfl, by rw [H0], K⟩
  case round =>
    clear K H0
    obtain ⟨i, hi, rfl, rfl, K⟩ := hrel
    by_cases hlt : i < n
    · obtain ⟨b, off, rfl, hb, hc⟩ := H.out.get hlt
      have hv := hc i _ (nums_get .u8 _ i (by rw [HN.out]; exact hlt))
      have hil : i < l.length := by rw [HN.out]; exact hlt
      have hx : l.getD i 0 < 256 := by
        rw [List.getD, List.getElem?_eq_getElem hil]
        exact HL.out _ (List.getElem_mem _)
      have hs := HS.out i
      have hr := HB.out i
      have BB := Lib.hid (fun w => byte26 (bits .xor .u32 (crcK l i) (l.getD i 0)) w (xor_in _ _))
      rw [← hs] at BB
      clear hs
      generalize crcK l i = r at *
      generalize l.getD i 0 = x at *
      clear hc
      obtain ⟨m, rfl⟩ : ∃ m : Nat, r = m := ⟨r.toNat, by omega⟩
      have ht : decide ((i : Int) < n) = true := decide_eq_true (by omega)
      have ex : IntKind.u32.wrap (x : Int) = x := IntWalk.u32_in _ (by omega)
      go_wp2_with (first|go_big_skip|((with_reducible refine at_load ?_);first|(refine wm_own (cs := ?_) (t := ?_) (v := ?_) K rfl _ _ rfl rfl ?_ ?_ ?_ ?_;rotate_left 2;(repeat (first|exact At.hd|refine At.tl ?_));rotate_left;(first|exact rfl|assumption);(with_reducible first|exact one5))|(refine wm_cell (v := ?_) rfl _ _ rfl rfl ?_ ?_ ?_;rotate_left;(first|assumption|exact (K.below.cell (by assumption)).trans (by assumption));(with_reducible first|exact one5)))|((with_reducible refine at_store ?_);first|(refine wm_put (L' := ?_) (cs := ?_) (new := ?_) (t := ?_) K rfl _ _ _ rfl rfl rfl rfl ?_ ?_ ?_ ?_ rfl rfl ?_;rotate_left 4;(repeat (first|exact Put.hd|(refine Put.tl (L' := ?_) ?_;rotate_left)));(solve|exact Nat.le_of_ble_eq_true rfl|decide|(simp only [List.size_toArray, nums_length];first|assumption|omega)|(simp only [List.size_toArray, nums_length, List.length_set];first|assumption|omega)|simp|omega|(simp only [List.size_toArray, nums_length];omega)|assumption);(solve|(simp only [List.setIfInBounds_toArray];exact rfl)|exact nums_set _ _ _ _|simp only [List.setIfInBounds_toArray, List.set_cons_zero]|simp only [List.setIfInBounds_toArray, List.set_cons_zero, List.set_cons_succ]|(simp only [List.setIfInBounds_toArray, List.set_cons_zero, List.set_cons_succ];exact rfl)|exact rfl);(with_reducible first|exact one5);(try clear K);(try clear ww);intro ww K;(try simp [go_sem] at K)))|(go_at_call 125;(with_reducible refine (BB.out _).mono ?_);rintro e w2 ⟨rfl, k1⟩;replace K := K.step k1;clear k1;(try clear ww);revert w2;intro ww K))
      exact ⟨⟨i + 1, by omega, by go_num, rfl, K⟩, by simp [intOf]; omega⟩
    · obtain rfl : n = i := by omega
      have ht : decide ((n : Int) < n) = false := decide_eq_false (by omega)
      have he := HE.out
      rw [HN.out] at he
      have hr := HB.out n
      generalize crcK l n = r at *
      obtain ⟨m, rfl⟩ : ∃ m : Nat, r = m := ⟨r.toNat, by omega⟩
      have HE2 := Lib.hid he
      clear he
      go_wp2_with (first|go_big_skip|((with_reducible refine at_load ?_);first|(refine wm_own (cs := ?_) (t := ?_) (v := ?_) K rfl _ _ rfl rfl ?_ ?_ ?_ ?_;rotate_left 2;(repeat (first|exact At.hd|refine At.tl ?_));rotate_left;(first|exact rfl|assumption);(with_reducible first|exact one5))|(refine wm_cell (v := ?_) rfl _ _ rfl rfl ?_ ?_ ?_;rotate_left;(first|assumption|exact (K.below.cell (by assumption)).trans (by assumption));(with_reducible first|exact one5)))|((with_reducible refine at_store ?_);first|(refine wm_put (L' := ?_) (cs := ?_) (new := ?_) (t := ?_) K rfl _ _ _ rfl rfl rfl rfl ?_ ?_ ?_ ?_ rfl rfl ?_;rotate_left 4;(repeat (first|exact Put.hd|(refine Put.tl (L' := ?_) ?_;rotate_left)));(solve|exact Nat.le_of_ble_eq_true rfl|decide|(simp only [List.size_toArray, nums_length];first|assumption|omega)|(simp only [List.size_toArray, nums_length, List.length_set];first|assumption|omega)|simp|omega|(simp only [List.size_toArray, nums_length];omega)|assumption);(solve|(simp only [List.setIfInBounds_toArray];exact rfl)|exact nums_set _ _ _ _|simp only [List.setIfInBounds_toArray, List.set_cons_zero]|simp only [List.setIfInBounds_toArray, List.set_cons_zero, List.set_cons_succ]|(simp only [List.setIfInBounds_toArray, List.set_cons_zero, List.set_cons_succ];exact rfl)|exact rfl);(with_reducible first|exact one5);(try clear K);(try clear ww);intro ww K;(try simp [go_sem] at K))))
      go_ret
      exact ⟨by rw [← HE2.out]; rfl, K.below⟩
end Go.Proofs.Ytpejoaefnnbghaa
