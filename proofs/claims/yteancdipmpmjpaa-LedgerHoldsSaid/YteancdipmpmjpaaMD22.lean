/-
  Lemmas and walks of this claim (the texts C16 of the work; what no proof here uses is left out). No claim of their own.
-/
import Derived.Test.YteancdipmpmjpaaMD20
import Derived.Test.YteancdipmpmjpaaMD2
import Derived.Lib.ItoaNum
import Derived.Lib.SliceRun
set_option linter.all false
set_option linter.unusedSimpArgs false
set_option linter.unusedVariables false
namespace Go.Proofs.Yteancdipmpmjpaa
open Go.RowKit
set_option maxRecDepth 100000
set_option linter.unusedVariables false

theorem Sl.of_row {w : World} {base n : Nat} {e : TypeId} {v : Value} {xs : List Value} (h : w.ownsRow base e 1 v n xs) : ∃ A c, v = .slice A n c ∧ Sl w e A n xs ∧ n ≤ c ∧ c ≤ 9223372036854775807 ∧ Nw base A := by
  rcases h.2 with ⟨rfl, rfl⟩ | ⟨g, cap, cur, rfl, hg, hh, h1, h2, h3, h4⟩
  · have : xs = [] := List.length_eq_zero_iff.1 (by simpa using h.1)
    subst this
    exact ⟨none, 0, rfl, Sl.nil _ _ _, Nat.le_refl _, by omega, fun b off p e => by cases e⟩
  · exact ⟨_, cap, rfl, Sl.of_own h, h1, by unfold maxLen at h2; omega, Nw.mk _ _ _ hg⟩

set_option maxHeartbeats 1000000 in
set_option maxRecDepth 100000 in
theorem Clone_ownR (A : Option Addr) (n c : Nat) (xs : List Value) (w : World) (h : Rd w A n xs) (hn : n ≤ 1000000) (h1 : ∀ u ∈ xs, u.oneCell' = true) :
    Calls Try.prog 126 #[.slice A n c] w fun e w' => ∃ v', e = .returned v' ∧ w'.ownsRow w.heap.size 24 1 v' n xs ∧ Below w.heap.size w w' := by
  rcases A with _ | a
  · have hl := h.1
    have h0 : n = 0 := by
      rcases Nat.eq_zero_or_pos n with h0 | h0
      · exact h0
      · obtain ⟨_, _, e, _⟩ := h.2 h0; cases e
    subst h0
    have e : xs = [] := List.length_eq_zero_iff.1 hl
    subst e
    first | refine (Try.slices_Clone_nil 0 c w).mono ?_ | refine (Try.slices_Clone_nil_f126 0 c w).mono ?_
    rintro e w' ⟨rfl, rfl⟩
    exact ⟨_, rfl, ⟨rfl, .inl ⟨rfl, rfl⟩⟩, Below.refl _ _⟩
  · obtain ⟨i0, hi, hz0, hz1, hz2⟩ := info_parts infoU
    have HN := Lib.hid (show ∀ (j : Nat) (u : Value), xs[j]? = some u → w.cell? (a.add j) = some u from fun j u hj => by
      have hj' := (List.getElem?_eq_some_iff.1 hj).1
      rw [h.1] at hj'
      obtain ⟨b, off, e, hb, hc⟩ := h.get hj'
      injection e with e
      subst e
      rw [Addr.add_mid]
      exact hc j u hj)
    have HL := Lib.hid (show xs.length = n * 1 by rw [h.1]; omega)
    have H1 := Lib.hid h1
    have q := fun (w : World) (a : Option Addr) (n c n' c' : Nat) => Lib.run_eql_slice_nil (P := Try.prog) w 106 24 a n c n' c' Try.underlying106
    clear h h1
    go_enter Try.func126, Try.ntmps126
    go_wp2_with (at_builtin; refine wpList_append_own _ rfl _ _ 106 rfl w.heap.size 24 i0 (.int .u32 0) 1 4 Try.underlying106 hi hz0 hz1 hz2 rfl (by decide) _ _ _ rfl (World.ownsRow_made w #[] 0 (Nat.le_refl _) (Nat.zero_le _) rfl) a n c xs rfl HL.out ?qc2 H1.out ?qc4 ?qc5 ?qc6 ?_)
    case qc2 =>
      intro j u hj
      exact Lib.cell?_alloc_some _ (HN.out j u hj)
    case qc4 => unfold maxLen; omega
    case qc5 => omega
    case qc6 => simp
    intro v' w1 hown hgrow hnil
    clear hnil
    have HO := Lib.hid hown
    have HG := Lib.hid hgrow
    clear hown hgrow
    go_wp2
    go_ret
    refine ⟨_, rfl, by simpa using HO.out, ?_⟩
    exact ((Below.refl _ w).alloc (Nat.le_refl _) _).grown HG.out (by simp) (by intro k hk; simp [Value.ownBlock] at hk; omega)

theorem Clone_own (A : Option Addr) (n c : Nat) (xs : List Value) (w : World) (h : Sl w 24 A n xs) (hn : n ≤ 1000000) (h1 : ∀ u ∈ xs, u.oneCell' = true) :
    Calls Try.prog 126 #[.slice A n c] w fun e w' => ∃ v', e = .returned v' ∧ w'.ownsRow w.heap.size 24 1 v' n xs ∧ Below w.heap.size w w' := Clone_ownR A n c xs w h.rd hn h1
theorem Clone_any (A : Option Addr) (n c : Nat) (xs : List Value) (w : World) (h : Sl w 24 A n xs) (hn : n ≤ 1000000) (h1 : ∀ u ∈ xs, u.oneCell' = true) :
    Calls Try.prog 126 #[.slice A n c] w fun e w' => ∃ A' c', e = .returned (.slice A' n c') ∧ Sl w' 24 A' n xs ∧ n ≤ c' ∧ c' ≤ 9223372036854775807 ∧ Nw w.heap.size A' ∧ Below w.heap.size w w' := by
  refine (Clone_own A n c xs w h hn h1).mono ?_
  rintro e w' ⟨v', rfl, ho, hb⟩
  obtain ⟨A', c', rfl, hs, h2, h3, h4⟩ := Sl.of_row ho
  exact ⟨A', c', rfl, hs, h2, h3, h4, hb⟩


theorem NParts_any (A : Option Addr) (n c X : Nat) (w : World) (h : Nt w A n c X) (hn : n ≤ 1000000) :
    Calls Try.prog 99 #[.agg #[.slice A n c]] w fun e w' => ∃ A' c', e = .returned (.slice A' n c') ∧ Sl w' 24 A' n (nums .u32 (digs 4294967296 X)) ∧ n ≤ c' ∧ Nw w.heap.size A' ∧ Below w.heap.size w w' := by
  have K := St.start w
  go_enter Try.func99, Try.ntmps99
  go_wp2_with (first|((with_reducible refine at_load ?_);first|(refine wm_own (cs := ?_) (t := ?_) (v := ?_) K rfl _ _ rfl rfl ?_ ?_ ?_ ?_;rotate_left 2;(repeat (exact At.hd));rotate_left;(exact rfl);(with_reducible first|exact one106)))|((first|((with_reducible refine at_box ?_);refine wm_box K rfl _ _ rfl rfl rfl ?_));(try clear K);(try clear ww);((fail_if_success (have _h := b1));intro b1 ww K);(try simp [go_sem, Value.cells] at K)))
  refine (Clone_any A n c _ ww (h.1.below K.below) hn (nums_ones _ _)).mono ?_
  rintro e w2 ⟨A', c', rfl, hs, hc1, hc2, hA, g⟩
  replace hA := Lib.hid (hA.mono K.size)
  have G := Lib.hid (K.step g)
  have HS := Lib.hid hs
  clear g K hs
  dsimp only
  go_wp2
  go_ret
  exact ⟨A', c', rfl, HS.out, hc1, hA.out, G.out.below⟩

theorem len_le {X k : Nat} (n : Nat) (h : X < 4294967296 ^ k) (hl : n = (digs 4294967296 X).length) : n ≤ k := by rw [hl, digs_len (by omega)]; exact h

theorem Nt.small {w : World} {A : Option Addr} {n c x : Nat} (h : Nt w A n c x) (hx : x ≤ 18446744073709551615) : n ≤ 1000000 := Nat.le_trans (len_le (k := 2) _ (by omega) h.len) (by omega)

theorem Times_nat (A : Option Addr) (n c X x : Nat) (w : World) (h : Nt w A n c X) (hn : n ≤ 1000000) (hx : x ≤ 18446744073709551615) :
    Calls Try.prog 77 #[.agg #[.slice A n c], .int .u64 x] w fun e w' => ∃ A' k, e = .returned (.agg #[.slice A' k k]) ∧ Nt w' A' k k (X * x) ∧ Nw w.heap.size A' ∧ Below w.heap.size w w' := by
  have K := St.start w
  have H := Lib.hid h
  clear h
  go_enter Try.func77, Try.ntmps77
  go_wp2_with (first|((first|((with_reducible refine at_box ?_);refine wm_box K rfl _ _ rfl rfl rfl ?_)|((with_reducible refine at_alloc ?_);refine wm_alloc (v := ?_) (cs := ?_) K rfl _ rfl ?_ ?_ ?_;rotate_left;(with_reducible first|exact zero108);rotate_left;exact rfl));(try clear K);(try clear ww);(first|((fail_if_success (have _h := b1));intro b1 ww K)|((fail_if_success (have _h := b2));intro b2 ww K));(try simp [go_sem, Value.cells] at K)))
  refine wm_held _ [(true, 0), (true, 1), (false, 2), (false, 3), (false, 4)] K sbc1 (by kernel_rfl) (by kernel_rfl) ?_; (try clear K); (try clear ww); intro ww K; (try simp [go_sem] at K); simp only [pick, List.getElem?_toArray, List.getElem?_cons_succ, List.getElem?_cons_zero]
  repeat (first|((with_reducible refine ht_load ?_);first|(refine hm_load (cs := ?_) (t := ?_) (n := ?_) rfl _ _ rfl rfl ?_ ?_ ?_ ?_;rotate_left 2;(repeat (exact At.hd));rotate_left;(with_reducible first|exact row108);(exact rfl)))|(refine held_take (fun K' hK' => ?_);go_simp;first|(apply Exists.intro;refine ⟨?_, hK' _ ?_⟩;(intro _ _;rfl);clear hK' K'))|((with_reducible refine ht_store ?_);first|(refine hm_store (L' := ?_) (cs := ?_) (t := ?_) (n := ?_) K rfl _ _ _ rfl rfl rfl rfl ?_ ?_ ?_ ?_ ?_ ?_;rotate_left 3;(repeat (exact Put.hd));rotate_left;(with_reducible first|exact row108);(exact rfl);(exact rfl);(simp [Ones, Value.oneCell']);(try clear K);(try clear ww);intro ww K;(try simp [go_sem] at K);refine ⟨(by apply via sbc1;first|exact K.weak wk2), ?_⟩))|(refine held_do (fun K' hK' => ?_);go_simp;go_at_call 65;(with_reducible refine (Of_nat x _ hx).mono ?_);rintro e w2 ⟨_, _, rfl, hn, hA, g⟩;(try dsimp only);have KS := K.step g;refine hK' _ _ (by apply via sbc1;first|exact KS) ?_;replace K := K.madeNt g hn hA;clear hK' K' g hn hA KS;(try clear ww);revert w2;intro ww K)|(refine held_do (fun K' hK' => ?_);go_simp;go_at_call 78;(with_reducible refine (Mul_nat _ _ _ _ _ _ _ _ _ (H.out.below K.below) K.fact.1.1 hn (K.fact.1.1.small hx)).mono ?_);rintro e w2 ⟨_, _, rfl, hn, hA, g⟩;(try dsimp only);have KS := K.step g;refine hK' _ _ (by apply via sbc1;first|exact KS.weak wk1) ?_;replace K := K.madeNt g hn hA;clear hK' K' g hn hA KS;(try clear ww);revert w2;intro ww K))
  refine held_nil ?_
  go_wp2
  refine bodyPost_ret (K.res (cs := ?_) (t := ?_) (n := ?_) rfl _ rfl ?_ ?_ ?_) rfl ?_;rotate_left 2;(repeat (exact At.hd));rotate_left;(with_reducible first|exact row108);(exact rfl)
  exact ⟨_, _, rfl, K.fact.1.1, K.fact.1.2, K.below⟩

def blen (X : Nat) : Nat := if X = 0 then 0 else Nat.log2 X + 1
theorem blen_lt (X : Nat) : X < 2 ^ blen X := by
  unfold blen
  split
  · rename_i h; subst h; simp
  · exact Nat.lt_log2_self
theorem blen_le (X : Nat) (h : X ≠ 0) : 2 ^ (blen X - 1) ≤ X := by
  unfold blen
  rw [if_neg h]
  exact Nat.log2_self_le h
theorem blen_of {X k : Nat} (h1 : 2 ^ k ≤ X) (h2 : X < 2 ^ (k + 1)) : blen X = k + 1 := by
  have h0 : X ≠ 0 := by have := Nat.two_pow_pos k; omega
  have a1 := blen_lt X
  have a2 := blen_le X h0
  have b1 : k < blen X := (Nat.pow_lt_pow_iff_right (by omega)).1 (Nat.lt_of_le_of_lt h1 a1)
  have b2 : blen X - 1 < k + 1 := (Nat.pow_lt_pow_iff_right (by omega)).1 (Nat.lt_of_le_of_lt a2 h2)
  omega
theorem blen_small {X k : Nat} (h : X < 2 ^ k) : blen X ≤ k := by
  by_cases h0 : X = 0
  · subst h0; simp [blen]
  · have a2 := blen_le X h0
    have b2 : blen X - 1 < k := (Nat.pow_lt_pow_iff_right (by omega)).1 (Nat.lt_of_le_of_lt a2 h)
    omega
theorem bitLen_eq (x : Nat) (h : x < 2 ^ 64) (h0 : x ≠ 0) : Lib.bitLen x = blen x := by
  obtain ⟨h1, h2, h3⟩ := Lib.bitLenAux_bounds 64 x h h0
  show Lib.bitLenAux 64 x = _
  obtain ⟨j, hj⟩ : ∃ j, Lib.bitLenAux 64 x = j + 1 := ⟨_, (Nat.sub_add_cancel h1).symm⟩
  rw [hj] at h2 h3 ⊢
  exact (blen_of h2 h3).symm
theorem blen_top (X n : Nat) (h : n = (digs 4294967296 X).length) (h0 : X ≠ 0) : 0 < n ∧ X / 4294967296 ^ (n - 1) % 4294967296 ≠ 0 ∧ blen X = 32 * (n - 1) + blen (X / 4294967296 ^ (n - 1) % 4294967296) := by
  have hn : 0 < n := by
    rcases Nat.eq_zero_or_pos n with h1 | h1
    · rw [h1] at h; exact absurd ((digs_ne (by omega)).1 (List.length_eq_zero_iff.1 h.symm)) h0
    · exact h1
  have hlim := digs_le (b := 4294967296) (by omega) X
  have hge : 4294967296 ^ (n - 1) ≤ X := by
    rcases Nat.lt_or_ge X (4294967296 ^ (n - 1)) with h1 | h1
    · have := (digs_len (b := 4294967296) (by omega) X (n - 1)).2 h1; omega
    · exact h1
  rw [← h] at hlim
  obtain ⟨k, rfl⟩ : ∃ k, n = k + 1 := ⟨n - 1, by omega⟩
  simp only [Nat.add_sub_cancel] at hge ⊢
  have hd := Nat.div_add_mod X (4294967296 ^ k)
  have hm := Nat.mod_lt X (Nat.pow_pos (n := k) (show 0 < 4294967296 by omega))
  have ht : X / 4294967296 ^ k < 4294967296 := Nat.div_lt_of_lt_mul (by rw [← Nat.pow_succ]; exact hlim)
  rw [Nat.mod_eq_of_lt ht]
  have hpos : 0 < X / 4294967296 ^ k := Nat.div_pos hge (Nat.pow_pos (by omega))
  refine ⟨hn, by omega, ?_⟩
  have t1 := blen_lt (X / 4294967296 ^ k)
  have t2 := blen_le (X / 4294967296 ^ k) (by omega)
  have e : (4294967296 : Nat) ^ k = 2 ^ (32 * k) := by rw [Nat.pow_mul]
  obtain ⟨j, hj⟩ : ∃ j, blen (X / 4294967296 ^ k) = j + 1 := by
    refine ⟨blen (X / 4294967296 ^ k) - 1, ?_⟩
    have : blen (X / 4294967296 ^ k) ≠ 0 := by unfold blen; rw [if_neg (by omega)]; omega
    omega
  rw [hj] at t1 t2 ⊢
  simp only [Nat.add_sub_cancel] at t2
  generalize X / 4294967296 ^ k = t at *
  generalize X % 4294967296 ^ k = r at *
  rw [show 32 * k + (j + 1) = (32 * k + j) + 1 by omega]
  refine blen_of ?_ ?_
  · rw [← hd, Nat.pow_add, ← e]
    have := Nat.mul_le_mul_left (4294967296 ^ k) t2
    omega
  · rw [← hd, Nat.add_assoc, Nat.pow_add, ← e]
    have := Nat.mul_le_mul_left (4294967296 ^ k) (show t + 1 ≤ 2 ^ (j + 1) by omega)
    rw [Nat.mul_add] at this
    omega

theorem Bits_nat (A : Option Addr) (n c X : Nat) (w : World) (h : Nt w A n c X) (hn : n ≤ 1000000) :
    Calls Try.prog 134 #[.agg #[.slice A n c]] w fun e w' => e = .returned (.int .i64 (blen X)) ∧ Below w.heap.size w w' := by
  have K := St.start w
  have Z := Lib.hid (fun W u => Zero_any A n c X W u)
  by_cases h0 : X = 0
  · have ht : decide (X = 0) = true := decide_eq_true h0
    have H := Lib.hid h
    have E : Hid (blen X = 0) := Lib.hid (by unfold blen; rw [if_pos h0])
    clear h h0
    go_enter Try.func134, Try.ntmps134
    go_wp2_with (first|((with_reducible refine at_load ?_);first|(refine wm_load (cs := ?_) (t := ?_) (n := ?_) K rfl _ _ rfl rfl ?_ ?_ ?_ ?_;rotate_left 2;(repeat (exact At.hd));rotate_left;(with_reducible first|exact row108);(exact rfl)))|((first|((with_reducible refine at_box ?_);refine wm_box K rfl _ _ rfl rfl rfl ?_));(try clear K);(try clear ww);((fail_if_success (have _h := g1));intro g1 ww K);(try simp [go_sem, Value.cells] at K))|(go_at_call 74;(with_reducible refine (Z.out _ (H.out.below K.below)).mono ?_);rintro e w2 ⟨rfl, k1⟩;replace K := K.step k1;clear k1;(try clear ww);revert w2;intro ww K))
    go_ret
    exact ⟨by rw [E.out]; rfl, K.below⟩
  · have ht : decide (X = 0) = false := decide_eq_false h0
    obtain ⟨hpos, ht0, hb⟩ := blen_top X n h.len h0
    have H := Lib.hid h
    obtain ⟨b, off, rfl, hbb, hv⟩ := h.at (k := n - 1) (by omega)
    have hlt := Nat.mod_lt (X / 4294967296 ^ (n - 1)) (show 0 < 4294967296 by omega)
    generalize X / 4294967296 ^ (n - 1) % 4294967296 = t at *
    have L32 : Hid (∀ W, _) := Lib.hid fun W => Try.bits_Len32 (t : Int) W (by omega) (by omega)
    rw [Int.toNat_natCast, bitLen_eq t (by omega) ht0] at L32
    have bs : blen t ≤ 32 := blen_small (by omega)
    have E := Lib.hid hb
    clear h h0 hb ht0
    obtain ⟨k, rfl⟩ : ∃ k, n = k + 1 := ⟨n - 1, by omega⟩
    simp only [Nat.add_sub_cancel] at hv E
    go_enter Try.func134, Try.ntmps134
    go_wp2_with (first|((with_reducible refine at_load ?_);first|(refine wm_load (cs := ?_) (t := ?_) (n := ?_) K rfl _ _ rfl rfl ?_ ?_ ?_ ?_;rotate_left 2;(repeat (exact At.hd));rotate_left;(with_reducible first|exact row108);(exact rfl)))|((first|((with_reducible refine at_box ?_);refine wm_box K rfl _ _ rfl rfl rfl ?_));(try clear K);(try clear ww);((fail_if_success (have _h := g1));intro g1 ww K);(try simp [go_sem, Value.cells] at K))|(go_at_call 74;(with_reducible refine (Z.out _ (H.out.below K.below)).mono ?_);rintro e w2 ⟨rfl, k1⟩;replace K := K.step k1;clear k1;(try clear ww);revert w2;intro ww K))
    have hkk : (k : Int) < (k : Int) + 1 := by omega
    have e1 : IntKind.i64.wrap (k : Int) = (k : Int) := IntWalk.i64_in _ (by omega)
    have e2 : IntKind.i64.wrap (32 * (k : Int)) = 32 * (k : Int) := IntWalk.i64_in _ (by omega)
    have e3 : IntKind.i64.wrap (32 * (k : Int) + (blen t : Int)) = 32 * (k : Int) + (blen t : Int) := IntWalk.i64_in _ (by omega)
    refine wm_held _ [(true, 0), (true, 1), (true, 2), (true, 3), (true, 4), (true, 5), (true, 6), (true, 7), (true, 8), (true, 9), (true, 10), (true, 11), (true, 12), (false, 13), (true, 14), (true, 15)] K sbr (by kernel_rfl) (by kernel_rfl) ?_; (try clear K); (try clear ww); intro ww K; (try simp [go_sem] at K); simp only [pick, List.getElem?_toArray, List.getElem?_cons_succ, List.getElem?_cons_zero]
    repeat (first|((with_reducible refine ht_load ?_);first|(refine hm_own (cs := ?_) (t := ?_) (v := ?_) rfl _ _ rfl rfl ?_ ?_ ?_ ?_;rotate_left 2;(repeat (first|exact At.hd|refine At.tl ?_));rotate_left;(exact rfl);(with_reducible first|exact one106))|(refine hm_cell (v := ?_) rfl _ _ rfl rfl (fun ww K => ?_) ?_ ?_;rotate_left;(first|exact (K.below.cell (by assumption)).trans (by assumption));(with_reducible first|exact one24)))|(refine held_take (fun K' hK' => ?_);go_simp;first|(apply Exists.intro;refine ⟨?_, hK' _ ?_⟩;(intro _ _;rfl);clear hK' K'))|(refine held_do (fun K' hK' => ?_);go_simp;go_at_call 137;(with_reducible refine (L32.out _).mono ?_);rintro e w2 ⟨rfl, k1⟩;replace K := K.step (by first|exact below_of_eq k1.symm);clear k1;(try clear ww);revert w2;intro ww K;(try dsimp only);refine hK' _ _ (by apply via sbr;first|exact K) ?_;clear hK' K'))
    refine held_nil ?_
    clear e1 e2 e3
    go_wp2
    go_ret
    exact ⟨by rw [E.out]; rfl, K.below⟩
end Go.Proofs.Yteancdipmpmjpaa
