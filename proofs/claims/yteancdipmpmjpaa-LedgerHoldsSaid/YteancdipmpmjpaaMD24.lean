/-
  Lemmas and walks of this claim (the texts Sh16 Sr16 Dv16 of the work; what no proof here uses is left out). No claim of their own.
-/
import Derived.Test.YteancdipmpmjpaaMD22
import Derived.Test.YteancdipmpmjpaaMD1
import Derived.Test.YteancdipmpmjpaaMD11
import Derived.Test.YteancdipmpmjpaaMD8
set_option linter.all false
set_option linter.unusedSimpArgs false
set_option linter.unusedVariables false
namespace Go.Proofs.Yteancdipmpmjpaa
open Go.RowKit
set_option maxRecDepth 100000
set_option linter.unusedVariables false

theorem Shl_same (A : Option Addr) (n c X : Nat) (s : Int) (w : World) (h : Nt w A n c X) (hs : s < 1 ∨ X = 0) (hs2 : s ≤ 1000000) :
    Calls Try.prog 80 #[.agg #[.slice A n c], .int .i64 s] w fun e w' => e = .returned (.agg #[.slice A n c]) ∧ Below w.heap.size w w' := by
  have K := St.start w
  have Z := Lib.hid (fun W u => Zero_any A n c X W u)
  have H := Lib.hid h
  clear h
  by_cases h1 : s < 1
  · have ht : decide (s < 1) = true := decide_eq_true h1
    go_enter Try.func80, Try.ntmps80
    go_wp2_with (first|go_big_skip|((with_reducible refine at_load ?_);first|(refine wm_load (cs := ?_) (t := ?_) (n := ?_) K rfl _ _ rfl rfl ?_ ?_ ?_ ?_;rotate_left 2;(repeat (first|exact At.hd|refine At.tl ?_));rotate_left;(with_reducible first|exact row108);(exact rfl)))|((with_reducible refine at_store ?_);(first|(refine wm_store (L' := ?_) (cs := ?_) (t := ?_) (n := ?_) K rfl _ _ _ rfl rfl rfl rfl ?_ ?_ ?_ ?_ ?_ ?_;rotate_left 3;(repeat (exact Put.hd));rotate_left;(with_reducible first|exact row108);(exact rfl);(exact rfl);(simp [Ones, Value.oneCell'])));(try clear K);(try clear ww);intro ww K;(try simp [go_sem] at K))|((first|((with_reducible refine at_box ?_);refine wm_box K rfl _ _ rfl rfl rfl ?_)|((with_reducible refine at_alloc ?_);refine wm_alloc (v := ?_) (cs := ?_) K rfl _ rfl ?_ ?_ ?_;rotate_left;(with_reducible first|exact zero108);rotate_left;exact rfl));(try clear K);(try clear ww);(first|((fail_if_success (have _h := b1));intro b1 ww K)|((fail_if_success (have _h := b2));intro b2 ww K));(try simp [go_sem, Value.cells] at K)))
    refine bodyPost_ret (K.res (cs := ?_) (t := ?_) (n := ?_) rfl _ rfl ?_ ?_ ?_) rfl ?_;rotate_left 2;(repeat (exact At.hd));rotate_left;(with_reducible first|exact row108);(exact rfl)
    exact ⟨rfl, K.below⟩
  · have ht : decide (s < 1) = false := decide_eq_false h1
    have h0 : decide (X = 0) = true := decide_eq_true (by omega)
    go_enter Try.func80, Try.ntmps80
    go_wp2_with (first|((with_reducible refine at_load ?_);first|(refine wm_load (cs := ?_) (t := ?_) (n := ?_) K rfl _ _ rfl rfl ?_ ?_ ?_ ?_;rotate_left 2;(repeat (first|exact At.hd|refine At.tl ?_));rotate_left;(with_reducible first|exact row108);(exact rfl)))|((with_reducible refine at_store ?_);(first|(refine wm_store (L' := ?_) (cs := ?_) (t := ?_) (n := ?_) K rfl _ _ _ rfl rfl rfl rfl ?_ ?_ ?_ ?_ ?_ ?_;rotate_left 3;(repeat (exact Put.hd));rotate_left;(with_reducible first|exact row108);(exact rfl);(exact rfl);(simp [Ones, Value.oneCell'])));(try clear K);(try clear ww);intro ww K;(try simp [go_sem] at K))|((first|((with_reducible refine at_box ?_);refine wm_box K rfl _ _ rfl rfl rfl ?_)|((with_reducible refine at_alloc ?_);refine wm_alloc (v := ?_) (cs := ?_) K rfl _ rfl ?_ ?_ ?_;rotate_left;(with_reducible first|exact zero108);rotate_left;exact rfl));(try clear K);(try clear ww);(first|((fail_if_success (have _h := b1));intro b1 ww K)|((fail_if_success (have _h := b2));intro b2 ww K));(try simp [go_sem, Value.cells] at K))|(go_at_call 74;(with_reducible refine (Z.out _ (H.out.below K.below)).mono ?_);rintro e w2 ⟨rfl, k1⟩;replace K := K.step k1;clear k1;(try clear ww);revert w2;intro ww K))
    refine bodyPost_ret (K.res (cs := ?_) (t := ?_) (n := ?_) rfl _ rfl ?_ ?_ ?_) rfl ?_;rotate_left 2;(repeat (exact At.hd));rotate_left;(with_reducible first|exact row108);(exact rfl)
    exact ⟨rfl, K.below⟩

def NShlAt (V s N j : Nat) (o : List Nat) : Prop := o.length = N ∧ (∀ i, i < N → o.getD i 0 = if i ≤ j then V / 4294967296 ^ i % 4294967296 else V * 2 ^ s / 4294967296 ^ i % 4294967296)

def Sh (o : List Nat) (N V : Nat) : Prop := o.length = N ∧ ∀ i, i < N → o.getD i 0 = V / 4294967296 ^ i % 4294967296

theorem or_shift32 (x y r : Nat) (hr : r ≤ 31) (hy : y ≤ 4294967295) : bits .or .u32 (IntKind.u32.wrap ((x : Int) * 2 ^ r)) ((y : Int) / 2 ^ (32 - r)) = ((x * 2 ^ r % 4294967296 + y / 2 ^ (32 - r) : Nat) : Int) := by
  have e1 : IntKind.u32.wrap ((x : Int) * 2 ^ r) = ((x * 2 ^ r % 4294967296 : Nat) : Int) := by
    rw [IntKind.wrap_u32, Int.natCast_emod, Int.natCast_mul, Int.natCast_pow]; rfl
  have e2 : ((y : Int) / 2 ^ (32 - r)) = ((y / 2 ^ (32 - r) : Nat) : Int) := by
    rw [Int.natCast_ediv, Int.natCast_pow]; rfl
  have b2 : y / 2 ^ (32 - r) < 2 ^ r := by
    apply Nat.div_lt_of_lt_mul
    rw [← Nat.pow_add, show 32 - r + r = 32 by omega]
    simp only [Nat.reducePow]; omega
  have e3 : x * 2 ^ r % 4294967296 = 2 ^ r * (x % 2 ^ (32 - r)) := by
    rw [show (4294967296 : Nat) = 2 ^ r * 2 ^ (32 - r) by rw [← Nat.pow_add, show r + (32 - r) = 32 by omega], Nat.mul_comm x, Nat.mul_mod_mul_left]
  have b1 := Nat.mod_lt (x * 2 ^ r) (show 0 < 4294967296 by omega)
  have b3 : y / 2 ^ (32 - r) < 4294967296 := Nat.lt_of_le_of_lt (Nat.div_le_self _ _) (by omega)
  rw [e1, e2, (or32 _ _ b1 b3).1, e3, Nat.two_pow_add_eq_or_of_lt b2]
theorem Sh.moved (X q n : Nat) (o : List Nat) (h : n = (digs 4294967296 X).length) (ho : o = List.replicate q 0 ++ digs 4294967296 X ++ List.replicate 1 0) : Sh o (n + q + 1) (X * 4294967296 ^ q) := by
  have hl : ∀ x ∈ o, x < 4294967296 := by
    intro x hx
    rw [ho] at hx
    simp only [List.mem_append, List.mem_replicate] at hx
    rcases hx with (⟨_, rfl⟩ | hx) | ⟨_, rfl⟩
    · omega
    · exact digs_lt (by omega) _ x hx
    · omega
  have hv : val 4294967296 o = X * 4294967296 ^ q := by
    rw [ho, List.append_assoc, val_append, val_append, val_replicate, val_replicate, val_digs (by omega), List.length_replicate, Nat.mul_zero, Nat.zero_add, Nat.add_zero, Nat.mul_comm]
  refine ⟨by rw [ho, h]; simp; omega, fun i _ => ?_⟩
  rw [← hv, val_get (by omega) o hl]
theorem NShlAt.digit {V s N j i : Nat} {o : List Nat} (h : NShlAt V s N j o) (hi : i < N) : o.getD i 0 ≤ 4294967295 := by
  rw [h.2 i hi]
  split
  · have := Nat.mod_lt (V / 4294967296 ^ i) (show 0 < 4294967296 by omega); omega
  · have := Nat.mod_lt (V * 2 ^ s / 4294967296 ^ i) (show 0 < 4294967296 by omega); omega
theorem NShlAt.step {V s N j : Nat} {o : List Nat} (h : NShlAt V s N (j + 1) o) (hs : s ≤ 31) (hj : j + 1 < N) : NShlAt V s N j (o.set (j + 1) (o.getD (j + 1) 0 * 2 ^ s % 4294967296 + o.getD j 0 / 2 ^ (32 - s))) := by
  refine ⟨by simp [h.1], fun i hi => ?_⟩
  have hg := h.2 i hi
  have h1 := h.2 (j + 1) hj
  have h2 := h.2 j (by omega)
  rw [if_pos (by omega)] at h1 h2
  rcases Nat.lt_trichotomy i (j + 1) with hl | rfl | hl
  · simp only [List.getD, List.getElem?_set_ne (show j + 1 ≠ i by omega)] at hg ⊢
    rw [hg, if_pos (by omega), if_pos (by omega)]
  · rw [if_neg (by omega), h1, h2]
    have := shl_digit 32 s V j (by omega)
    simp only [Nat.reducePow] at this
    rw [this, List.getD, List.getElem?_set_self (by rw [h.1]; exact hj)]
    rfl
  · simp only [List.getD, List.getElem?_set_ne (show j + 1 ≠ i by omega)] at hg ⊢
    rw [hg, if_neg (by omega), if_neg (by omega)]
theorem NShlAt.last {V s N : Nat} {o : List Nat} (h : NShlAt V s N 0 o) (hN : 0 < N) : Sh (o.set 0 (o.getD 0 0 * 2 ^ s % 4294967296)) N (V * 2 ^ s) := by
  refine ⟨by simp [h.1], fun i hi => ?_⟩
  have hg := h.2 i hi
  have h1 := h.2 0 hN
  rw [if_pos (Nat.le_refl _)] at h1
  rcases Nat.eq_zero_or_pos i with rfl | hl
  · have := shl_digit0 32 s V
    simp only [Nat.reducePow] at this
    rw [this, h1, List.getD, List.getElem?_set_self (by rw [h.1]; exact hN)]
    rfl
  · simp only [List.getD, List.getElem?_set_ne (show 0 ≠ i by omega)] at hg ⊢
    rw [hg, if_neg (by omega)]
theorem Sh.lt {V N : Nat} {o : List Nat} (h : Sh o N V) : ∀ x ∈ o, x < 4294967296 := by
  intro x hx
  obtain ⟨i, hi, rfl⟩ := List.mem_iff_getElem.1 hx
  have := h.2 i (by rw [← h.1]; exact hi)
  rw [List.getD, List.getElem?_eq_getElem hi] at this
  simp only [Option.getD_some] at this
  rw [this]
  exact Nat.mod_lt _ (by omega)
theorem Sh.val {V N : Nat} {o : List Nat} (h : Sh o N V) (hV : V < 4294967296 ^ N) : val 4294967296 o = V := val_places (by omega) o V (fun i hi => h.2 i (by rw [← h.1]; exact hi)) (by rw [h.1]; exact hV)

set_option maxHeartbeats 2000000 in
theorem Shl_nat (A : Option Addr) (n c X s : Nat) (w : World) (h : Nt w A n c X) (hn : n ≤ 1000000) (hs1 : 1 ≤ s) (hs2 : s ≤ 1000000) (hX : X ≠ 0) :
    Calls Try.prog 80 #[.agg #[.slice A n c], .int .i64 s] w fun e w' => ∃ A' k, e = .returned (.agg #[.slice A' k k]) ∧ Nt w' A' k k (X * 2 ^ s) ∧ Nw w.heap.size A' ∧ Below w.heap.size w w' := by
  have K := St.start w
  have Z := Lib.hid (fun W u => Zero_any A n c X W u)
  have hpos := (blen_top X n h.len hX).1
  obtain ⟨b, off, rfl, hbb, hcc⟩ := h.1.rd.get (k := 0) hpos
  have HC := Lib.hid hcc
  have H := Lib.hid h
  have ht : decide ((s : Int) < 1) = false := decide_eq_false (by omega)
  have h0 : decide (X = 0) = false := decide_eq_false hX
  obtain ⟨q, hq⟩ : ∃ q : Nat, q = s / 32 := ⟨_, rfl⟩
  have eq1 : (s : Int) / 32 = (q : Int) := by omega
  have hq2 : q ≤ 1000000 := by omega
  have HQ := Lib.hid hq
  clear hq hX hcc
  go_enter Try.func80, Try.ntmps80
  go_wp2_with (first|((with_reducible refine at_load ?_);first|(refine wm_load (cs := ?_) (t := ?_) (n := ?_) K rfl _ _ rfl rfl ?_ ?_ ?_ ?_;rotate_left 2;(repeat (first|exact At.hd|refine At.tl ?_));rotate_left;(with_reducible first|exact row108);(exact rfl))|(refine wm_own (cs := ?_) (t := ?_) (v := ?_) K rfl _ _ rfl rfl ?_ ?_ ?_ ?_;rotate_left 2;(repeat (first|exact At.hd|refine At.tl ?_));rotate_left;(exact rfl);(with_reducible first|exact one106)))|((first|((with_reducible refine at_box ?_);refine wm_box K rfl _ _ rfl rfl rfl ?_)|((with_reducible refine at_alloc ?_);refine wm_alloc (v := ?_) (cs := ?_) K rfl _ rfl ?_ ?_ ?_;rotate_left;(with_reducible first|exact zero108);rotate_left;exact rfl));(try clear K);(try clear ww);(first|((fail_if_success (have _h := b1));intro b1 ww K)|((fail_if_success (have _h := b2));intro b2 ww K));(try simp [go_sem, Value.cells] at K))|(go_at_call 74;(with_reducible refine (Z.out _ (H.out.below K.below)).mono ?_);rintro e w2 ⟨rfl, k1⟩;replace K := K.step k1;clear k1;(try clear ww);revert w2;intro ww K)|((with_reducible refine at_makeSl ?_);refine wm_make K rfl _ _ _ rfl Try.underlying106 num24 (n + q + 1) rfl rfl (by omega) (by omega) (by omega) (by omega) ?_;(try clear K);(try clear ww);intro b3 ww K))
  have hq3 : (q : Int) ≤ (n : Int) + (q : Int) + 1 := by omega
  have hq4 : ((n + q + 1 : Nat) : Int) - (q : Int) = (n : Int) + 1 := by omega
  have hq5 : n + q + 1 - q = n + 1 := by omega
  have e1 : IntKind.i64.wrap (q : Int) = (q : Int) := IntWalk.i64_in _ (by omega)
  have hq6 : ¬ (n + q + 1 = q) := by omega
  obtain ⟨ds, hds⟩ : ∃ ds, ds = digs 4294967296 X := ⟨_, rfl⟩
  have hdl : n = ds.length := by rw [hds]; exact H.out.len
  obtain ⟨o, ho⟩ : ∃ o, o = List.replicate q 0 ++ ds ++ List.replicate 1 0 := ⟨_, rfl⟩
  have hos := Sh.moved X q n o h.len (by rw [ho, hds])
  have hos := Lib.hid hos
  have hov : Hid (over (nums .u32 (List.replicate (n + q + 1) 0)).toArray q (nums .u32 ds) = (nums .u32 o).toArray) := Lib.hid (by
    rw [ho, hdl, show ds.length + q + 1 = q + ds.length + 1 by omega]
    exact over_nums .u32 q ds 1)
  have HDS := Lib.hid hds
  have HDL := Lib.hid hdl
  clear hds hdl h ho
  refine wm_held _ [(true, 0), (true, 1), (true, 2), (true, 3), (true, 4), (true, 5), (false, 6)] K sbc1 (by kernel_rfl) (by kernel_rfl) ?_; (try clear K); (try clear ww); intro ww K; (try simp [go_sem] at K); simp only [pick, List.getElem?_toArray, List.getElem?_cons_succ, List.getElem?_cons_zero]
  repeat (first|((with_reducible refine ht_load ?_);first|(refine hm_own (cs := ?_) (t := ?_) (v := ?_) rfl _ _ rfl rfl ?_ ?_ ?_ ?_;rotate_left 2;(repeat (first|exact At.hd|refine At.tl ?_));rotate_left;(exact rfl);(with_reducible first|exact one106)))|(refine held_take (fun K' hK' => ?_);go_simp;first|(apply Exists.intro;refine ⟨?_, hK' _ ?_⟩;(intro _ _;rfl);clear hK' K')))
  refine hm_copy K rfl _ _ _ _ rfl 24 Try.underlying106 (one24.elim fun _ h => h.2.2) b3 q (n + 1) (n + 1) ⟨b, off, none⟩ n c rfl rfl (nums .u32 ds) Put.hd hov.out (by rw [nums_length, ← HDL.out]; exact (Nat.min_eq_left (by omega)).symm) ?_ ?_ (nums_ones _ _) (m := n) (by rw [nums_length, ← HDL.out]) ?_
  · intro j v hv
    rw [Addr.add_mid, K.below.cell (p := ⟨b, off + j, none⟩) hbb]
    rw [HDS.out] at hv
    exact HC.out j v hv
  · rw [nums_length, ← HDL.out]; simp [nums]; omega
  (try clear K); (try clear ww); intro ww K; (try simp [go_sem] at K)
  refine ⟨K.sub (List.sublist_cons_self _ _), ?_⟩
  refine held_nil ?_
  clear e1 hq3 hq4 hq5 hq6
  obtain ⟨V, hV⟩ : ∃ V, V = X * 4294967296 ^ q := ⟨_, rfl⟩
  rw [← hV] at hos
  obtain ⟨r, hr⟩ : ∃ r : Nat, r = s % 32 := ⟨_, rfl⟩
  have er : (s : Int) % 32 = (r : Int) := by omega
  have hr2 : r ≤ 31 := by omega
  have hT : V * 2 ^ r = X * 2 ^ s := by
    rw [hV, hr, HQ.out, show (4294967296 : Nat) = 2 ^ 32 from rfl, ← Nat.pow_mul, Nat.mul_assoc, ← Nat.pow_add]
    congr 2; omega
  have HT := Lib.hid hT
  have hlim : Hid (V * 2 ^ r < 4294967296 ^ (n + q + 1)) := Lib.hid (by
    have h1 := H.out.lim
    have h2 : 2 ^ r < 4294967296 := by
      have : 2 ^ r < 2 ^ 32 := Nat.pow_lt_pow_right (by omega) (by omega)
      simpa using this
    have h3 : V < 4294967296 ^ (n + q) := by
      rw [hV, Nat.pow_add]
      exact Nat.mul_lt_mul_of_pos_right h1 (Nat.pow_pos (by omega))
    rw [Nat.pow_succ]
    exact Nat.mul_lt_mul'' h3 h2)
  clear hV hr hT
  by_cases hr0 : r = 0
  · subst hr0
    have hr1 : decide ((0 : Int) < ((0 : Nat) : Int)) = false := rfl
    have hv := Lib.hid ((hos.out.val (by simpa using hlim.out)).trans (by simpa using HT.out))
    have hl := Lib.hid hos.out.lt
    have hlen : o.length = n + q + 1 := hos.out.1
    clear hos
    go_wp2_with (fail)
    have S := Sl.of_has (K.get .hd)
    simp only [List.size_toArray, nums_length, hlen] at S
    have S' := Lib.hid S
    clear S hlen
    refine (trim_any _ (n + q + 1) (n + q + 1) _ _ (by simpa using S'.out) hl.out (Nat.le_refl _) (by omega)).mono ?_
    rintro e w1 ⟨k1, rfl, hn, g1⟩
    rw [hv.out] at hn
    replace K := (K.step g1).freezeNt hn
    clear hn g1 S'
    dsimp only
    go_wp2_with (first|((with_reducible refine at_store ?_);(first|(refine wm_store (L' := ?_) (cs := ?_) (t := ?_) (n := ?_) K rfl _ _ _ rfl rfl rfl rfl ?_ ?_ ?_ ?_ ?_ ?_;rotate_left 3;(repeat (exact Put.hd));rotate_left;(with_reducible first|exact row108);(exact rfl);(exact rfl);(simp [Ones, Value.oneCell'])));(try clear K);(try clear ww);intro ww K;(try simp [go_sem] at K)))
    refine bodyPost_ret (K.res (cs := ?_) (t := ?_) (n := ?_) rfl _ rfl ?_ ?_ ?_) rfl ?_;rotate_left 2;(repeat (exact At.hd));rotate_left;(with_reducible first|exact row108);(exact rfl)
    exact ⟨_, _, rfl, by first | exact K.fact.1.1 | simpa using K.fact.1.1, K.fact.1.2, K.below⟩
  · have hr1 : decide ((0 : Int) < (r : Int)) = true := decide_eq_true (by omega)
    have hr3 : decide (0 < r) = true := decide_eq_true (by omega)
    go_wp2_with (fail)
    simp only [er]
    go_loopw [7] (fun i wr => ∃ (j : Nat) (o : List Nat), j < n + q + 1 ∧ i = .int .i64 j ∧ Hid (NShlAt V r (n + q + 1) j o) ∧ St w.heap.size w [(b3, (nums .u32 o).toArray, 24), (b2, #[.slice none 0 0], 108), (b1, #[.slice (some ⟨b, off, none⟩) n c], 108)] Any wr) (fun i _ => (intOf i).toNat)
    case atStart => exact ⟨n + q, o, by omega, by go_num, Lib.hid ⟨hos.out.1, fun i hi => by rw [if_pos (by omega)]; exact hos.out.2 i hi⟩, K⟩
    case round =>
      clear K hos
      obtain ⟨j, o, hj, rfl, hs, K⟩ := hrel
      rcases j with _ | j
      · have st := hs.out.last (by omega)
        have ol : 0 < o.length := by rw [hs.out.1]; omega
        have c1 := nums_at .u32 o 0 ol
        have x1 := hs.out.digit (i := 0) (by omega)
        generalize o.getD 0 0 = x at *
        have hv := Lib.hid ((st.val hlim.out).trans HT.out)
        have hl := Lib.hid st.lt
        have hlen : (o.set 0 (x * 2 ^ r % 4294967296)).length = n + q + 1 := st.1
        clear st hs
        go_wp2_with (first|((with_reducible refine at_load ?_);first|(refine wm_own (cs := ?_) (t := ?_) (v := ?_) K rfl _ _ rfl rfl ?_ ?_ ?_ ?_;rotate_left 2;(repeat (exact At.hd));rotate_left;(assumption);(with_reducible first|exact one24)))|((with_reducible refine at_store ?_);(first|(refine wm_put (L' := ?_) (cs := ?_) (new := ?_) (t := ?_) K rfl _ _ _ rfl rfl rfl rfl ?_ ?_ ?_ ?_ rfl rfl ?_;rotate_left 4;(repeat (exact Put.hd));(solve|(simp only [List.size_toArray, nums_length];first|assumption));(exact nums_set _ _ _ _);(with_reducible first|exact one24)));(try clear K);(try clear ww);intro ww K;(try simp [go_sem] at K)))
        have S := Sl.of_has (K.get .hd)
        simp only [List.size_toArray, nums_length, hlen] at S
        have S' := Lib.hid S
        clear S hlen
        refine (trim_any _ (n + q + 1) (n + q + 1) _ _ (by simpa using S'.out) hl.out (Nat.le_refl _) (by omega)).mono ?_
        rintro e w1 ⟨k1, rfl, hn, g1⟩
        rw [hv.out] at hn
        replace K := (K.step g1).freezeNt hn
        clear hn g1 S'
        dsimp only
        go_wp2_with (first|((with_reducible refine at_store ?_);(first|(refine wm_store (L' := ?_) (cs := ?_) (t := ?_) (n := ?_) K rfl _ _ _ rfl rfl rfl rfl ?_ ?_ ?_ ?_ ?_ ?_;rotate_left 3;(repeat (exact Put.hd));rotate_left;(with_reducible first|exact row108);(exact rfl);(exact rfl);(simp [Ones, Value.oneCell'])));(try clear K);(try clear ww);intro ww K;(try simp [go_sem] at K)))
        refine bodyPost_ret (K.res (cs := ?_) (t := ?_) (n := ?_) rfl _ rfl ?_ ?_ ?_) rfl ?_;rotate_left 2;(repeat (exact At.hd));rotate_left;(with_reducible first|exact row108);(exact rfl)
        exact ⟨_, _, rfl, by first | exact K.fact.1.1 | simpa using K.fact.1.1, K.fact.1.2, K.below⟩
      · have st := hs.out.step hr2 (by omega)
        have ol : j + 1 < o.length := by rw [hs.out.1]; exact hj
        have c1 := nums_at .u32 o (j + 1) ol
        have c2 := nums_at .u32 o j (by omega)
        have x1 := hs.out.digit (i := j + 1) hj
        have y1 := hs.out.digit (i := j) (by omega)
        generalize o.getD (j + 1) 0 = x at *
        generalize o.getD j 0 = y at *
        have e1 : IntKind.i64.wrap (j : Int) = (j : Int) := IntWalk.i64_in _ (by omega)
        have ST := Lib.hid st
        have i1 : (0 : Int) ≤ (j : Int) + 1 := by omega
        have i2 : (j : Int) + 1 < (n : Int) + (q : Int) + 1 := by omega
        have i3 : (j : Int) < (n : Int) + (q : Int) := by omega
        have i4 : (j : Int) < (n : Int) + (q : Int) + 1 := by omega
        have i5 : ((j : Int) + 1).toNat = j + 1 := by omega
        have i6 : IntKind.i64.wrap (32 - (r : Int)) = 32 - (r : Int) := IntWalk.i64_in _ (by omega)
        have i7 : (0 : Int) ≤ 32 - (r : Int) := by omega
        have i8 : (32 - (r : Int)).toNat = 32 - r := by omega
        have i9 := or_shift32 x y r hr2 y1
        clear st hs
        go_wp2_with fail
        refine wm_region_tail 18 K (by kernel_rfl) (by kernel_rfl) ?_; simp only [List.take_succ_cons, List.take_zero, List.drop_succ_cons, List.drop_zero]
        repeat (first|((with_reducible refine qt_load ?_);first|(refine wn_own (cs := ?_) (t := ?_) (v := ?_) rfl _ _ rfl rfl ?_ ?_ ?_ ?_;rotate_left 2;(repeat (exact At.hd));rotate_left;(assumption);(with_reducible first|exact one24)))|(quiet_step ((intro _;rfl))))
        refine wpQuiet_nil ?_; (try clear K); (try clear ww); intro ww K; (try simp [go_sem] at K)
        go_wp2_with (first|((with_reducible refine at_store ?_);(first|(refine wm_put (L' := ?_) (cs := ?_) (new := ?_) (t := ?_) K rfl _ _ _ rfl rfl rfl rfl ?_ ?_ ?_ ?_ rfl rfl ?_;rotate_left 4;(repeat (exact Put.hd));(solve|(simp only [List.size_toArray, nums_length];first|assumption));(exact nums_set _ _ _ _);(with_reducible first|exact one24)));(try clear K);(try clear ww);intro ww K;(try simp [go_sem] at K)))
        exact ⟨⟨j, _, by omega, rfl, ST, K⟩, by simp [intOf]⟩
end Go.Proofs.Yteancdipmpmjpaa
namespace Go.Proofs.Yteancdipmpmjpaa
open Go.RowKit
set_option maxRecDepth 100000
set_option linter.unusedVariables false

theorem Sl.drop {w : World} {e : TypeId} {b off n : Nat} {cs : List Value} (h : Sl w e (some ⟨b, off, none⟩) n cs) {q : Nat} (hq : q ≤ n) : Sl w e (some ⟨b, off + q, none⟩) (n - q) (cs.drop q) :=
  ⟨by rw [List.length_drop, h.1], fun h0 => by
    obtain ⟨b', off', arr, e, hb, hc⟩ := h.2 (by omega)
    injection e with e
    injection e with e1 e2
    subst e1 e2
    exact ⟨b, off + q, arr, rfl, hb, fun j u hu => by rw [Nat.add_assoc]; exact hc (q + j) u (by rw [List.getElem?_drop] at hu; exact hu)⟩⟩
theorem nums_drop (k : IntKind) (l : List Nat) (q : Nat) : (nums k l).drop q = nums k (l.drop q) := by simp [nums, List.map_drop]

def ShrAt (V s N j : Nat) (o : List Nat) : Prop := o.length = N ∧ (∀ i, i < N → o.getD i 0 = if i < j then V / 2 ^ s / 4294967296 ^ i % 4294967296 else V / 4294967296 ^ i % 4294967296)
theorem ShrAt.digit {V s N j i : Nat} {o : List Nat} (h : ShrAt V s N j o) (hi : i < N) : o.getD i 0 ≤ 4294967295 := by
  rw [h.2 i hi]
  split
  · have := Nat.mod_lt (V / 2 ^ s / 4294967296 ^ i) (show 0 < 4294967296 by omega); omega
  · have := Nat.mod_lt (V / 4294967296 ^ i) (show 0 < 4294967296 by omega); omega
theorem ShrAt.step {V s N j : Nat} {o : List Nat} (h : ShrAt V s N j o) (hs : s ≤ 31) (hj : j < N) (hV : V < 4294967296 ^ N) :
    ShrAt V s N (j + 1) (o.set j (if j + 1 < N then o.getD j 0 / 2 ^ s + o.getD (j + 1) 0 * 2 ^ (32 - s) % 4294967296 else o.getD j 0 / 2 ^ s)) := by
  refine ⟨by simp [h.1], fun i hi => ?_⟩
  have hg := h.2 i hi
  have h1 := h.2 j hj
  rw [if_neg (Nat.lt_irrefl j)] at h1
  rcases Nat.lt_trichotomy i j with hl | rfl | hl
  · simp only [List.getD, List.getElem?_set_ne (show j ≠ i by omega)] at hg ⊢
    rw [hg, if_pos hl, if_pos (by omega)]
  · rw [if_pos (Nat.lt_succ_self i)]
    have := shr_digit 32 s V i (by omega)
    simp only [Nat.reducePow] at this
    rw [this, List.getD, List.getElem?_set_self (by rw [h.1]; exact hj), Option.getD_some, h1]
    split
    · rename_i h3
      have h2 := h.2 (i + 1) h3
      rw [if_neg (by omega)] at h2
      rw [h2]
    · rename_i h3
      have e : N = i + 1 := by omega
      rw [← e, Nat.div_eq_of_lt hV]; simp
  · simp only [List.getD, List.getElem?_set_ne (show j ≠ i by omega)] at hg ⊢
    rw [hg, if_neg (by omega), if_neg (by omega)]
theorem ShrAt.done {V s N : Nat} {o : List Nat} (h : ShrAt V s N N o) (hV : V < 4294967296 ^ N) : Sh o N (V / 2 ^ s) :=
  ⟨h.1, fun i hi => by rw [h.2 i hi, if_pos hi]⟩
theorem ShrAt.done0 {V N : Nat} {o : List Nat} (h : ShrAt V 0 N 0 o) : Sh o N V :=
  ⟨h.1, fun i hi => by rw [h.2 i hi, if_neg (by omega)]⟩
theorem or_shift32r (x y r : Nat) (hr : r ≤ 31) (hx : x ≤ 4294967295) : bits .or .u32 ((x : Int) / 2 ^ r) (IntKind.u32.wrap ((y : Int) * 2 ^ (32 - r))) = ((x / 2 ^ r + y * 2 ^ (32 - r) % 4294967296 : Nat) : Int) := by
  have e1 : IntKind.u32.wrap ((y : Int) * 2 ^ (32 - r)) = ((y * 2 ^ (32 - r) % 4294967296 : Nat) : Int) := by
    rw [IntKind.wrap_u32, Int.natCast_emod, Int.natCast_mul, Int.natCast_pow]; rfl
  have e2 : ((x : Int) / 2 ^ r) = ((x / 2 ^ r : Nat) : Int) := by
    rw [Int.natCast_ediv, Int.natCast_pow]; rfl
  have b2 : x / 2 ^ r < 2 ^ (32 - r) := by
    apply Nat.div_lt_of_lt_mul
    rw [← Nat.pow_add, show r + (32 - r) = 32 by omega]
    simp only [Nat.reducePow]; omega
  have e3 : y * 2 ^ (32 - r) % 4294967296 = 2 ^ (32 - r) * (y % 2 ^ r) := by
    rw [show (4294967296 : Nat) = 2 ^ (32 - r) * 2 ^ r by rw [← Nat.pow_add, show 32 - r + r = 32 by omega], Nat.mul_comm y, Nat.mul_mod_mul_left]
  have b1 := Nat.mod_lt (y * 2 ^ (32 - r)) (show 0 < 4294967296 by omega)
  have b3 : x / 2 ^ r < 4294967296 := Nat.lt_of_le_of_lt (Nat.div_le_self _ _) (by omega)
  rw [e1, e2, (or32 _ _ b3 b1).1, e3, Nat.or_comm, ← Nat.two_pow_add_eq_or_of_lt b2, Nat.add_comm]
theorem rowS_at {cur : Array Value} {m : Nat} {o : List Nat} {i : Nat} (h : cur.toList.take m = nums .u32 o) (hi : i < o.length) : cur[i]? = some (.int .u32 (o.getD i 0 : Nat)) := by
  have h1 := nums_get .u32 o i hi
  rw [← h, List.getElem?_take] at h1
  split at h1
  · simpa using h1
  · cases h1
theorem Sl.of_take {w : World} {g m : Nat} {cur : Array Value} {t : TypeId} {xs : List Value} (h : Has w g cur t) (hx : cur.toList.take m = xs) (hm : m ≤ cur.size) : Sl w t (some ⟨g, 0, none⟩) m xs :=
  ⟨by rw [← hx, List.length_take]; simp; omega, fun _ => ⟨g, 0, cur, rfl, h, fun j u hu => by
    rw [← hx, List.getElem?_take] at hu
    split at hu
    · simpa using hu
    · cases hu⟩⟩
theorem row_set {cur : Array Value} {m : Nat} {o : List Nat} {i x : Nat} (h : cur.toList.take m = nums .u32 o) : (cur.setIfInBounds i (.int .u32 x)).toList.take m = nums .u32 (o.set i x) := by
  rw [Array.toList_setIfInBounds, List.take_set, h]
  simp [nums, List.map_set]

set_option maxHeartbeats 2000000 in
theorem Shr_nat (A : Option Addr) (n c X s : Nat) (w : World) (h : Nt w A n c X) (hn : n ≤ 1000000) (hs1 : 1 ≤ s) (hs2 : s ≤ 1000000) :
    Calls Try.prog 125 #[.agg #[.slice A n c], .int .i64 s] w fun e w' => ∃ A' k, e = .returned (.agg #[.slice A' k k]) ∧ Nt w' A' k k (X / 2 ^ s) ∧ Nw w.heap.size A' ∧ Below w.heap.size w w' := by
  have K := St.start w
  have ht : decide ((s : Int) < 1) = false := decide_eq_false (by omega)
  have BT := Lib.hid (fun W u => Bits_nat A n c X W u hn)
  have H := Lib.hid h
  by_cases hb : blen X ≤ s
  · have h0 : decide (blen X ≤ s) = true := decide_eq_true hb
    have hz : X / 2 ^ s = 0 := Nat.div_eq_of_lt (Nat.lt_of_lt_of_le (blen_lt X) (Nat.pow_le_pow_right (by omega) hb))
    rw [hz]
    clear h hz
    go_enter Try.func125, Try.ntmps125
    go_wp2_with (first|((with_reducible refine at_load ?_);first|(refine wm_load (cs := ?_) (t := ?_) (n := ?_) K rfl _ _ rfl rfl ?_ ?_ ?_ ?_;rotate_left 2;(repeat (first|exact At.hd|refine At.tl ?_));rotate_left;(with_reducible first|exact row108);(exact rfl)))|((with_reducible refine at_store ?_);(first|(refine wm_store (L' := ?_) (cs := ?_) (t := ?_) (n := ?_) K rfl _ _ _ rfl rfl rfl rfl ?_ ?_ ?_ ?_ ?_ ?_;rotate_left 3;(repeat (exact Put.hd));rotate_left;(with_reducible first|exact row108);(exact rfl);(exact rfl);(simp [Ones, Value.oneCell'])));(try clear K);(try clear ww);intro ww K;(try simp [go_sem] at K))|((first|((with_reducible refine at_box ?_);refine wm_box K rfl _ _ rfl rfl rfl ?_)|((with_reducible refine at_alloc ?_);refine wm_alloc (v := ?_) (cs := ?_) K rfl _ rfl ?_ ?_ ?_;rotate_left;(with_reducible first|exact zero108);rotate_left;exact rfl));(try clear K);(try clear ww);(first|((fail_if_success (have _h := b1));intro b1 ww K)|((fail_if_success (have _h := b2));intro b2 ww K));(try simp [go_sem, Value.cells] at K))|(go_at_call 134;(with_reducible refine (BT.out _ (H.out.below K.below)).mono ?_);rintro e w2 ⟨rfl, k1⟩;replace K := K.step k1;clear k1;(try clear ww);revert w2;intro ww K))
    refine bodyPost_ret (K.res (cs := ?_) (t := ?_) (n := ?_) rfl _ rfl ?_ ?_ ?_) rfl ?_;rotate_left 2;(repeat (exact At.hd));rotate_left;(with_reducible first|exact row108);(exact rfl)
    exact ⟨none, 0, rfl, Nt.zero _ _ _ (by omega), (fun b off p e => by cases e), K.below⟩
  · have h0 : decide (blen X ≤ s) = false := decide_eq_false hb
    obtain ⟨q, hq⟩ : ∃ q : Nat, q = s / 32 := ⟨_, rfl⟩
    obtain ⟨r, hr⟩ : ∃ r : Nat, r = s % 32 := ⟨_, rfl⟩
    have eq1 : (s : Int) / 32 = (q : Int) := by omega
    have er : (s : Int) % 32 = (r : Int) := by omega
    have hr2 : r ≤ 31 := by omega
    have hbl : blen X ≤ 32 * n := blen_small (by have := h.lim; rwa [show (4294967296 : Nat) = 2 ^ 32 from rfl, ← Nat.pow_mul] at this)
    have hqn : q < n := by omega
    have hnc := h.2.1
    obtain ⟨b, off, rfl, hbb, _⟩ := h.1.rd.get (k := 0) (by omega)
    have HS := Lib.hid (h.1.drop (q := q) (by omega))
    rw [nums_drop] at HS
    have hV : X / 2 ^ s = X / 4294967296 ^ q / 2 ^ r := by
      rw [Nat.div_div_eq_div_mul, show (4294967296 : Nat) = 2 ^ 32 from rfl, ← Nat.pow_mul, ← Nat.pow_add, hq, hr]
      congr 2; omega
    have hVl : Hid (X / 4294967296 ^ q < 4294967296 ^ (n - q)) := Lib.hid (Nat.div_lt_of_lt_mul (by rw [← Nat.pow_add, show q + (n - q) = n by omega]; exact h.lim))
    have hso : Hid (ShrAt (X / 4294967296 ^ q) r (n - q) 0 ((digs 4294967296 X).drop q)) := Lib.hid ⟨by rw [List.length_drop, ← h.len], fun i hi => by
      rw [if_neg (by omega), List.getD, List.getElem?_drop, ← List.getD, digs_get (by omega), Nat.pow_add, Nat.div_div_eq_div_mul]⟩
    rw [hV]
    generalize (digs 4294967296 X).drop q = ds at *
    obtain ⟨V, hVV⟩ : ∃ V, V = X / 4294967296 ^ q := ⟨_, rfl⟩
    rw [← hVV] at hso hVl ⊢
    obtain ⟨m, hm⟩ : ∃ m, m = n - q := ⟨_, rfl⟩
    have hm1 : n - q = m := hm.symm
    rw [hm1] at HS hso hVl
    have hm0 : 0 < m := by omega
    have hmn : m ≤ 1000000 := by omega
    have HM := Lib.hid hm1
    have hnq : ((n : Nat) : Int) - (q : Int) = (m : Int) := by omega
    have hq3 : (q : Int) ≤ (n : Int) := by omega
    have hq6 : ¬ (c = q) := by omega
    clear h hV hVV hq hr hbl hm
    go_enter Try.func125, Try.ntmps125
    go_wp2_with (first|((with_reducible refine at_load ?_);first|(refine wm_load (cs := ?_) (t := ?_) (n := ?_) K rfl _ _ rfl rfl ?_ ?_ ?_ ?_;rotate_left 2;(repeat (first|exact At.hd|refine At.tl ?_));rotate_left;(with_reducible first|exact row108);(exact rfl))|(refine wm_own (cs := ?_) (t := ?_) (v := ?_) K rfl _ _ rfl rfl ?_ ?_ ?_ ?_;rotate_left 2;(repeat (first|exact At.hd|refine At.tl ?_));rotate_left;(exact rfl);(with_reducible first|exact one106)))|((first|((with_reducible refine at_box ?_);refine wm_box K rfl _ _ rfl rfl rfl ?_)|((with_reducible refine at_alloc ?_);refine wm_alloc (v := ?_) (cs := ?_) K rfl _ rfl ?_ ?_ ?_;rotate_left;(with_reducible first|exact zero108);rotate_left;exact rfl));(try clear K);(try clear ww);(first|((fail_if_success (have _h := b1));intro b1 ww K)|((fail_if_success (have _h := b2));intro b2 ww K));(try simp [go_sem, Value.cells] at K))|(go_at_call 134;(with_reducible refine (BT.out _ (H.out.below K.below)).mono ?_);rintro e w2 ⟨rfl, k1⟩;replace K := K.step k1;clear k1;(try clear ww);revert w2;intro ww K))
    refine (Clone_own _ m _ _ ww (HS.out.below K.below) hmn (nums_ones _ _)).mono ?_
    rintro e w2 ⟨v', rfl, ho, hb'⟩
    obtain ⟨g, cap, cur, rfl, hc1, hc2, hcs, hct, K⟩ := K.row hb' ho hm0
    have HS' := Lib.hid hcs
    have HT' := Lib.hid hct
    clear ho hb' hcs hct
    dsimp only
    by_cases hr0 : r = 0
    · subst hr0
      have hr1 : decide ((0 : Int) < ((0 : Nat) : Int)) = false := rfl
      have HH := hso.out.done0
      have hv := Lib.hid ((HH.val hVl.out).trans (show V = V / 2 ^ 0 by simp))
      have hl := Lib.hid HH.lt
      clear HH
      go_wp2_with (fail)
      have S := Lib.hid (Sl.of_take (K.get .hd) HT'.out (by rw [HS'.out]; omega))
      refine (trim_any _ m cap ds _ S.out hl.out (by omega) (by omega)).mono ?_
      rintro e w1 ⟨k1, rfl, hn, g1⟩
      rw [hv.out] at hn
      replace K := (K.step g1).freezeNt hn
      clear hn g1 S
      dsimp only
      go_wp2_with (first|((with_reducible refine at_store ?_);(first|(refine wm_store (L' := ?_) (cs := ?_) (t := ?_) (n := ?_) K rfl _ _ _ rfl rfl rfl rfl ?_ ?_ ?_ ?_ ?_ ?_;rotate_left 3;(repeat (exact Put.hd));rotate_left;(with_reducible first|exact row108);(exact rfl);(exact rfl);(simp [Ones, Value.oneCell'])));(try clear K);(try clear ww);intro ww K;(try simp [go_sem] at K)))
      refine bodyPost_ret (K.res (cs := ?_) (t := ?_) (n := ?_) rfl _ rfl ?_ ?_ ?_) rfl ?_;rotate_left 2;(repeat (exact At.hd));rotate_left;(with_reducible first|exact row108);(exact rfl)
      exact ⟨_, _, rfl, by first | exact K.fact.1.1 | simpa using K.fact.1.1, K.fact.1.2, K.below⟩
    · have hr1 : decide ((0 : Int) < (r : Int)) = true := decide_eq_true (by omega)
      have hr3 : decide (0 < r) = true := decide_eq_true (by omega)
      go_wp2_with (fail)
      simp only [er]
      go_loopw [28] (fun i wr => ∃ (k : Nat) (o : List Nat) (cur : Array Value), k ≤ m ∧ i = .int .i64 k ∧ Hid (ShrAt V r m k o) ∧ Hid (cur.size = cap) ∧ Hid (cur.toList.take m = nums .u32 o) ∧ St w.heap.size w [(g, cur, 24), (b2, #[.slice none 0 0], 108), (b1, #[.slice (some ⟨b, off, none⟩) n c], 108)] Any wr) (fun i _ => m - (intOf i).toNat)
      case atStart => exact ⟨0, ds, cur, Nat.zero_le _, rfl, hso, HS', HT', K⟩
      case round =>
        clear K HS' HT'
        obtain ⟨k, o, cur, hk, rfl, hs, HS', HT', K⟩ := hrel
        by_cases hlt : k < m
        · have st := hs.out.step hr2 hlt hVl.out
          have ol : k < o.length := by rw [hs.out.1]; exact hlt
          have c1 := rowS_at HT'.out ol
          have x1 := hs.out.digit hlt
          have hcu : k < cur.size := by rw [HS'.out]; omega
          by_cases hk1 : k + 1 < m
          · rw [if_pos hk1] at st
            have c2 := rowS_at HT'.out (i := k + 1) (by rw [hs.out.1]; exact hk1)
            have y1 := hs.out.digit hk1
            have c2l : k + 1 < o.length := by rw [hs.out.1]; exact hk1
            obtain ⟨y, hyv⟩ : ∃ y, y = o.getD (k + 1) 0 := ⟨_, rfl⟩
            have yy : Hid (o[k + 1]?.getD 0 = y) := Lib.hid hyv.symm
            rw [← hyv] at st c2 y1
            clear hyv
            generalize o.getD k 0 = x at *
            obtain ⟨z, hz⟩ : ∃ z, z = x / 2 ^ r := ⟨_, rfl⟩
            have ev : (x : Int) / 2 ^ r = (z : Int) := by rw [hz, Int.natCast_ediv, Int.natCast_pow]; rfl
            have i9 := or_shift32r x y r hr2 x1
            obtain ⟨u, hu⟩ : ∃ u, u = x / 2 ^ r + y * 2 ^ (32 - r) % 4294967296 := ⟨_, rfl⟩
            rw [← hu, ev] at i9
            rw [← hu] at st
            have ST := Lib.hid st
            have t1 : decide (k < m) = true := decide_eq_true hlt
            have t2 : decide ((k : Int) + 1 < (m : Int)) = true := decide_eq_true (by omega)
            clear st hz hu
            go_wp2_with (first|((with_reducible refine at_load ?_);first|(refine wm_own (cs := ?_) (t := ?_) (v := ?_) K rfl _ _ rfl rfl ?_ ?_ ?_ ?_;rotate_left 2;(repeat (exact At.hd));rotate_left;(assumption);(with_reducible first|exact one24)))|((with_reducible refine at_store ?_);(first|(refine wm_put (L' := ?_) (cs := ?_) (new := ?_) (t := ?_) K rfl _ _ _ rfl rfl rfl rfl ?_ ?_ ?_ ?_ rfl rfl ?_;rotate_left 4;(repeat (exact Put.hd));(omega);(exact rfl);(with_reducible first|exact one24)));(try clear K);(try clear ww);intro ww K;(try simp [go_sem] at K)))
            have h1 := row_set (i := k) (x := z) HT'.out
            have s1 := Array.size_setIfInBounds (xs := cur) (i := k) (a := .int .u32 z)
            rw [HS'.out] at s1
            generalize cur.setIfInBounds k (.int .u32 z) = cur1 at *
            have hcu1 : k < cur1.size := by omega
            have d1 := rowS_at h1 (i := k) (by rw [List.length_set]; exact ol)
            have d2 := rowS_at h1 (i := k + 1) (by rw [List.length_set]; exact c2l)
            rw [show (o.set k z).getD k 0 = z by rw [List.getD, List.getElem?_set_self ol]; rfl] at d1
            rw [show (o.set k z).getD (k + 1) 0 = y by rw [List.getD, List.getElem?_set_ne (by omega)]; exact yy.out] at d2
            have H1 := Lib.hid h1
            have S1 := Lib.hid s1
            have g1 : IntKind.i64.wrap ((k : Int) + 1) = (k : Int) + 1 := IntWalk.i64_in _ (by omega)
            have g2 : (0 : Int) ≤ (k : Int) + 1 := by omega
            have g3 : (k : Int) + 1 < (m : Int) := by omega
            have g4 : ((k : Int) + 1).toNat = k + 1 := by omega
            have g6 : IntKind.i64.wrap (32 - (r : Int)) = 32 - (r : Int) := IntWalk.i64_in _ (by omega)
            have g7 : (0 : Int) ≤ 32 - (r : Int) := by omega
            have g8 : (32 - (r : Int)).toNat = 32 - r := by omega
            clear h1 s1 c1 c2 ev HT' HS'
            refine wm_region_tail 14 K (by kernel_rfl) (by kernel_rfl) ?_; simp only [List.take_succ_cons, List.take_zero, List.drop_succ_cons, List.drop_zero]
            repeat (first|((with_reducible refine qt_load ?_);first|(refine wn_own (cs := ?_) (t := ?_) (v := ?_) rfl _ _ rfl rfl ?_ ?_ ?_ ?_;rotate_left 2;(repeat (exact At.hd));rotate_left;(assumption);(with_reducible first|exact one24)))|(quiet_step ((intro _;rfl))))
            refine wpQuiet_nil ?_; (try clear K); (try clear ww); intro ww K; (try simp [go_sem] at K)
            clear g1 g4 g6 g8
            go_wp2_with (first|((with_reducible refine at_store ?_);(first|(refine wm_put (L' := ?_) (cs := ?_) (new := ?_) (t := ?_) K rfl _ _ _ rfl rfl rfl rfl ?_ ?_ ?_ ?_ rfl rfl ?_;rotate_left 4;(repeat (exact Put.hd));(omega);(exact rfl);(with_reducible first|exact one24)));(try clear K);(try clear ww);intro ww K;(try simp [go_sem] at K)))
            have h2 := row_set (i := k) (x := u) H1.out
            rw [List.set_set] at h2
            have s2 := Array.size_setIfInBounds (xs := cur1) (i := k) (a := .int .u32 u)
            rw [S1.out] at s2
            exact ⟨⟨k + 1, _, _, by omega, by go_num, ST, Lib.hid s2, Lib.hid h2, K⟩, by simp [intOf]; omega⟩
          · rw [if_neg hk1] at st
            generalize o.getD k 0 = x at *
            obtain ⟨z, hz⟩ : ∃ z, z = x / 2 ^ r := ⟨_, rfl⟩
            have ev : (x : Int) / 2 ^ r = (z : Int) := by rw [hz, Int.natCast_ediv, Int.natCast_pow]; rfl
            rw [← hz] at st
            have ST := Lib.hid st
            have t1 : decide (k < m) = true := decide_eq_true hlt
            have t2 : decide ((k : Int) + 1 < (m : Int)) = false := decide_eq_false (by omega)
            clear st hz
            go_wp2_with (first|((with_reducible refine at_load ?_);first|(refine wm_own (cs := ?_) (t := ?_) (v := ?_) K rfl _ _ rfl rfl ?_ ?_ ?_ ?_;rotate_left 2;(repeat (exact At.hd));rotate_left;(assumption);(with_reducible first|exact one24)))|((with_reducible refine at_store ?_);(first|(refine wm_put (L' := ?_) (cs := ?_) (new := ?_) (t := ?_) K rfl _ _ _ rfl rfl rfl rfl ?_ ?_ ?_ ?_ rfl rfl ?_;rotate_left 4;(repeat (exact Put.hd));(omega);(exact rfl);(with_reducible first|exact one24)));(try clear K);(try clear ww);intro ww K;(try simp [go_sem] at K)))
            have h2 := row_set (i := k) (x := z) HT'.out
            have s2 := Array.size_setIfInBounds (xs := cur) (i := k) (a := .int .u32 z)
            rw [HS'.out] at s2
            exact ⟨⟨k + 1, _, _, by omega, by go_num, ST, Lib.hid s2, Lib.hid h2, K⟩, by simp [intOf]; omega⟩
        · obtain rfl : m = k := by omega
          have hd := hs.out.done hVl.out
          have hv := Lib.hid (hd.val (Nat.lt_of_le_of_lt (Nat.div_le_self _ _) hVl.out))
          have hl := Lib.hid hd.lt
          clear hs hd
          go_wp2_with (fail)
          have S := Lib.hid (Sl.of_take (K.get .hd) HT'.out (by rw [HS'.out]; omega))
          refine (trim_any _ m cap o _ S.out hl.out (by omega) (by omega)).mono ?_
          rintro e w1 ⟨k1, rfl, hn, g1⟩
          rw [hv.out] at hn
          replace K := (K.step g1).freezeNt hn
          clear hn g1 S
          dsimp only
          go_wp2_with (first|((with_reducible refine at_store ?_);(first|(refine wm_store (L' := ?_) (cs := ?_) (t := ?_) (n := ?_) K rfl _ _ _ rfl rfl rfl rfl ?_ ?_ ?_ ?_ ?_ ?_;rotate_left 3;(repeat (exact Put.hd));rotate_left;(with_reducible first|exact row108);(exact rfl);(exact rfl);(simp [Ones, Value.oneCell'])));(try clear K);(try clear ww);intro ww K;(try simp [go_sem] at K)))
          refine bodyPost_ret (K.res (cs := ?_) (t := ?_) (n := ?_) rfl _ rfl ?_ ?_ ?_) rfl ?_;rotate_left 2;(repeat (exact At.hd));rotate_left;(with_reducible first|exact row108);(exact rfl)
          exact ⟨_, _, rfl, by first | exact K.fact.1.1 | simpa using K.fact.1.1, K.fact.1.2, K.below⟩
end Go.Proofs.Yteancdipmpmjpaa
namespace Go.Proofs.Yteancdipmpmjpaa
open Go.RowKit
set_option maxRecDepth 100000
set_option linter.unusedVariables false

/-! Calls of nat's functions, in the words of 'St'. -/
section
variable {B : Nat} {w0 w : World} {L : List Blk} {F : World → Prop}
theorem St.add2 {A A2 : Option Addr} {n c X n2 c2 Y : Nat} (K : St B w0 L F w) (h1 : Nt w A n c X) (h2 : Nt w A2 n2 c2 Y) (b1 : n ≤ 1000000) (b2 : n2 ≤ 1000000) :
    Calls Try.prog 75 #[.agg #[.slice A n c], .agg #[.slice A2 n2 c2]] w fun e w' => ∃ A k, e = .returned (.agg #[.slice A k k]) ∧ St B w0 L (fun w => (Nt w A k k (X + Y) ∧ Nw B A) ∧ F w) w' := by
  refine (Add_nat _ _ _ _ _ _ _ _ w h1 h2 b1 b2).mono ?_
  rintro e w' ⟨A', k, rfl, hn, hA, hb⟩
  exact ⟨A', k, rfl, K.madeNt hb hn hA⟩
end



end Go.Proofs.Yteancdipmpmjpaa
