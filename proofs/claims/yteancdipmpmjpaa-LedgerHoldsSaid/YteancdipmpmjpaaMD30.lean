/-
  Lemmas and walks of this claim (the texts Fa17 Fl17 Fs17 Ft17 Fw17 of the work; what no proof here uses is left out). No claim of their own.
-/
import Derived.Test.YteancdipmpmjpaaMD28
import Derived.Test.YteancdipmpmjpaaMD26
import Derived.Test.YteancdipmpmjpaaMD14
import Derived.Test.YteancdipmpmjpaaMD5
set_option linter.all false
set_option linter.unusedSimpArgs false
set_option linter.unusedVariables false
namespace Go.Proofs.Yteancdipmpmjpaa
open Go.RowKit
attribute [local irreducible] wpHeld wpTree wpList
set_option linter.unusedVariables false
def toN (zs : List Int) : List Nat := zs.map Int.toNat
theorem toN_len (zs : List Int) : (toN zs).length = zs.length := by simp [toN]
theorem toN_get {zs : List Int} {i : Nat} (h : i < zs.length) : (toN zs).getD i 0 = (zs.getD i 0).toNat := by simp [toN, List.getD, h]
theorem take_snocN (l : List Nat) (i : Nat) (h : i < l.length) : l.take (i + 1) = l.take i ++ [l.getD i 0] := by
  rw [List.take_succ_eq_append_getElem h, List.getD, List.getElem?_eq_getElem h]; rfl
set_option maxRecDepth 100000 in
set_option maxHeartbeats 4000000 in
theorem From17 (W H X Y S : Int) (A : Option Addr) (n c : Nat) (zs : List Int) (w : World) (h : Rd w A n (ints .i64 zs)) (hb : ∀ z ∈ zs, 0 ≤ z ∧ z ≤ 1073741824) (hn : n ≤ 5000) :
    Calls Try.prog 29 #[.agg #[.int .i64 W, .int .i64 H, .int .i64 X, .int .i64 Y, .int .i64 S, .slice A n c]] w fun e w' => ∃ A2 c2, e = .returned (.agg #[.int .i64 W, .int .i64 H, .slice A2 n c2]) ∧ (Fn w' A2 n (toN zs) ∧ Nw w.heap.size A2) ∧ Below w.heap.size w w' := by
  have K := St.start w
  have hl : zs.length = n := by rw [← h.1, ints_len]
  have HR := Lib.hid h
  have HL := Lib.hid hl
  have HZ := Lib.hid hb
  clear h hl hb
  go_enter Try.func29, Try.ntmps29
  go_wp2_with (first|((with_reducible refine at_load ?_);first|(refine wm_own (cs := ?_) (t := ?_) (v := ?_) K rfl _ _ rfl rfl ?_ ?_ ?_ ?_;rotate_left 2;(repeat (first|exact At.hd|refine At.tl ?_));rotate_left;(exact rfl);(with_reducible first|exact one3|exact one45)))|((with_reducible refine at_store ?_);(first|(refine wm_store (L' := ?_) (cs := ?_) (t := ?_) (n := ?_) K rfl _ _ _ rfl rfl rfl rfl ?_ ?_ ?_ ?_ ?_ ?_;rotate_left 3;(repeat (exact Put.hd));rotate_left;(with_reducible first|exact row51);(exact rfl);(exact rfl);(simp [Ones, Value.oneCell'])));(try clear K);(try clear ww);intro ww K;(try simp [go_sem] at K))|((first|((with_reducible refine at_box ?_);refine wm_box K rfl _ _ rfl rfl rfl ?_)|((with_reducible refine at_alloc ?_);refine wm_alloc (v := ?_) (cs := ?_) K rfl _ rfl ?_ ?_ ?_;rotate_left;(with_reducible first|exact zero51);rotate_left;exact rfl));(try clear K);(try clear ww);(first|((fail_if_success (have _h := b1));intro b1 ww K)|((fail_if_success (have _h := b2));intro b2 ww K)|((fail_if_success (have _h := b3));intro b3 ww K));(try simp [go_sem, Value.cells] at K)))
  obtain ⟨T, hT⟩ : ∃ T, toN zs = T := ⟨_, rfl⟩
  have HTE := Lib.hid hT
  have HTL : Hid (T.length = n) := Lib.hid (by rw [← hT, toN_len, HL.out])
  have HTG : Hid (∀ k, k < n → T.getD k 0 = (zs.getD k 0).toNat) := Lib.hid (fun k hk => by rw [← hT]; exact toN_get (by rw [HL.out]; exact hk))
  clear hT
  go_loopw [14] (fun i wr => ∃ (k : Nat) (v : Value) (cs : List Value) (Lo : List Blk), k ≤ n ∧ i = .int .i64 k ∧ OwnT v 108 cs Lo ∧ Hid (cs.length = k) ∧ St w.heap.size w ((b3, #[.int .i64 W, .int .i64 H, v], 51) :: (b2, #[.int .i64 0, .int .i64 0, .slice none 0 0], 51) :: (b1, #[.int .i64 W, .int .i64 H, .int .i64 X, .int .i64 Y, .int .i64 S, .slice A n c], 47) :: Lo) (fun w => AllN w cs (T.take k)) wr) (fun i _ => n - (intOf i).toNat)
  case atStart => exact ⟨0, _, [], [], Nat.zero_le _, rfl, OwnT.nil _, Lib.hid rfl, K.weak fun w _ => AllN.nil w⟩
  case round =>
    clear K
    obtain ⟨i, v, cs, Lo, hi, rfl, hO, HC, K⟩ := hrel
    by_cases hlt : i < n
    · have ht : decide ((i : Int) < n) = true := decide_eq_true (by omega)
      obtain ⟨b, off, rfl, hb, hc⟩ := HR.out.get hlt
      have hil : i < zs.length := by rw [HL.out]; exact hlt
      have hv := hc i _ (ints_get .i64 zs i hil)
      have hz := HZ.out _ (getD_mem hil)
      have hsn0 := take_snocN T i (by rw [HTL.out]; exact hlt)
      rw [HTG.out i hlt] at hsn0
      generalize zs.getD i 0 = z at *
      obtain ⟨x, hx⟩ : ∃ x : Nat, z = x := ⟨z.toNat, by omega⟩
      subst hx
      rw [Int.toNat_natCast] at hsn0
      have hsn := Lib.hid hsn0
      have hx0 : (x : Int) ≤ 1073741824 := hz.2
      have hx1 : x ≤ 18446744073709551615 := by omega
      have m1h : Hid (max (x : Int) 0 = x) := Lib.hid (by omega)
      have m2h : Hid (IntKind.u64.wrap (x : Int) = x) := Lib.hid (IntWalk.u64_in _ (by omega))
      have hb1 : (cs.length + 1) * 24 ≤ 140737488355328 := by rw [HC.out]; omega
      have hb2 : cs.length + 1 ≤ maxLen := by rw [HC.out]; unfold maxLen; omega
      clear hc hil hz hsn0 hx0
      go_wp2_with (first|((with_reducible refine at_load ?_);first|(refine wm_cell (v := ?_) rfl _ _ rfl rfl ?_ ?_ ?_;rotate_left;(first|exact (K.below.cell (by assumption)).trans (by assumption));(with_reducible first|exact one2))))
      have m1 := m1h.out
      have m2 := m2h.out
      refine wm_tree _ (.take 0 (.take 2 (.take 3 (.take 4 (.alt 1 (.alt 5 (.alt 6 (.alt 7 (.take 8 (.alt 9 .done .stop)) .stop) .stop) .stop) (.alt 5 (.alt 1 (.alt 6 (.alt 7 (.take 8 (.alt 9 .done .stop)) .stop) .stop) (.alt 6 (.alt 1 (.alt 7 (.take 8 (.alt 9 .done .stop)) .stop) .stop) .stop)) .stop)))))) K sbd1k2 (by kernel_rfl) (by kernel_rfl) ?_; (try clear K); (try clear ww); intro ww K; (try simp [go_sem] at K)
      repeat' (first|exact tree_stop|(refine tm_own (cs := ?_) (t0 := ?_) (v := ?_) rfl rfl _ _ rfl rfl ?_ ?_ ?_ ?_;rotate_left 2;(repeat (fail));rotate_left;(fail);(with_reducible first|fail))|(refine tm_farD (v := ?_) rfl rfl _ _ rfl rfl (fun ww K => ?_) ?_ ?_;rotate_left;(fail);(with_reducible first|fail))|(refine tree_take (fun K' hK' => ?_);simp only [opAt, List.getElem?_toArray, List.getElem?_cons_succ, List.getElem?_cons_zero, Option.getD_some];go_simp;first|(apply Exists.intro;refine ⟨?_, hK' _ ?_⟩;(intro _ _;rfl);clear hK' K'))|(refine tm_nowAt (cs := ?_) (t0 := ?_) (v := ?_) K rfl rfl _ _ rfl rfl ?_ ?_ ?_ (by apply via sbd1k2;first|exact K|exact K.weak wk1|exact K.tail.weak wk1) ?_ ?_;rotate_left 2;(repeat (first|exact At.hd|refine At.tl ?_));rotate_left;(exact rfl);(with_reducible first|exact one49))|(refine tree_alt (fun K' hK' => ?_) ?_;simp only [opAt, List.getElem?_toArray, List.getElem?_cons_succ, List.getElem?_cons_zero, Option.getD_some];go_simp;go_at_call 65;(with_reducible refine (K.ofT x rfl hx1).mono ?_);rintro e w2 ⟨_, _, rfl, K2⟩;(try dsimp only);refine hK' _ _ (by apply via sbd1k2;first|exact K2.weak wk1) ?_;replace K := K2;clear hK' K' K2;(try clear ww);revert w2;intro ww K)|(refine tree_list rfl ?_ ?_;refine wm_oneZ K rfl _ _ rfl Try.underlying49 infoNat Cell1.agg rfl Cell1.agg ?_;intro bb ww2 K2;(try simp [go_sem] at K2);refine wl_nil ⟨(by apply via sbd1k2;first|exact K2.tail.weak wk1), ?_⟩;replace K := K2;clear K2;(try clear ww);revert ww2;intro ww K)|(refine tree_list rfl ?_ ?_;refine wm_appZT (L0 := ?_) K ?_ rfl _ _ _ rfl Try.underlying49 infoNat Cell1.agg rfl hO rfl rfl (by first|assumption) (by first|assumption) ?_;rotate_left;(repeat (first|exact Tl.nil|(refine Tl.cons (L0 := ?_) ?_;rotate_left)));intro v ww2 Lo2 hO2 K2;obtain ⟨_, _, _, rfl, _⟩ := hO2.val;(try simp only [List.cons_append, List.nil_append] at K2);refine wl_nil ⟨(by apply via sbd1k2;first|exact K2.weak wk1), ?_⟩;replace K := K2;replace hO := hO2;clear K2 hO2;(try clear ww);revert ww2;intro ww K)|(refine tm_put (L' := ?_) (cs := ?_) (new := ?_) (t0 := ?_) K rfl rfl _ _ _ rfl rfl rfl rfl ?_ ?_ ?_ ?_ rfl rfl ?_ ?_;rotate_left 4;(repeat (exact Put.hd));(exact Nat.le_of_ble_eq_true rfl);((simp only [List.setIfInBounds_toArray];exact rfl));(with_reducible first|exact one49);intro ww2 K2;(try simp [go_sem] at K2);refine ⟨(by apply via sbd1k2;first|exact K2.weak wk1), ?_⟩;replace K := K2;clear K2;(try clear ww);revert ww2;intro ww K))
      all_goals refine tree_done ?_
      all_goals (try simp only [opAt, List.getElem?_toArray, List.getElem?_cons_succ, List.getElem?_cons_zero, Option.getD_some])
      all_goals (try go_simp)
      all_goals clear m1 m2
      all_goals (try go_wp2_with (fail))
      all_goals exact ⟨⟨i + 1, _, _, _, by omega, by go_num, hO, Lib.hid (by rw [List.length_append, HC.out]; rfl), K.weak fun w h => by rw [hsn.out]; exact h.2.snoc h.1.1 h.1.2⟩, by simp [intOf]; omega⟩
    · obtain rfl : n = i := by omega
      have ht : decide ((n : Int) < n) = false := decide_eq_false (by omega)
      have hz : T.take n = T := List.take_of_length_le (by rw [HTL.out]; omega)
      rw [hz] at K
      obtain ⟨A2, c2, rfl, hc1, hc2, hA, K2⟩ := hO.fix (L0 := [(b3, #[.int .i64 W, .int .i64 H, v], 51), (b2, #[.int .i64 0, .int .i64 0, .slice none 0 0], 51), (b1, #[.int .i64 W, .int .i64 H, .int .i64 X, .int .i64 Y, .int .i64 S, .slice A n c], 47)]) K
      rw [HC.out] at K2
      have HA := Lib.hid hA
      clear K hO hc1 hc2 hA hz
      replace K := K2
      clear K2
      revert wr
      intro ww K
      go_wp2_with (first|((with_reducible refine at_load ?_);first|(refine wm_load (cs := ?_) (t := ?_) (n := ?_) K rfl _ _ rfl rfl ?_ ?_ ?_ ?_;rotate_left 2;(repeat (exact At.hd));rotate_left;(with_reducible first|exact row51);(exact rfl)))|((with_reducible refine at_store ?_);(first|(refine wm_store (L' := ?_) (cs := ?_) (t := ?_) (n := ?_) K rfl _ _ _ rfl rfl rfl rfl ?_ ?_ ?_ ?_ ?_ ?_;rotate_left 3;(repeat (first|exact Put.hd|(refine Put.tl (L' := ?_) ?_;rotate_left)));rotate_left;(with_reducible first|exact row51);(exact rfl);(exact rfl);(simp [Ones, Value.oneCell'])));(try clear K);(try clear ww);intro ww K;(try simp [go_sem] at K)))
      refine bodyPost_ret (K.res rfl _ rfl (At.tl At.hd) (by (with_reducible first | exact row51)) (by (solve | exact rfl | simp))) rfl ?_
      exact ⟨A2, c2, by first | rfl | rw [HC.out], ⟨⟨cs, K.fact.1, by rw [HTE.out]; exact K.fact.2⟩, HA.out⟩, K.below⟩
end Go.Proofs.Yteancdipmpmjpaa
namespace Go.Proofs.Yteancdipmpmjpaa
open Go.RowKit
attribute [local irreducible] wpHeld wpTree wpList
set_option linter.unusedVariables false
def LeanAt (xs : List Nat) (i : Nat) (v : Int) : Prop := (v = -1 ∧ ∀ j, j < i → xs.getD j 0 = 0) ∨ ∃ s : Nat, v = s ∧ s ≤ 40000 ∧ ∀ j, j < i → 2 ^ s ∣ xs.getD j 0
theorem LeanAt.zero {xs : List Nat} {i : Nat} {v : Int} (h : LeanAt xs i v) (hx : xs.getD i 0 = 0) : LeanAt xs (i + 1) v := by
  rcases h with ⟨h1, h2⟩ | ⟨s, h1, h2, h3⟩
  · refine .inl ⟨h1, fun j hj => ?_⟩
    by_cases e : j = i
    · subst e; exact hx
    · exact h2 j (by omega)
  · refine .inr ⟨s, h1, h2, fun j hj => ?_⟩
    by_cases e : j = i
    · subst e; rw [hx]; exact Nat.dvd_zero _
    · exact h3 j (by omega)
theorem LeanAt.less {xs : List Nat} {i : Nat} {v : Int} {k : Nat} (h : LeanAt xs i v) (hk : k ≤ 40000) (hx : 2 ^ k ∣ xs.getD i 0) (hv : v < 0 ∨ (k : Int) < v) : LeanAt xs (i + 1) k := by
  refine .inr ⟨k, rfl, hk, fun j hj => ?_⟩
  by_cases e : j = i
  · subst e; exact hx
  · rcases h with ⟨h1, h2⟩ | ⟨s, h1, h2, h3⟩
    · rw [h2 j (by omega)]; exact Nat.dvd_zero _
    · exact Nat.dvd_trans (Nat.pow_dvd_pow 2 (by omega)) (h3 j (by omega))
theorem LeanAt.keep {xs : List Nat} {i : Nat} {v : Int} {k : Nat} (h : LeanAt xs i v) (hx : 2 ^ k ∣ xs.getD i 0) (hv : 0 ≤ v ∧ v ≤ (k : Int)) : LeanAt xs (i + 1) v := by
  rcases h with ⟨h1, h2⟩ | ⟨s, h1, h2, h3⟩
  · omega
  · refine .inr ⟨s, h1, h2, fun j hj => ?_⟩
    by_cases e : j = i
    · subst e; exact Nat.dvd_trans (Nat.pow_dvd_pow 2 (by omega)) hx
    · exact h3 j (by omega)
theorem LeanAt.bd {xs : List Nat} {i : Nat} {v : Int} (h : LeanAt xs i v) : -1 ≤ v ∧ v ≤ 40000 := by
  rcases h with ⟨h1, h2⟩ | ⟨s, h1, h2, h3⟩ <;> omega
theorem dvd_part {X m s p q : Nat} (h : 4294967296 ^ m ∣ X) (hp : X / 4294967296 ^ m % 4294967296 = p) (hq : q * 2 ^ s = p) (hs : s ≤ 32) : 2 ^ (32 * m + s) ∣ X := by
  obtain ⟨Y, rfl⟩ := h
  have e : (4294967296 : Nat) ^ m = 2 ^ (32 * m) := by rw [Nat.pow_mul]
  rw [Nat.mul_div_cancel_left _ (Nat.pow_pos (by omega))] at hp
  have h1 : 2 ^ s ∣ Y := by
    have h2 : Y = 2 ^ 32 * (Y / 2 ^ 32) + p := by rw [← hp]; exact (Nat.div_add_mod Y 4294967296).symm
    rw [h2]
    exact Nat.dvd_add (Nat.dvd_trans (Nat.pow_dvd_pow 2 hs) (Nat.dvd_mul_right _ _)) (by rw [← hq]; exact Nat.dvd_mul_left _ _)
  rw [e, Nat.pow_add]
  exact Nat.mul_dvd_mul_left _ h1
theorem dvd_zero_part {X m : Nat} (h : 4294967296 ^ m ∣ X) (hp : X / 4294967296 ^ m % 4294967296 = 0) : 4294967296 ^ (m + 1) ∣ X := by
  obtain ⟨Y, rfl⟩ := h
  rw [Nat.mul_div_cancel_left _ (Nat.pow_pos (by omega))] at hp
  rw [Nat.pow_succ]
  exact Nat.mul_dvd_mul_left _ (Nat.dvd_of_mod_eq_zero hp)
theorem Sl.digit {w : World} {e : TypeId} {A : Option Addr} {n X k : Nat} (h : Rd w A n (nums .u32 (digs 4294967296 X))) (hk : k < n) : ∃ b off, A = some ⟨b, off, none⟩ ∧ b < w.heap.size ∧ w.cell? ⟨b, off + k, none⟩ = some (.int .u32 (X / 4294967296 ^ k % 4294967296 : Nat)) := by
  obtain ⟨b, off, rfl, hb, hc⟩ := h.get hk
  have hl : k < (digs 4294967296 X).length := by have := h.1; rw [nums_length] at this; omega
  have hv := hc k _ (nums_get .u32 _ k hl)
  rw [digs_get (by omega)] at hv
  exact ⟨b, off, rfl, hb, hv⟩
def leanN (s : Nat) (xs : List Nat) : List Nat := xs.map (· / 2 ^ s)
theorem and1_32 (x : Nat) (hx : x < 4294967296) : bits .and .u32 (x : Int) 1 = ((x % 2 : Nat) : Int) := by
  have e1 : (1 : Int) = ((1 : Nat) : Int) := rfl
  rw [e1, (and32 _ 1 hx (by omega)).1, Nat.and_one_is_mod]
theorem half_lean {pp sh p : Nat} (h : pp * 2 ^ sh = p) (he : pp % 2 = 0) (h0 : 0 < pp) (hs : sh < 32) (hp : p < 4294967296) : pp / 2 * 2 ^ (sh + 1) = p ∧ 0 < pp / 2 ∧ sh + 1 < 32 := by
  obtain ⟨q, rfl⟩ : ∃ q, pp = 2 * q := ⟨pp / 2, by omega⟩
  rw [Nat.mul_div_cancel_left _ (by omega)]
  refine ⟨by rw [← h, Nat.pow_succ]; rw [Nat.mul_comm (2 ^ sh) 2, ← Nat.mul_assoc, Nat.mul_comm q 2], by omega, ?_⟩
  by_cases e : sh = 31
  · subst e
    have : (2 : Nat) ^ 31 = 2147483648 := rfl
    rw [this] at h
    omega
  · omega
theorem leanN_len (s : Nat) (xs : List Nat) : (leanN s xs).length = xs.length := by simp [leanN]
theorem leanN_get {s i : Nat} {xs : List Nat} (h : i < xs.length) : (leanN s xs).getD i 0 = xs.getD i 0 / 2 ^ s := by simp [leanN, List.getD, h]
theorem shrT {B : Nat} {w0 w : World} {L : List Blk} {F : World → Prop} {A : Option Addr} {n c X s : Nat} (K : St B w0 L F w) (h : Nt w A n c X) (hn : n ≤ 1000) (hs1 : 1 ≤ s) (hs2 : s ≤ 1000000) :
    Calls Try.prog 125 #[.agg #[.slice A n c], .int .i64 s] w fun e w' => ∃ A k, e = .returned (.agg #[.slice A k k]) ∧ St B w0 L (fun w => (Nt w A k k (X / 2 ^ s) ∧ k ≤ 1000) ∧ F w) w' := by
  have hl := h.lim
  refine (Shr_nat A n c X s w h (by omega) hs1 hs2).mono ?_
  rintro e w' ⟨A', k, rfl, h', hA, hb⟩
  refine ⟨A', k, rfl, (K.madeNt hb h' hA).weak fun w h => ⟨⟨h.1.1, ?_⟩, h.2⟩⟩
  exact Nat.le_trans (Go.Proofs.Yteancdipmpmjpaa.len_le (k := n) k (Nat.lt_of_le_of_lt (Nat.div_le_self _ _) hl) h.1.1.len) hn
set_option maxRecDepth 100000 in
set_option maxHeartbeats 8000000 in
theorem Lean17 (W H : Int) (A : Option Addr) (n c : Nat) (xs : List Nat) (w : World) (h : Fn w A n xs) (hn : n ≤ 5000) :
    Calls Try.prog 95 #[.agg #[.int .i64 W, .int .i64 H, .slice A n c]] w fun e w' => ∃ s A2 c2, e = .returned (.agg #[.int .i64 W, .int .i64 H, .slice A2 n c2]) ∧ (Fn w' A2 n (leanN s xs) ∧ (∀ x ∈ xs, 2 ^ s ∣ x) ∧ (Nw w.heap.size A2 ∨ (A2 = A ∧ s = 0))) ∧ Below w.heap.size w w' := by
  have K := St.start w
  have HF := Lib.hid h
  have HL := Lib.hid h.len
  clear h
  go_enter Try.func95, Try.ntmps95
  go_wp2_with (first|((with_reducible refine at_load ?_);first|(refine wm_own (cs := ?_) (t := ?_) (v := ?_) K rfl _ _ rfl rfl ?_ ?_ ?_ ?_;rotate_left 2;(repeat (first|exact At.hd|refine At.tl ?_));rotate_left;(exact rfl);(with_reducible first|exact one49)))|((first|((with_reducible refine at_box ?_);refine wm_box K rfl _ _ rfl rfl rfl ?_)|((with_reducible refine at_alloc ?_);refine wm_alloc (v := ?_) (cs := ?_) K rfl _ rfl ?_ ?_ ?_;rotate_left;(with_reducible first|exact zero51);rotate_left;exact rfl));(try clear K);(try clear ww);(first|((fail_if_success (have _h := b1));intro b1 ww K)|((fail_if_success (have _h := b2));intro b2 ww K));(try simp [go_sem, Value.cells] at K)))
  go_loopw [3, 15] (fun vn i wr => ∃ (k : Nat) (v : Int), k ≤ n ∧ i = .int .i64 k ∧ vn = .int .i64 v ∧ Hid (LeanAt xs k v) ∧ St w.heap.size w [(b2, #[.int .i64 0, .int .i64 0, .slice none 0 0], 51), (b1, #[.int .i64 W, .int .i64 H, .slice A n c], 51)] Any wr) (fun _ i _ => n - (intOf i).toNat)
  case atStart => exact ⟨0, -1, Nat.zero_le _, rfl, rfl, Lib.hid (.inl ⟨rfl, fun j hj => by omega⟩), K⟩
  case round =>
    clear K
    obtain ⟨i, v, hi, rfl, rfl, HV, K⟩ := hrel
    by_cases hlt : i < n
    · have ht : decide ((i : Int) < n) = true := decide_eq_true (by omega)
      obtain ⟨b, off, a, k, c2, rfl, hb, hc, hx, hk⟩ := HF.out.get hlt
      obtain ⟨x, hxx⟩ : ∃ x, xs.getD i 0 = x := ⟨_, rfl⟩
      rw [hxx] at hx
      have HXX := Lib.hid hxx
      have HNT := Lib.hid hx
      have ZE := Lib.hid (fun (w' : World) (hb : Below w.heap.size w w') => Zero_any a k c2 x w' (hx.below hb))
      have PA := Lib.hid (fun (w' : World) (hb : Below w.heap.size w w') => NParts_any a k c2 x w' (hx.below hb) (by omega))
      clear hx hxx
      by_cases hx0 : x = 0
      · rw [hx0] at ZE
        have hd : decide (0 = 0) = true := rfl
        rw [hd] at ZE
        go_wp2_with (first|((with_reducible refine at_load ?_);refine wm_far1 (v := ?_) rfl _ _ rfl rfl ?_ ?_ ?_;rotate_left;(first|exact (K.below.cell (by assumption)).trans (by assumption));(with_reducible first|exact row108))|((with_reducible refine at_load ?_);first|(refine wm_load (cs := ?_) (t := ?_) (n := ?_) K rfl _ _ rfl rfl ?_ ?_ ?_ ?_;rotate_left 2;(repeat (exact At.hd));rotate_left;(with_reducible first|exact row108);(exact rfl)))|((with_reducible refine at_store ?_);(first|(refine wm_store (L' := ?_) (cs := ?_) (t := ?_) (n := ?_) K rfl _ _ _ rfl rfl rfl rfl ?_ ?_ ?_ ?_ ?_ ?_;rotate_left 3;(repeat (exact Put.hd));rotate_left;(with_reducible first|exact row108);(exact rfl);(exact rfl);(simp [Ones, Value.oneCell'])));(try clear K);(try clear ww);intro ww K;(try simp [go_sem] at K))|((first|((with_reducible refine at_alloc ?_);refine wm_alloc (v := ?_) (cs := ?_) K rfl _ rfl ?_ ?_ ?_;rotate_left;(with_reducible first|exact zero108);rotate_left;exact rfl));(try clear K);(try clear ww);((fail_if_success (have _h := b5));intro b5 ww K);(try simp [go_sem, Value.cells] at K))|(go_at_call 74;(with_reducible refine (ZE.out _ K.below).mono ?_);rintro e w2 ⟨rfl, k1⟩;replace K := K.step k1;clear k1;(try clear ww);revert w2;intro ww K))
        exact ⟨⟨i + 1, v, by omega, by go_num, rfl, Lib.hid (HV.out.zero (by rw [HXX.out, hx0])), K.tail⟩, by simp [intOf]; omega⟩
      · have hd : decide (x = 0) = false := decide_eq_false hx0
        rw [hd] at ZE
        clear hd
        go_wp2_with (first|((with_reducible refine at_load ?_);refine wm_far1 (v := ?_) rfl _ _ rfl rfl ?_ ?_ ?_;rotate_left;(first|exact (K.below.cell (by assumption)).trans (by assumption));(with_reducible first|exact row108))|((with_reducible refine at_load ?_);first|(refine wm_load (cs := ?_) (t := ?_) (n := ?_) K rfl _ _ rfl rfl ?_ ?_ ?_ ?_;rotate_left 2;(repeat (exact At.hd));rotate_left;(with_reducible first|exact row108);(exact rfl)))|((with_reducible refine at_store ?_);(first|(refine wm_store (L' := ?_) (cs := ?_) (t := ?_) (n := ?_) K rfl _ _ _ rfl rfl rfl rfl ?_ ?_ ?_ ?_ ?_ ?_;rotate_left 3;(repeat (exact Put.hd));rotate_left;(with_reducible first|exact row108);(exact rfl);(exact rfl);(simp [Ones, Value.oneCell'])));(try clear K);(try clear ww);intro ww K;(try simp [go_sem] at K))|((first|((with_reducible refine at_alloc ?_);refine wm_alloc (v := ?_) (cs := ?_) K rfl _ rfl ?_ ?_ ?_;rotate_left;(with_reducible first|exact zero108);rotate_left;exact rfl));(try clear K);(try clear ww);((fail_if_success (have _h := b5));intro b5 ww K);(try simp [go_sem, Value.cells] at K))|(go_at_call 74;(with_reducible refine (ZE.out _ K.below).mono ?_);rintro e w2 ⟨rfl, k1⟩;replace K := K.step k1;clear k1;(try clear ww);revert w2;intro ww K)|(go_at_call 99;(with_reducible refine (PA.out _ K.below).mono ?_);rintro e w2 ⟨Ap, cp, rfl, h2, -, hA, hbel⟩;(try dsimp only);replace K := K.madeRd hbel h2.rd hA;clear hbel h2 hA;(try clear ww);revert w2;intro ww K))
        go_loopw [6, 24] (fun kv m wr => ∃ (m0 kk : Nat), m0 ≤ k ∧ m = .int .i64 m0 ∧ kv = .int .i64 kk ∧ kk ≤ 32 * m0 ∧ 32 * m0 ≤ kk ∧ Hid (4294967296 ^ m0 ∣ x) ∧ St w.heap.size w [(b5, #[.slice a k c2], 108), (b2, #[.int .i64 0, .int .i64 0, .slice none 0 0], 51), (b1, #[.int .i64 W, .int .i64 H, .slice (some ⟨b, off, none⟩) n c], 51)] (fun w => Rd w Ap k (nums .u32 (digs 4294967296 x))) wr) (fun _ m _ => k - (intOf m).toNat)
        case atStart => exact ⟨0, 0, Nat.zero_le _, rfl, rfl, by omega, by omega, Lib.hid (by simp), K.weak fun w h => h.1⟩
        case round =>
          clear K
          obtain ⟨m, kk, hm, rfl, rfl, hk1, hk2, HM, K⟩ := hrel
          by_cases hmk : m < k
          · have ht2 : decide ((m : Int) < k) = true := decide_eq_true (by omega)
            obtain ⟨pb, po, rfl, hpb, hpc⟩ := Sl.digit (e := 0) K.fact hmk
            obtain ⟨p, hp⟩ : ∃ p, x / 4294967296 ^ m % 4294967296 = p := ⟨_, rfl⟩
            have hp1 : p < 4294967296 := by rw [← hp]; exact Nat.mod_lt _ (by omega)
            rw [hp] at hpc
            have HP := Lib.hid hp
            clear hp
            by_cases hp0 : p = 0
            · subst hp0
              go_wp2_with (first|((with_reducible refine at_load ?_);refine wm_cell (v := ?_) rfl _ _ rfl rfl ?_ ?_ ?_;rotate_left;assumption;(with_reducible first|exact one24)))
              exact ⟨⟨m + 1, kk + 32, by omega, by go_num, by go_num, by omega, by omega, Lib.hid (dvd_zero_part HM.out HP.out), K⟩, by simp [intOf]; omega⟩
            · have hpn : ((p : Int) != 0) = true := by simp; omega
              go_wp2_with (first|((with_reducible refine at_load ?_);refine wm_cell (v := ?_) rfl _ _ rfl rfl ?_ ?_ ?_;rotate_left;assumption;(with_reducible first|exact one24)))
              go_loopw [8, 6] (fun pv kv wr => ∃ (pp sh k3 : Nat), pv = .int .u32 pp ∧ kv = .int .i64 k3 ∧ Hid (pp * 2 ^ sh = p) ∧ 0 < pp ∧ pp < 4294967296 ∧ sh < 32 ∧ k3 ≤ kk + sh ∧ kk + sh ≤ k3 ∧ St w.heap.size w [(b5, #[.slice a k c2], 108), (b2, #[.int .i64 0, .int .i64 0, .slice none 0 0], 51), (b1, #[.int .i64 W, .int .i64 H, .slice (some ⟨b, off, none⟩) n c], 51)] (fun w => Rd w (some ⟨pb, po, none⟩) k (nums .u32 (digs 4294967296 x))) wr) (fun pv _ _ => (intOf pv).toNat)
              case atStart => exact ⟨p, 0, kk, rfl, rfl, Lib.hid (by simp), by omega, hp1, by omega, by omega, by omega, K⟩
              case round =>
                clear K
                obtain ⟨pp, sh, k3, rfl, rfl, HPS, hpp0, hpp1, hsh, hk3, hk4, K⟩ := hrel
                by_cases hev : pp % 2 = 0
                · have hbt : (bits .and .u32 (pp : Int) 1 == 0) = true := by rw [and1_32 pp hpp1, hev]; rfl
                  obtain ⟨g1, g2, g3⟩ := half_lean HPS.out hev hpp0 hsh hp1
                  have HG := Lib.hid g1
                  clear g1
                  go_wp2_with (fail)
                  exact ⟨⟨pp / 2, sh + 1, k3 + 1, by rw [Int.natCast_ediv]; rfl, by go_num, HG, g2, by omega, g3, by omega, by omega, K⟩, by simp [intOf]; omega⟩
                · have hbt : (bits .and .u32 (pp : Int) 1 == 0) = false := by rw [and1_32 pp hpp1]; simp; omega
                  have HD : Hid (2 ^ k3 ∣ x) := Lib.hid (by
                    have := dvd_part HM.out HP.out HPS.out (by omega)
                    rwa [show 32 * m + sh = k3 by omega] at this)
                  have hkk : k3 ≤ 40000 := by omega
                  by_cases hv0 : v < 0
                  · have q1 : decide (v < 0) = true := decide_eq_true hv0
                    have HV2 : Hid (LeanAt xs (i + 1) (k3 : Int)) := Lib.hid (HV.out.less hkk (by rw [HXX.out]; exact HD.out) (.inl hv0))
                    go_wp2_with (fail)
                    all_goals first
                      | exact ⟨⟨i + 1, _, by omega, by go_num, rfl, HV2, K.tail.weak fun _ _ => trivial⟩, by simp [intOf]; omega⟩
                      | exact ⟨⟨i + 1, by omega, by omega, HV2, K.tail.weak fun _ _ => trivial⟩, by simp [intOf]; omega⟩
                      | (exfalso; omega)
                  · have q1 : decide (v < 0) = false := decide_eq_false hv0
                    by_cases hv1 : ((k3 : Nat) : Int) < v
                    · have q2 : decide (((k3 : Nat) : Int) < v) = true := decide_eq_true hv1
                      have HV2 : Hid (LeanAt xs (i + 1) (k3 : Int)) := Lib.hid (HV.out.less hkk (by rw [HXX.out]; exact HD.out) (.inr hv1))
                      go_wp2_with (fail)
                      all_goals first
                        | exact ⟨⟨i + 1, _, by omega, by go_num, rfl, HV2, K.tail.weak fun _ _ => trivial⟩, by simp [intOf]; omega⟩
                        | exact ⟨⟨i + 1, by omega, by omega, HV2, K.tail.weak fun _ _ => trivial⟩, by simp [intOf]; omega⟩
                        | (exfalso; omega)
                    · have q2 : decide (((k3 : Nat) : Int) < v) = false := decide_eq_false hv1
                      have HV2 : Hid (LeanAt xs (i + 1) v) := Lib.hid (HV.out.keep (k := k3) (by rw [HXX.out]; exact HD.out) (by omega))
                      go_wp2_with (fail)
                      all_goals first
                        | exact ⟨⟨i + 1, _, by omega, by go_num, rfl, HV2, K.tail.weak fun _ _ => trivial⟩, by simp [intOf]; omega⟩
                        | exact ⟨⟨i + 1, by omega, by omega, HV2, K.tail.weak fun _ _ => trivial⟩, by simp [intOf]; omega⟩
                        | (exfalso; omega)
          · obtain rfl : m = k := by omega
            have ht2 : decide ((m : Int) < m) = false := decide_eq_false (by omega)
            have HD : Hid (2 ^ kk ∣ x) := Lib.hid (by have := HM.out; rwa [show (4294967296 : Nat) = 2 ^ 32 from rfl, ← Nat.pow_mul, show 32 * m = kk by omega] at this)
            have hkk : kk ≤ 40000 := by omega
            by_cases hv0 : v < 0
            · have q1 : decide (v < 0) = true := decide_eq_true hv0
              have HV2 : Hid (LeanAt xs (i + 1) (kk : Int)) := Lib.hid (HV.out.less hkk (by rw [HXX.out]; exact HD.out) (.inl hv0))
              go_wp2_with (fail)
              all_goals first
                | exact ⟨⟨i + 1, _, by omega, by go_num, rfl, HV2, K.tail.weak fun _ _ => trivial⟩, by simp [intOf]; omega⟩
                | exact ⟨⟨i + 1, by omega, by omega, HV2, K.tail.weak fun _ _ => trivial⟩, by simp [intOf]; omega⟩
                | (exfalso; omega)
            · have q1 : decide (v < 0) = false := decide_eq_false hv0
              by_cases hv1 : ((kk : Nat) : Int) < v
              · have q2 : decide (((kk : Nat) : Int) < v) = true := decide_eq_true hv1
                have HV2 : Hid (LeanAt xs (i + 1) (kk : Int)) := Lib.hid (HV.out.less hkk (by rw [HXX.out]; exact HD.out) (.inr hv1))
                go_wp2_with (fail)
                all_goals first
                  | exact ⟨⟨i + 1, _, by omega, by go_num, rfl, HV2, K.tail.weak fun _ _ => trivial⟩, by simp [intOf]; omega⟩
                  | exact ⟨⟨i + 1, by omega, by omega, HV2, K.tail.weak fun _ _ => trivial⟩, by simp [intOf]; omega⟩
                  | (exfalso; omega)
              · have q2 : decide (((kk : Nat) : Int) < v) = false := decide_eq_false hv1
                have HV2 : Hid (LeanAt xs (i + 1) v) := Lib.hid (HV.out.keep (k := kk) (by rw [HXX.out]; exact HD.out) (by omega))
                go_wp2_with (fail)
                all_goals first
                  | exact ⟨⟨i + 1, _, by omega, by go_num, rfl, HV2, K.tail.weak fun _ _ => trivial⟩, by simp [intOf]; omega⟩
                  | exact ⟨⟨i + 1, by omega, by omega, HV2, K.tail.weak fun _ _ => trivial⟩, by simp [intOf]; omega⟩
                  | (exfalso; omega)
    · obtain rfl : n = i := by omega
      have ht : decide ((n : Int) < n) = false := decide_eq_false (by omega)
      have hvb := HV.out.bd
      by_cases hv1 : v < 1
      · have q1 : decide (v < 1) = true := decide_eq_true hv1
        go_wp2_with (first|((with_reducible refine at_load ?_);first|(refine wm_load (cs := ?_) (t := ?_) (n := ?_) K rfl _ _ rfl rfl ?_ ?_ ?_ ?_;rotate_left 2;(repeat (first|exact At.hd|refine At.tl ?_));rotate_left;(with_reducible first|exact row51);(exact rfl)))|((with_reducible refine at_store ?_);(first|(refine wm_store (L' := ?_) (cs := ?_) (t := ?_) (n := ?_) K rfl _ _ _ rfl rfl rfl rfl ?_ ?_ ?_ ?_ ?_ ?_;rotate_left 3;(repeat (exact Put.hd));rotate_left;(with_reducible first|exact row51);(exact rfl);(exact rfl);(simp [Ones, Value.oneCell'])));(try clear K);(try clear ww);intro ww K;(try simp [go_sem] at K)))
        refine bodyPost_ret (K.res rfl _ rfl At.hd (by (with_reducible first | exact row51 | exact row108)) (by (solve | exact rfl | simp))) rfl ?_
        refine ⟨0, A, c, rfl, ⟨?_, fun x hx => by simp, .inr ⟨rfl, rfl⟩⟩, K.below⟩
        rw [show leanN 0 xs = xs by unfold leanN; simp]
        exact HF.out.below K.below
      · have q1 : decide (v < 1) = false := decide_eq_false hv1
        obtain ⟨s, hs, hs1, hs2, hsd⟩ : ∃ s : Nat, v = s ∧ 1 ≤ s ∧ s ≤ 1000000 ∧ ∀ x ∈ xs, 2 ^ s ∣ x := by
          rcases HV.out with ⟨h1, _⟩ | ⟨s, h1, h2, h3⟩
          · omega
          · refine ⟨s, h1, by omega, by omega, fun x hx => ?_⟩
            obtain ⟨j, hj, rfl⟩ := List.getElem_of_mem hx
            have := h3 j (by rw [← HL.out]; exact hj)
            rwa [List.getD, List.getElem?_eq_getElem hj] at this
        subst hs
        have HSD := Lib.hid hsd
        clear hsd HV hvb
        go_wp2_with (first|((with_reducible refine at_makeSl ?_);refine wm_makeZ K rfl _ _ _ rfl Try.underlying49 infoNat Cell1.agg n rfl rfl (by omega) (by omega) (by omega) (by omega) ?_;(try clear K);(try clear ww);intro g ww K)|((with_reducible refine at_load ?_);first|(refine wm_own (cs := ?_) (t := ?_) (v := ?_) K rfl _ _ rfl rfl ?_ ?_ ?_ ?_;rotate_left 2;(repeat (first|exact At.hd|refine At.tl ?_));rotate_left;(exact rfl);(with_reducible first|exact one49))))
        obtain ⟨T, hT⟩ : ∃ T, leanN s xs = T := ⟨_, rfl⟩
        have HTE := Lib.hid hT
        have HTL : Hid (T.length = n) := Lib.hid (by rw [← hT, leanN_len, HL.out])
        have HTG : Hid (∀ k, k < n → T.getD k 0 = xs.getD k 0 / 2 ^ s) := Lib.hid (fun k hk => by rw [← hT]; exact leanN_get (by rw [HL.out]; exact hk))
        clear hT
        obtain ⟨Z, hZ⟩ : ∃ Z : List Nat, List.replicate n 0 = Z := ⟨_, rfl⟩
        have HZL : Hid (Z.length = n) := Lib.hid (by rw [← hZ]; simp)
        have HZ0 : Hid (((List.replicate n (Value.slice none 0 0)).toArray : Array Value).size = n ∧ ∀ w, AllN w ((List.replicate n (Value.slice none 0 0)).toArray : Array Value).toList (T.take 0 ++ Z.drop 0)) := Lib.hid ⟨by simp, fun w => by rw [← hZ]; simpa using AllN.zeros w n⟩
        generalize (List.replicate n (Value.slice none 0 0)).toArray = cur0 at *
        clear hZ
        go_loopw [59] (fun i wr => ∃ (k : Nat) (cur : Array Value), k ≤ n ∧ i = .int .i64 k ∧ Hid (cur.size = n) ∧ St w.heap.size w [(g, cur, 108), (b2, #[.int .i64 0, .int .i64 0, .slice none 0 0], 51), (b1, #[.int .i64 W, .int .i64 H, .slice A n c], 51)] (fun w => AllN w cur.toList (T.take k ++ Z.drop k)) wr) (fun i _ => n - (intOf i).toNat)
        case atStart => exact ⟨0, cur0, Nat.zero_le _, rfl, Lib.hid HZ0.out.1, K.weak fun w _ => HZ0.out.2 w⟩
        case round =>
          clear K HZ0
          obtain ⟨i, cur, hi2, rfl, HC, K⟩ := hrel
          by_cases hlt2 : i < n
          · have ht2 : decide ((i : Int) < n) = true := decide_eq_true (by omega)
            obtain ⟨b, off, a, k, c2, rfl, hb, hc, hx, hk⟩ := HF.out.get hlt2
            have HG : Hid (xs.getD i 0 / 2 ^ s = T.getD i 0) := Lib.hid (HTG.out i hlt2).symm
            generalize xs.getD i 0 = x at *
            have HX := Lib.hid hx
            have hink : i < cur.size := by rw [HC.out]; exact hlt2
            clear hx
            go_wp2_with (first|((with_reducible refine at_load ?_);refine wm_far1 (v := ?_) rfl _ _ rfl rfl ?_ ?_ ?_;rotate_left;(first|exact (K.below.cell (by assumption)).trans (by assumption));(with_reducible first|exact row108))|((with_reducible refine at_store ?_);refine wm_putZ (L' := ?_) (cs := ?_) (new := ?_) (t := ?_) K rfl _ _ _ rfl rfl rfl rfl ?_ ?_ ?_ ?_ rfl ?_;rotate_left 4;(repeat (first|exact Put.hd|(refine Put.tl (L' := ?_) ?_;rotate_left)));(solve|exact Nat.le_of_ble_eq_true rfl|omega);exact rfl;(with_reducible first|exact row108);(try clear K);(try clear ww);intro ww K;(try simp [go_sem] at K))|((with_reducible refine at_load ?_);first|(refine wm_load (cs := ?_) (t := ?_) (n := ?_) K rfl _ _ rfl rfl ?_ ?_ ?_ ?_;rotate_left 2;(repeat (exact At.hd));rotate_left;(with_reducible first|exact row108);(exact rfl)))|((first|((with_reducible refine at_alloc ?_);refine wm_alloc (v := ?_) (cs := ?_) K rfl _ rfl ?_ ?_ ?_;rotate_left;(with_reducible first|exact zero108);rotate_left;exact rfl));(try clear K);(try clear ww);((fail_if_success (have _h := b11));intro b11 ww K);(try simp [go_sem, Value.cells] at K))|(go_at_call 125;(with_reducible refine (shrT K (HX.out.below K.below) hk hs1 hs2).mono ?_);rintro e w2 ⟨A3, k3, rfl, K2⟩;(try dsimp only);replace K := K2;clear K2;(try clear ww);revert w2;intro ww K))
            exact ⟨⟨i + 1, _, by omega, by go_num, Lib.hid (by rw [Array.size_setIfInBounds]; exact HC.out), K.tail.weak fun w h => by
              have h1 := h.2.set (i := i) (by rw [mixN_len HTL.out HZL.out (by omega)]; exact hlt2) h.1.1 h.1.2
              rw [HG.out, mixN_set HTL.out HZL.out hlt2] at h1
              rw [Array.toList_setIfInBounds]; exact h1⟩, by simp [intOf]; omega⟩
          · obtain rfl : n = i := by omega
            have ht2 : decide ((n : Int) < n) = false := decide_eq_false (by omega)
            rw [show T.take n = T from List.take_of_length_le (by rw [HTL.out]; omega), show Z.drop n = [] from List.drop_of_length_le (by rw [HZL.out]; omega), List.append_nil] at K
            have HX : Hid (cur.toList.take n = cur.toList ∧ n ≤ cur.size) := Lib.hid ⟨List.take_of_length_le (by rw [Array.length_toList, HC.out]; exact Nat.le_refl _), by rw [HC.out]; exact Nat.le_refl _⟩
            go_wp2_with (first|((with_reducible refine at_load ?_);first|(refine wm_load (cs := ?_) (t := ?_) (n := ?_) K rfl _ _ rfl rfl ?_ ?_ ?_ ?_;rotate_left 2;(repeat (first|exact At.hd|refine At.tl ?_));rotate_left;(with_reducible first|exact row51);(exact rfl)))|((with_reducible refine at_store ?_);(first|(refine wm_store (L' := ?_) (cs := ?_) (t := ?_) (n := ?_) K rfl _ _ _ rfl rfl rfl rfl ?_ ?_ ?_ ?_ ?_ ?_;rotate_left 3;(repeat (first|exact Put.hd|(refine Put.tl (L' := ?_) ?_;rotate_left)));rotate_left;(with_reducible first|exact row51);(exact rfl);(exact rfl);(simp [Ones, Value.oneCell']))|(refine wm_put (L' := ?_) (cs := ?_) (new := ?_) (t := ?_) K rfl _ _ _ rfl rfl rfl rfl ?_ ?_ ?_ ?_ rfl rfl ?_;rotate_left 4;(repeat (first|exact Put.hd|(refine Put.tl (L' := ?_) ?_;rotate_left)));(exact Nat.le_of_ble_eq_true rfl);((simp only [List.setIfInBounds_toArray];exact rfl));(with_reducible first|exact one49)));(try clear K);(try clear ww);intro ww K;(try simp [go_sem] at K)))
            refine bodyPost_ret (K.res rfl _ rfl (At.tl At.hd) (by (with_reducible first|exact row51)) (by (exact rfl))) rfl ?_
            exact ⟨s, some ⟨g, 0, none⟩, n, rfl, ⟨⟨cur.toList, (sl_take (K.get .hd) HX.out.1 HX.out.2).rd, by rw [HTE.out]; exact K.fact⟩, HSD.out, .inl (Nw.mk _ _ _ (K.ge .hd))⟩, K.below⟩
end Go.Proofs.Yteancdipmpmjpaa
namespace Go.Proofs.Yteancdipmpmjpaa
open Go.RowKit
attribute [local irreducible] wpHeld wpTree wpList
set_option linter.unusedVariables false
theorem clamp17 (i n : Int) (w : World) (h : -1000000 ≤ n ∧ n ≤ 1000000) :
    Calls Try.prog 116 #[.int .i64 i, .int .i64 n] w fun e w' => e = .returned (.int .i64 (clI i n)) ∧ w = w' := by
  unfold clI
  obtain ⟨m, hm⟩ : ∃ m, max i 0 = m := ⟨_, rfl⟩
  obtain ⟨k, hk⟩ : ∃ k, n - 1 = k := ⟨_, rfl⟩
  rw [hm, hk]
  obtain ⟨r, hr⟩ : ∃ r, min m k = r := ⟨_, rfl⟩
  rw [hr]
  have e1 : wrap64 (n - 1) = k := w64e (by omega) (by omega) hk
  clear hk h
  go_enter Try.func116, Try.ntmps116
  go_wp2
  go_ret
  exact ⟨rfl, rfl⟩
theorem FAtX17 (k : Nat) (d r : Int) (p gb : Nat) (w : World) (hgb : gb < w.heap.size) (hc0 : w.cell? ⟨gb, 0, none⟩ = some (.int .i64 p)) (hp : 1 ≤ p ∧ p ≤ 64) (hk : k ≤ 5000) (hd : -1 ≤ d ∧ d ≤ 1) (hr : ((k / p : Nat) : Int) * p + clI (((k % p : Nat) : Int) + d) p = r) :
    Calls Try.prog 115 #[.int .i64 k, .int .i64 d, .pointer (some ⟨gb, 0, none⟩)] w fun e w' => e = .returned (.int .i64 r) ∧ Below w.heap.size w w' := by
  have K := St.start w
  obtain ⟨e, he⟩ : ∃ e, k % p = e := ⟨_, rfl⟩
  obtain ⟨y, hy⟩ : ∃ y, k / p = y := ⟨_, rfl⟩
  have he2 : e < p := by rw [← he]; exact Nat.mod_lt _ (by omega)
  have hy2 : y ≤ k := by rw [← hy]; exact Nat.div_le_self _ _
  have c1h : Hid ((k : Int).tmod (p : Int) = (e : Int)) := Lib.hid (by rw [Int.tmod_eq_emod_of_nonneg (by omega), ← Int.natCast_emod, he])
  have c2h : Hid ((k : Int).tdiv (p : Int) = (y : Int)) := Lib.hid (by rw [Int.tdiv_eq_ediv_of_nonneg (by omega), ← Int.natCast_ediv, hy])
  have c3h : Hid (IntKind.i64.wrap (y : Int) = y) := Lib.hid (IntWalk.i64_in _ (by omega))
  have c0 : (p = 0) = False := by simp; omega
  rw [he, hy] at hr
  obtain ⟨xd, hxd⟩ : ∃ xd, (e : Int) + d = xd := ⟨_, rfl⟩
  rw [hxd] at hr
  have CL := Lib.hid (fun w => clamp17 xd p w (by omega))
  have hcl : 0 ≤ clI xd p ∧ clI xd p ≤ 64 := by unfold clI; omega
  generalize clI xd p = cl at *
  have hR1 := Nat.mul_le_mul (Nat.le_trans hy2 hk) hp.2
  obtain ⟨R, hR⟩ : ∃ R, y * p = R := ⟨_, rfl⟩
  have hRI : (y : Int) * (p : Int) = (R : Int) := by rw [← Int.natCast_mul, hR]
  rw [hRI] at hr
  rw [hR] at hR1
  have e1h : Hid (IntKind.i64.wrap ((y : Int) * (p : Int)) = (R : Int)) := Lib.hid ((IntWalk.i64_in _ (by omega)).trans hRI)
  have e2h : Hid (IntKind.i64.wrap ((e : Int) + d) = xd) := Lib.hid ((IntWalk.i64_in _ (by omega)).trans hxd)
  have e3h : Hid (IntKind.i64.wrap ((R : Int) + cl) = r) := Lib.hid ((IntWalk.i64_in _ (by omega)).trans hr)
  clear hr hR hR1 hRI hxd hcl hd hp hk he hy he2 hy2
  have e1 := e1h.out
  have e2 := e2h.out
  have e3 := e3h.out
  have c1 := c1h.out
  have c2 := c2h.out
  have c3 := c3h.out
  go_enter Try.func115, Try.ntmps115
  go_wp2_with fail
  refine wm_held _ [(true, 0), (true, 1), (true, 2), (true, 3), (true, 4), (true, 5), (true, 6), (true, 7), (true, 8), (true, 9), (true, 10), (true, 11), (true, 12), (true, 13), (true, 14), (false, 15), (true, 16), (true, 17)] K sbz (by kernel_rfl) (by kernel_rfl) ?_; (try clear K); (try clear ww); intro ww K; (try simp [go_sem] at K); simp only [pick, List.getElem?_toArray, List.getElem?_cons_succ, List.getElem?_cons_zero]
  repeat (first|((with_reducible refine ht_load ?_);first|(refine hm_cell (v := ?_) rfl _ _ rfl rfl (fun ww K => ?_) ?_ ?_;rotate_left;(first|exact (K.below.cell (by assumption)).trans (by assumption));(with_reducible first|exact one3)))|(refine held_take (fun K' hK' => ?_);go_simp;first|(apply Exists.intro;refine ⟨?_, hK' _ ?_⟩;(intro _ _;rfl);clear hK' K'))|(refine held_do (fun K' hK' => ?_);go_simp;go_at_call 116;(with_reducible refine (CL.out _).mono ?_);rintro e w2 ⟨rfl, k1⟩;replace K := K.step (by first|exact below_of_eq k1);clear k1;(try clear ww);revert w2;intro ww K;(try dsimp only);refine hK' _ _ (by apply via sbz;first|exact K) ?_;clear hK' K'))
  refine held_nil ?_
  go_wp2_with fail
  go_ret
  exact ⟨rfl, K.below⟩
theorem FAtY17 (k : Nat) (d r : Int) (p q gb : Nat) (w : World) (hgb : gb < w.heap.size) (hc0 : w.cell? ⟨gb, 0, none⟩ = some (.int .i64 p)) (hc1 : w.cell? ⟨gb, 1, none⟩ = some (.int .i64 q)) (hp : 1 ≤ p ∧ p ≤ 64) (hq : 1 ≤ q ∧ q ≤ 64) (hk : k ≤ 5000) (hd : -1 ≤ d ∧ d ≤ 1) (hr : clI (((k / p : Nat) : Int) + d) q * p + ((k % p : Nat) : Int) = r) :
    Calls Try.prog 117 #[.int .i64 k, .int .i64 d, .pointer (some ⟨gb, 0, none⟩)] w fun e w' => e = .returned (.int .i64 r) ∧ Below w.heap.size w w' := by
  have K := St.start w
  obtain ⟨e, he⟩ : ∃ e, k % p = e := ⟨_, rfl⟩
  obtain ⟨y, hy⟩ : ∃ y, k / p = y := ⟨_, rfl⟩
  have he2 : e < p := by rw [← he]; exact Nat.mod_lt _ (by omega)
  have hy2 : y ≤ k := by rw [← hy]; exact Nat.div_le_self _ _
  have c1h : Hid ((k : Int).tmod (p : Int) = (e : Int)) := Lib.hid (by rw [Int.tmod_eq_emod_of_nonneg (by omega), ← Int.natCast_emod, he])
  have c2h : Hid ((k : Int).tdiv (p : Int) = (y : Int)) := Lib.hid (by rw [Int.tdiv_eq_ediv_of_nonneg (by omega), ← Int.natCast_ediv, hy])
  have c3h : Hid (IntKind.i64.wrap (y : Int) = y) := Lib.hid (IntWalk.i64_in _ (by omega))
  have c0 : (p = 0) = False := by simp; omega
  rw [he, hy] at hr
  obtain ⟨yd, hyd⟩ : ∃ yd, (y : Int) + d = yd := ⟨_, rfl⟩
  rw [hyd] at hr
  have CL := Lib.hid (fun w => clamp17 yd q w (by omega))
  have hcl : 0 ≤ clI yd q ∧ clI yd q ≤ 64 := by unfold clI; omega
  generalize clI yd q = cl at *
  have hR0 := Int.mul_nonneg hcl.1 (show 0 ≤ (p : Int) by omega)
  have hR1 := Int.mul_le_mul hcl.2 (show (p : Int) ≤ 64 by omega) (by omega) (by omega)
  obtain ⟨R, hR⟩ : ∃ R, cl * (p : Int) = R := ⟨_, rfl⟩
  rw [hR] at hr hR0 hR1
  have e1h : Hid (IntKind.i64.wrap (cl * (p : Int)) = R) := Lib.hid ((IntWalk.i64_in _ (by omega)).trans hR)
  have e2h : Hid (IntKind.i64.wrap ((y : Int) + d) = yd) := Lib.hid ((IntWalk.i64_in _ (by omega)).trans hyd)
  have e3h : Hid (IntKind.i64.wrap (R + (e : Int)) = r) := Lib.hid ((IntWalk.i64_in _ (by omega)).trans hr)
  clear hr hR hR0 hR1 hyd hcl hd hp hq hk he hy he2 hy2
  have e1 := e1h.out
  have e2 := e2h.out
  have e3 := e3h.out
  have c1 := c1h.out
  have c2 := c2h.out
  have c3 := c3h.out
  go_enter Try.func117, Try.ntmps117
  go_wp2_with fail
  refine wm_held _ [(true, 0), (true, 1), (true, 2), (true, 3), (true, 4), (true, 5), (true, 6), (true, 7), (true, 9), (true, 10), (true, 12), (true, 13), (true, 14), (true, 15), (false, 8), (true, 11), (true, 16), (true, 17)] K sbz (by kernel_rfl) (by kernel_rfl) ?_; (try clear K); (try clear ww); intro ww K; (try simp [go_sem] at K); simp only [pick, List.getElem?_toArray, List.getElem?_cons_succ, List.getElem?_cons_zero]
  repeat (first|((with_reducible refine ht_load ?_);first|(refine hm_cell (v := ?_) rfl _ _ rfl rfl (fun ww K => ?_) ?_ ?_;rotate_left;(first|exact (K.below.cell (by assumption)).trans (by assumption));(with_reducible first|exact one3)))|(refine held_take (fun K' hK' => ?_);go_simp;first|(apply Exists.intro;refine ⟨?_, hK' _ ?_⟩;(intro _ _;rfl);clear hK' K'))|(refine held_do (fun K' hK' => ?_);go_simp;go_at_call 116;(with_reducible refine (CL.out _).mono ?_);rintro e w2 ⟨rfl, k1⟩;replace K := K.step (by first|exact below_of_eq k1);clear k1;(try clear ww);revert w2;intro ww K;(try dsimp only);refine hK' _ _ (by apply via sbz;first|exact K) ?_;clear hK' K'))
  refine held_nil ?_
  go_wp2_with fail
  go_ret
  exact ⟨rfl, K.below⟩
theorem clD17 {i n : Nat} (h2 : i < n) : clI ((i : Int) + -1) n = ((i - 1 : Nat) : Int) := by unfold clI; omega
theorem clU17 {i n : Nat} (h2 : i < n) : clI ((i : Int) + 1) n = ((min (i + 1) (n - 1) : Nat) : Int) := by unfold clI; omega
theorem rowk_ix {p q n : Nat} (hn : q * p = n) (hp : 1 ≤ p) (hq : 1 ≤ q) {k : Nat} (hk : k < n) : ((k / p : Nat) : Int) * p + clI (((k % p : Nat) : Int) + -1) p = (rowA p k : Int) ∧ ((k / p : Nat) : Int) * p + clI (((k % p : Nat) : Int) + 1) p = (rowB p k : Int) := by
  have hm : k % p < p := Nat.mod_lt _ (by omega)
  rw [clD17 hm, clU17 hm]
  unfold rowA rowB
  push_cast
  exact ⟨rfl, rfl⟩
theorem colk_ix {p q n : Nat} (hn : q * p = n) (hp : 1 ≤ p) (hq : 1 ≤ q) {k : Nat} (hk : k < n) : clI (((k / p : Nat) : Int) + -1) q * p + ((k % p : Nat) : Int) = (colA p k : Int) ∧ clI (((k / p : Nat) : Int) + 1) q * p + ((k % p : Nat) : Int) = (colB p q k : Int) := by
  have hd : k / p < q := Nat.div_lt_of_lt_mul (by rw [Nat.mul_comm, hn]; exact hk)
  rw [clD17 hd, clU17 hd]
  unfold colA colB
  push_cast
  exact ⟨rfl, rfl⟩
set_option maxRecDepth 100000 in
set_option maxHeartbeats 8000000 in
theorem FPassX17 (p q gb qb qq : Nat) (A : Option Addr) (n c M : Nat) (xs : List Nat) (w : World) (h : Fn w A n xs) (hB : ∀ x ∈ xs, x < M) (hM0 : 0 < M) (hM : M * 256 < Lim) (hn : q * p = n) (hp : 1 ≤ p ∧ p ≤ 64) (hq : 1 ≤ q ∧ q ≤ 64) (hqq : qq ≤ 85)
    (hgb : gb < w.heap.size) (hqb : qb < w.heap.size) (hc0 : w.cell? ⟨gb, 0, none⟩ = some (.int .i64 p)) (hc1 : w.cell? ⟨gb, 1, none⟩ = some (.int .i64 q)) (hcq : w.cell? ⟨qb, 0, none⟩ = some (.int .u64 qq)) :
    Calls Try.prog 114 #[.slice A n c, .func (.func 115) #[] #[.pointer (some ⟨gb, 0, none⟩)], .pointer (some ⟨qb, 0, none⟩)] w fun e w' => ∃ A2 c2, e = .returned (.slice A2 n c2) ∧ (Fn w' A2 n (spr17 n qq (rowA p) (rowB p) xs) ∧ Nw w.heap.size A2) ∧ Below w.heap.size w w' := by
    have K := St.start w
    have hl := h.len
    have hn4 : n ≤ 4096 := by
      have := Nat.mul_le_mul hq.2 hp.2
      omega
    have hn5 : n ≤ 5000 := by omega
    have HR := Lib.hid h
    have HL := Lib.hid hl
    have HB := Lib.hid hB
    have HM := Lib.hid (And.intro hM0 hM)
    have HN := Lib.hid (And.intro hn (And.intro hp (And.intro hq hqq)))
    have AT := Lib.hid (fun (k : Nat) (d r : Int) (hk : k ≤ 5000) (hd : -1 ≤ d ∧ d ≤ 1) (w' : World) (hbel : Below w.heap.size w w') => fun hr => FAtX17 k d r p gb w' (Nat.lt_of_lt_of_le hgb hbel.size) ((hbel.cell hgb).trans hc0) hp hk hd hr)
    obtain ⟨T, hT⟩ : ∃ T, spr17 n qq (rowA p) (rowB p) xs = T := ⟨_, rfl⟩
    have HTE := Lib.hid hT
    have HTL : Hid (T.length = n) := Lib.hid (by rw [← hT]; exact genN_len _ _)
    have HTG : Hid (∀ k, k < n → T.getD k 0 = sprv17 qq (rowA p) (rowB p) xs k) := Lib.hid (fun k hk => by rw [← hT]; exact genN_get _ hk)
    clear hT
    obtain ⟨Z, hZ⟩ : ∃ Z : List Nat, List.replicate n 0 = Z := ⟨_, rfl⟩
    have HZL : Hid (Z.length = n) := Lib.hid (by rw [← hZ]; simp)
    have HZE := Lib.hid hZ
    clear h hl hB hM hM0 hn hp hq hqq hZ hn4
    go_enter Try.func114, Try.ntmps114
    go_wp2_with (first|((with_reducible refine at_makeSl ?_);refine wm_makeZ K rfl _ _ _ rfl Try.underlying49 infoNat Cell1.agg n rfl rfl (by omega) (by omega) (by omega) (by omega) ?_;(try clear K);(try clear ww);intro g ww K))
    have HZ0 : Hid (((List.replicate n (Value.slice none 0 0)).toArray : Array Value).size = n ∧ ∀ w, AllN w ((List.replicate n (Value.slice none 0 0)).toArray : Array Value).toList (T.take 0 ++ Z.drop 0)) := Lib.hid ⟨by simp, fun w => by rw [← HZE.out]; simpa using AllN.zeros w n⟩
    generalize (List.replicate n (Value.slice none 0 0)).toArray = cur0 at *
    go_loopw [13] (fun i wr => ∃ (k : Nat) (cur : Array Value), k ≤ n ∧ i = .int .i64 k ∧ Hid (cur.size = n) ∧ St w.heap.size w [(g, cur, 108)] (fun w => AllN w cur.toList (T.take k ++ Z.drop k)) wr) (fun i _ => n - (intOf i).toNat)
    case atStart => exact ⟨0, cur0, Nat.zero_le _, rfl, Lib.hid HZ0.out.1, K.weak fun w _ => HZ0.out.2 w⟩
    case round =>
      clear K HZ0
      obtain ⟨k, cur, hk0, rfl, HC, K⟩ := hrel
      by_cases hlt : k < n
      · have ht : decide ((k : Int) < n) = true := decide_eq_true (by omega)
        obtain ⟨hn, hp, hq, hqq⟩ := HN.out
        obtain ⟨hM0, hM⟩ := HM.out
        obtain ⟨i1, i3⟩ := rowk_ix (p := p) (q := q) (n := n) hn hp.1 hq.1 hlt
        obtain ⟨l1, l2, l3, l4⟩ := near_lt (W := p) (H := q) (k := k) (by omega) (by omega) (by omega)
        rw [hn] at l1 l2 l3 l4
        have hl1 : rowA p k < n := by first | exact l1 | exact l3
        have hl2 : rowB p k < n := by first | exact l2 | exact l4
        have A1 := Lib.hid (fun (w' : World) (hb : Below w.heap.size w w') => AT.out k (-1) _ (by omega) (by omega) w' hb i1)
        have A3 := Lib.hid (fun (w' : World) (hb : Below w.heap.size w w') => AT.out k 1 _ (by omega) (by omega) w' hb i3)
        clear i1 i3 l1 l2 l3 l4
        have hE := HTG.out k hlt
        unfold sprv17 at hE
        have gg := getDN_all (P := fun x => x < M) hM0 HB.out
        obtain ⟨jl, hjl⟩ : ∃ j, rowA p k = j := ⟨_, rfl⟩
        obtain ⟨jr, hjr⟩ : ∃ j, rowB p k = j := ⟨_, rfl⟩
        rw [hjl] at hl1 hE A1
        rw [hjr] at hl2 hE A3
        clear hjl hjr
        obtain ⟨b0, off, a2, k2, c2, rfl, hb, hc2, hx2, hk2⟩ := HR.out.get hlt
        obtain ⟨b1, off1, a1, k1, c1, e1, -, hc1, hx1, hk1⟩ := HR.out.get hl1
        obtain ⟨b3, off3, a3, k3, c3, e3, -, hc3, hx3, hk3⟩ := HR.out.get hl2
        cases e1
        cases e3
        have g1 := gg jl
        have g2 := gg k
        have g3 := gg jr
        generalize xs.getD jl 0 = x1 at *
        generalize xs.getD jr 0 = x3 at *
        generalize xs.getD k 0 = x2 at *
        have b1' : x1 * qq < Lim := Nat.lt_of_le_of_lt (Nat.mul_le_mul (Nat.le_of_lt g1) (show qq ≤ 256 by omega)) hM
        have b2' : x2 * (256 - 2 * qq) < Lim := Nat.lt_of_le_of_lt (Nat.mul_le_mul (Nat.le_of_lt g2) (show 256 - 2 * qq ≤ 256 by omega)) hM
        have b3' : x3 * qq < Lim := Nat.lt_of_le_of_lt (Nat.mul_le_mul (Nat.le_of_lt g3) (show qq ≤ 256 by omega)) hM
        have hS : [x1 * qq, x2 * (256 - 2 * qq), x3 * qq].sum < Lim := by
          have h1 := Nat.mul_le_mul_right qq (show x1 ≤ M - 1 by omega)
          have h2 := Nat.mul_le_mul_right (256 - 2 * qq) (show x2 ≤ M - 1 by omega)
          have h3 := Nat.mul_le_mul_right qq (show x3 ≤ M - 1 by omega)
          have e : (M - 1) * qq + (M - 1) * (256 - 2 * qq) + (M - 1) * qq = (M - 1) * 256 := by
            rw [← Nat.mul_add, ← Nat.mul_add]; congr 1; omega
          have e2 : (M - 1) * 256 ≤ M * 256 := Nat.mul_le_mul_right _ (by omega)
          simp only [List.sum_cons, List.sum_nil]
          omega
        have hE2 : [x1 * qq, x2 * (256 - 2 * qq), x3 * qq].sum = T.getD k 0 := by rw [hE]; simp only [List.sum_cons, List.sum_nil]; omega
        obtain ⟨t3, ht3⟩ : ∃ t3, 256 - 2 * qq = t3 := ⟨_, rfl⟩
        rw [ht3] at b2' hS hE2
        have HE : Hid (x1 * qq + (x2 * t3 + x3 * qq) = T.getD k 0) := Lib.hid (by rw [← hE2]; simp)
        have HB1 := Lib.hid b1'
        have HB2 := Lib.hid b2'
        have HB3 := Lib.hid b3'
        have HS := Lib.hid hS
        have HX1 := Lib.hid hx1
        have HX2 := Lib.hid hx2
        have HX3 := Lib.hid hx3
        have hq64 : qq ≤ 18446744073709551615 := by omega
        have ht64 : t3 ≤ 18446744073709551615 := by omega
        obtain ⟨t2, ht2⟩ : ∃ t2, 2 * (qq : Int) = t2 := ⟨_, rfl⟩
        have f1h : Hid (IntKind.u64.wrap (2 * (qq : Int)) = t2) := Lib.hid ((IntWalk.u64_in _ (by omega)).trans ht2)
        have f2h : Hid (IntKind.u64.wrap (256 - t2) = (t3 : Int)) := Lib.hid ((IntWalk.u64_in _ (by omega)).trans (by omega))
        have hink : k < cur.size := by rw [HC.out]; exact hlt
        clear hn hp hq hqq hM0 hM gg g1 g2 g3 hE hE2 b1' b2' b3' hS hx1 hx2 hx3 ht3 ht2
        go_wp2_with (fail)
        have f1 := f1h.out
        have f2 := f2h.out
        refine wm_held _ [(true, 0), (true, 1), (true, 2), (true, 3), (true, 4), (true, 8), (true, 10), (true, 11), (true, 12), (true, 13), (true, 14), (true, 15), (true, 16), (true, 18), (true, 19), (true, 20), (true, 24), (false, 5), (true, 6), (true, 7), (false, 9), (false, 17), (false, 21), (true, 22), (true, 23), (false, 25), (false, 26), (false, 27), (true, 28), (false, 29)] K sbz (by kernel_rfl) (by kernel_rfl) ?_; (try clear K); (try clear ww); intro ww K; (try simp [go_sem] at K); simp only [pick, List.getElem?_toArray, List.getElem?_cons_succ, List.getElem?_cons_zero]
        repeat (first|((with_reducible refine ht_load ?_);first|(refine hm_cell (v := ?_) rfl _ _ rfl rfl (fun ww K => ?_) ?_ ?_;rotate_left;(first|exact (K.below.cell (by assumption)).trans (by assumption));(with_reducible first|exact one23)))|(refine held_take (fun K' hK' => ?_);go_simp;first|(apply Exists.intro;refine ⟨?_, hK' _ ?_⟩;(intro _ _;rfl);clear hK' K'))|((with_reducible refine ht_load ?_);refine hm_far1 (v := ?_) rfl _ _ rfl rfl (fun ww K => ?_) ?_ ?_;rotate_left;(first|exact (K.below.cell (by assumption)).trans (by assumption));(with_reducible first|exact row108))|((with_reducible refine ht_store ?_);refine held_list rfl ?_;refine wm_putZ (L' := ?_) (cs := ?_) (new := ?_) (t := ?_) K rfl _ _ _ rfl rfl rfl rfl ?_ ?_ ?_ ?_ rfl ?_;rotate_left 4;(repeat (first|exact Put.hd|(refine Put.tl (L' := ?_) ?_;rotate_left)));(omega);exact rfl;(with_reducible first|exact row108);intro ww2 K2;(try simp [go_sem] at K2);refine wl_nil ⟨(by apply via sbz;first|exact K2.weak wk4), ?_⟩;replace K := K2;clear K2;(try clear ww);revert ww2;intro ww K)|(refine held_do (fun K' hK' => ?_);go_simp;go_at_call 115;(with_reducible refine (A1.out _ K.below).mono ?_);rintro e w2 ⟨rfl, k1⟩;replace K := K.step k1;clear k1;(try clear ww);revert w2;intro ww K;(try dsimp only);refine hK' _ _ (by apply via sbz;first|exact K) ?_;clear hK' K')|(refine held_do (fun K' hK' => ?_);go_simp;go_at_call 115;(with_reducible refine (A3.out _ K.below).mono ?_);rintro e w2 ⟨rfl, k1⟩;replace K := K.step k1;clear k1;(try clear ww);revert w2;intro ww K;(try dsimp only);refine hK' _ _ (by apply via sbz;first|exact K.weak wk2) ?_;clear hK' K')|(refine held_do (fun K' hK' => ?_);go_simp;go_at_call 77;(with_reducible refine (K.timesT qq rfl hq64 (HX1.out.below K.below) hk1 HB1.out).mono ?_);rintro e w2 ⟨_, _, rfl, K2⟩;(try dsimp only);refine hK' _ _ (by apply via sbz;first|exact K2.weak wk1) ?_;replace K := K2;clear hK' K' K2;(try clear ww);revert w2;intro ww K)|(refine held_do (fun K' hK' => ?_);go_simp;go_at_call 77;(with_reducible refine (K.timesT t3 rfl ht64 (HX2.out.below K.below) hk2 HB2.out).mono ?_);rintro e w2 ⟨_, _, rfl, K2⟩;(try dsimp only);refine hK' _ _ (by apply via sbz;first|exact K2.weak wk2) ?_;replace K := K2;clear hK' K' K2;(try clear ww);revert w2;intro ww K)|(refine held_do (fun K' hK' => ?_);go_simp;go_at_call 77;(with_reducible refine (K.timesT qq rfl hq64 (HX3.out.below K.below) hk3 HB3.out).mono ?_);rintro e w2 ⟨_, _, rfl, K2⟩;(try dsimp only);refine hK' _ _ (by apply via sbz;first|exact K2.weak wk3) ?_;replace K := K2;clear hK' K' K2;(try clear ww);revert w2;intro ww K)|((with_reducible refine ht_bsl ?_);refine held_list rfl ?_;refine wm_three K rfl _ _ _ _ rfl Try.underlying49 infoNat Cell1.agg rfl rfl rfl Cell1.agg Cell1.agg Cell1.agg ?_;intro bb ww2 K2;refine wl_nil ⟨(by apply via sbz;first|exact K2.tail.weak wk3), ?_⟩;replace K := K2;clear K2;(try clear ww);revert ww2;intro ww K)|(refine held_do (fun K' hK' => ?_);go_simp;go_at_call 96;have zz := K.sumT (n := 3) (c := 3) (nts_three (K.get .hd) K.fact.2.2.1 K.fact.2.1 K.fact.1) rfl (by decide) HS.out;(with_reducible refine zz.mono ?_);clear zz;rintro e w2 ⟨_, _, rfl, K2⟩;(try dsimp only);refine hK' _ _ (by apply via sbz;first|exact K2.weak wk4) ?_;replace K := K2;clear hK' K' K2;(try clear ww);revert w2;intro ww K))
        refine held_nil ?_
        clear f1 f2
        go_wp2_with fail
        exact ⟨⟨k + 1, _, by omega, by go_num, Lib.hid (by rw [Array.size_setIfInBounds]; exact HC.out), K.tail.weak fun w h => by
          have h1 := h.2.2.2.2.set (i := k) (by rw [mixN_len HTL.out HZL.out (by omega)]; exact hlt) h.1.1 h.1.2
          rw [HE.out, mixN_set HTL.out HZL.out hlt] at h1
          rw [Array.toList_setIfInBounds]; exact h1⟩, by simp [intOf]; omega⟩
      · obtain rfl : n = k := by omega
        have ht : decide ((n : Int) < n) = false := decide_eq_false (by omega)
        rw [show T.take n = T from List.take_of_length_le (by rw [HTL.out]; omega), show Z.drop n = [] from List.drop_of_length_le (by rw [HZL.out]; omega), List.append_nil] at K
        have HX : Hid (cur.toList.take n = cur.toList ∧ n ≤ cur.size) := Lib.hid ⟨List.take_of_length_le (by rw [Array.length_toList, HC.out]; exact Nat.le_refl _), by rw [HC.out]; exact Nat.le_refl _⟩
        go_wp2_with (fail)
        go_ret
        exact ⟨some ⟨g, 0, none⟩, n, rfl, ⟨⟨cur.toList, (sl_take (K.get .hd) HX.out.1 HX.out.2).rd, by rw [HTE.out]; exact K.fact⟩, Nw.mk _ _ _ (K.ge .hd)⟩, K.below⟩
set_option maxRecDepth 100000 in
set_option maxHeartbeats 8000000 in
theorem FPassY17 (p q gb qb qq : Nat) (A : Option Addr) (n c M : Nat) (xs : List Nat) (w : World) (h : Fn w A n xs) (hB : ∀ x ∈ xs, x < M) (hM0 : 0 < M) (hM : M * 256 < Lim) (hn : q * p = n) (hp : 1 ≤ p ∧ p ≤ 64) (hq : 1 ≤ q ∧ q ≤ 64) (hqq : qq ≤ 85)
    (hgb : gb < w.heap.size) (hqb : qb < w.heap.size) (hc0 : w.cell? ⟨gb, 0, none⟩ = some (.int .i64 p)) (hc1 : w.cell? ⟨gb, 1, none⟩ = some (.int .i64 q)) (hcq : w.cell? ⟨qb, 0, none⟩ = some (.int .u64 qq)) :
    Calls Try.prog 114 #[.slice A n c, .func (.func 117) #[] #[.pointer (some ⟨gb, 0, none⟩)], .pointer (some ⟨qb, 0, none⟩)] w fun e w' => ∃ A2 c2, e = .returned (.slice A2 n c2) ∧ (Fn w' A2 n (spr17 n qq (colA p) (colB p q) xs) ∧ Nw w.heap.size A2) ∧ Below w.heap.size w w' := by
    have K := St.start w
    have hl := h.len
    have hn4 : n ≤ 4096 := by
      have := Nat.mul_le_mul hq.2 hp.2
      omega
    have hn5 : n ≤ 5000 := by omega
    have HR := Lib.hid h
    have HL := Lib.hid hl
    have HB := Lib.hid hB
    have HM := Lib.hid (And.intro hM0 hM)
    have HN := Lib.hid (And.intro hn (And.intro hp (And.intro hq hqq)))
    have AT := Lib.hid (fun (k : Nat) (d r : Int) (hk : k ≤ 5000) (hd : -1 ≤ d ∧ d ≤ 1) (w' : World) (hbel : Below w.heap.size w w') => fun hr => FAtY17 k d r p q gb w' (Nat.lt_of_lt_of_le hgb hbel.size) ((hbel.cell hgb).trans hc0) ((hbel.cell hgb).trans hc1) hp hq hk hd hr)
    obtain ⟨T, hT⟩ : ∃ T, spr17 n qq (colA p) (colB p q) xs = T := ⟨_, rfl⟩
    have HTE := Lib.hid hT
    have HTL : Hid (T.length = n) := Lib.hid (by rw [← hT]; exact genN_len _ _)
    have HTG : Hid (∀ k, k < n → T.getD k 0 = sprv17 qq (colA p) (colB p q) xs k) := Lib.hid (fun k hk => by rw [← hT]; exact genN_get _ hk)
    clear hT
    obtain ⟨Z, hZ⟩ : ∃ Z : List Nat, List.replicate n 0 = Z := ⟨_, rfl⟩
    have HZL : Hid (Z.length = n) := Lib.hid (by rw [← hZ]; simp)
    have HZE := Lib.hid hZ
    clear h hl hB hM hM0 hn hp hq hqq hZ hn4
    go_enter Try.func114, Try.ntmps114
    go_wp2_with (first|((with_reducible refine at_makeSl ?_);refine wm_makeZ K rfl _ _ _ rfl Try.underlying49 infoNat Cell1.agg n rfl rfl (by omega) (by omega) (by omega) (by omega) ?_;(try clear K);(try clear ww);intro g ww K))
    have HZ0 : Hid (((List.replicate n (Value.slice none 0 0)).toArray : Array Value).size = n ∧ ∀ w, AllN w ((List.replicate n (Value.slice none 0 0)).toArray : Array Value).toList (T.take 0 ++ Z.drop 0)) := Lib.hid ⟨by simp, fun w => by rw [← HZE.out]; simpa using AllN.zeros w n⟩
    generalize (List.replicate n (Value.slice none 0 0)).toArray = cur0 at *
    go_loopw [13] (fun i wr => ∃ (k : Nat) (cur : Array Value), k ≤ n ∧ i = .int .i64 k ∧ Hid (cur.size = n) ∧ St w.heap.size w [(g, cur, 108)] (fun w => AllN w cur.toList (T.take k ++ Z.drop k)) wr) (fun i _ => n - (intOf i).toNat)
    case atStart => exact ⟨0, cur0, Nat.zero_le _, rfl, Lib.hid HZ0.out.1, K.weak fun w _ => HZ0.out.2 w⟩
    case round =>
      clear K HZ0
      obtain ⟨k, cur, hk0, rfl, HC, K⟩ := hrel
      by_cases hlt : k < n
      · have ht : decide ((k : Int) < n) = true := decide_eq_true (by omega)
        obtain ⟨hn, hp, hq, hqq⟩ := HN.out
        obtain ⟨hM0, hM⟩ := HM.out
        obtain ⟨i1, i3⟩ := colk_ix (p := p) (q := q) (n := n) hn hp.1 hq.1 hlt
        obtain ⟨l1, l2, l3, l4⟩ := near_lt (W := p) (H := q) (k := k) (by omega) (by omega) (by omega)
        rw [hn] at l1 l2 l3 l4
        have hl1 : colA p k < n := by first | exact l1 | exact l3
        have hl2 : colB p q k < n := by first | exact l2 | exact l4
        have A1 := Lib.hid (fun (w' : World) (hb : Below w.heap.size w w') => AT.out k (-1) _ (by omega) (by omega) w' hb i1)
        have A3 := Lib.hid (fun (w' : World) (hb : Below w.heap.size w w') => AT.out k 1 _ (by omega) (by omega) w' hb i3)
        clear i1 i3 l1 l2 l3 l4
        have hE := HTG.out k hlt
        unfold sprv17 at hE
        have gg := getDN_all (P := fun x => x < M) hM0 HB.out
        obtain ⟨jl, hjl⟩ : ∃ j, colA p k = j := ⟨_, rfl⟩
        obtain ⟨jr, hjr⟩ : ∃ j, colB p q k = j := ⟨_, rfl⟩
        rw [hjl] at hl1 hE A1
        rw [hjr] at hl2 hE A3
        clear hjl hjr
        obtain ⟨b0, off, a2, k2, c2, rfl, hb, hc2, hx2, hk2⟩ := HR.out.get hlt
        obtain ⟨b1, off1, a1, k1, c1, e1, -, hc1, hx1, hk1⟩ := HR.out.get hl1
        obtain ⟨b3, off3, a3, k3, c3, e3, -, hc3, hx3, hk3⟩ := HR.out.get hl2
        cases e1
        cases e3
        have g1 := gg jl
        have g2 := gg k
        have g3 := gg jr
        generalize xs.getD jl 0 = x1 at *
        generalize xs.getD jr 0 = x3 at *
        generalize xs.getD k 0 = x2 at *
        have b1' : x1 * qq < Lim := Nat.lt_of_le_of_lt (Nat.mul_le_mul (Nat.le_of_lt g1) (show qq ≤ 256 by omega)) hM
        have b2' : x2 * (256 - 2 * qq) < Lim := Nat.lt_of_le_of_lt (Nat.mul_le_mul (Nat.le_of_lt g2) (show 256 - 2 * qq ≤ 256 by omega)) hM
        have b3' : x3 * qq < Lim := Nat.lt_of_le_of_lt (Nat.mul_le_mul (Nat.le_of_lt g3) (show qq ≤ 256 by omega)) hM
        have hS : [x1 * qq, x2 * (256 - 2 * qq), x3 * qq].sum < Lim := by
          have h1 := Nat.mul_le_mul_right qq (show x1 ≤ M - 1 by omega)
          have h2 := Nat.mul_le_mul_right (256 - 2 * qq) (show x2 ≤ M - 1 by omega)
          have h3 := Nat.mul_le_mul_right qq (show x3 ≤ M - 1 by omega)
          have e : (M - 1) * qq + (M - 1) * (256 - 2 * qq) + (M - 1) * qq = (M - 1) * 256 := by
            rw [← Nat.mul_add, ← Nat.mul_add]; congr 1; omega
          have e2 : (M - 1) * 256 ≤ M * 256 := Nat.mul_le_mul_right _ (by omega)
          simp only [List.sum_cons, List.sum_nil]
          omega
        have hE2 : [x1 * qq, x2 * (256 - 2 * qq), x3 * qq].sum = T.getD k 0 := by rw [hE]; simp only [List.sum_cons, List.sum_nil]; omega
        obtain ⟨t3, ht3⟩ : ∃ t3, 256 - 2 * qq = t3 := ⟨_, rfl⟩
        rw [ht3] at b2' hS hE2
        have HE : Hid (x1 * qq + (x2 * t3 + x3 * qq) = T.getD k 0) := Lib.hid (by rw [← hE2]; simp)
        have HB1 := Lib.hid b1'
        have HB2 := Lib.hid b2'
        have HB3 := Lib.hid b3'
        have HS := Lib.hid hS
        have HX1 := Lib.hid hx1
        have HX2 := Lib.hid hx2
        have HX3 := Lib.hid hx3
        have hq64 : qq ≤ 18446744073709551615 := by omega
        have ht64 : t3 ≤ 18446744073709551615 := by omega
        obtain ⟨t2, ht2⟩ : ∃ t2, 2 * (qq : Int) = t2 := ⟨_, rfl⟩
        have f1h : Hid (IntKind.u64.wrap (2 * (qq : Int)) = t2) := Lib.hid ((IntWalk.u64_in _ (by omega)).trans ht2)
        have f2h : Hid (IntKind.u64.wrap (256 - t2) = (t3 : Int)) := Lib.hid ((IntWalk.u64_in _ (by omega)).trans (by omega))
        have hink : k < cur.size := by rw [HC.out]; exact hlt
        clear hn hp hq hqq hM0 hM gg g1 g2 g3 hE hE2 b1' b2' b3' hS hx1 hx2 hx3 ht3 ht2
        go_wp2_with (fail)
        have f1 := f1h.out
        have f2 := f2h.out
        refine wm_held _ [(true, 0), (true, 1), (true, 2), (true, 3), (true, 4), (true, 8), (true, 10), (true, 11), (true, 12), (true, 13), (true, 14), (true, 15), (true, 16), (true, 18), (true, 19), (true, 20), (true, 24), (false, 5), (true, 6), (true, 7), (false, 9), (false, 17), (false, 21), (true, 22), (true, 23), (false, 25), (false, 26), (false, 27), (true, 28), (false, 29)] K sbz (by kernel_rfl) (by kernel_rfl) ?_; (try clear K); (try clear ww); intro ww K; (try simp [go_sem] at K); simp only [pick, List.getElem?_toArray, List.getElem?_cons_succ, List.getElem?_cons_zero]
        repeat (first|((with_reducible refine ht_load ?_);first|(refine hm_cell (v := ?_) rfl _ _ rfl rfl (fun ww K => ?_) ?_ ?_;rotate_left;(first|exact (K.below.cell (by assumption)).trans (by assumption));(with_reducible first|exact one23)))|(refine held_take (fun K' hK' => ?_);go_simp;first|(apply Exists.intro;refine ⟨?_, hK' _ ?_⟩;(intro _ _;rfl);clear hK' K'))|((with_reducible refine ht_load ?_);refine hm_far1 (v := ?_) rfl _ _ rfl rfl (fun ww K => ?_) ?_ ?_;rotate_left;(first|exact (K.below.cell (by assumption)).trans (by assumption));(with_reducible first|exact row108))|((with_reducible refine ht_store ?_);refine held_list rfl ?_;refine wm_putZ (L' := ?_) (cs := ?_) (new := ?_) (t := ?_) K rfl _ _ _ rfl rfl rfl rfl ?_ ?_ ?_ ?_ rfl ?_;rotate_left 4;(repeat (first|exact Put.hd|(refine Put.tl (L' := ?_) ?_;rotate_left)));(omega);exact rfl;(with_reducible first|exact row108);intro ww2 K2;(try simp [go_sem] at K2);refine wl_nil ⟨(by apply via sbz;first|exact K2.weak wk4), ?_⟩;replace K := K2;clear K2;(try clear ww);revert ww2;intro ww K)|(refine held_do (fun K' hK' => ?_);go_simp;go_at_call 117;(with_reducible refine (A1.out _ K.below).mono ?_);rintro e w2 ⟨rfl, k1⟩;replace K := K.step k1;clear k1;(try clear ww);revert w2;intro ww K;(try dsimp only);refine hK' _ _ (by apply via sbz;first|exact K) ?_;clear hK' K')|(refine held_do (fun K' hK' => ?_);go_simp;go_at_call 117;(with_reducible refine (A3.out _ K.below).mono ?_);rintro e w2 ⟨rfl, k1⟩;replace K := K.step k1;clear k1;(try clear ww);revert w2;intro ww K;(try dsimp only);refine hK' _ _ (by apply via sbz;first|exact K.weak wk2) ?_;clear hK' K')|(refine held_do (fun K' hK' => ?_);go_simp;go_at_call 77;(with_reducible refine (K.timesT qq rfl hq64 (HX1.out.below K.below) hk1 HB1.out).mono ?_);rintro e w2 ⟨_, _, rfl, K2⟩;(try dsimp only);refine hK' _ _ (by apply via sbz;first|exact K2.weak wk1) ?_;replace K := K2;clear hK' K' K2;(try clear ww);revert w2;intro ww K)|(refine held_do (fun K' hK' => ?_);go_simp;go_at_call 77;(with_reducible refine (K.timesT t3 rfl ht64 (HX2.out.below K.below) hk2 HB2.out).mono ?_);rintro e w2 ⟨_, _, rfl, K2⟩;(try dsimp only);refine hK' _ _ (by apply via sbz;first|exact K2.weak wk2) ?_;replace K := K2;clear hK' K' K2;(try clear ww);revert w2;intro ww K)|(refine held_do (fun K' hK' => ?_);go_simp;go_at_call 77;(with_reducible refine (K.timesT qq rfl hq64 (HX3.out.below K.below) hk3 HB3.out).mono ?_);rintro e w2 ⟨_, _, rfl, K2⟩;(try dsimp only);refine hK' _ _ (by apply via sbz;first|exact K2.weak wk3) ?_;replace K := K2;clear hK' K' K2;(try clear ww);revert w2;intro ww K)|((with_reducible refine ht_bsl ?_);refine held_list rfl ?_;refine wm_three K rfl _ _ _ _ rfl Try.underlying49 infoNat Cell1.agg rfl rfl rfl Cell1.agg Cell1.agg Cell1.agg ?_;intro bb ww2 K2;refine wl_nil ⟨(by apply via sbz;first|exact K2.tail.weak wk3), ?_⟩;replace K := K2;clear K2;(try clear ww);revert ww2;intro ww K)|(refine held_do (fun K' hK' => ?_);go_simp;go_at_call 96;have zz := K.sumT (n := 3) (c := 3) (nts_three (K.get .hd) K.fact.2.2.1 K.fact.2.1 K.fact.1) rfl (by decide) HS.out;(with_reducible refine zz.mono ?_);clear zz;rintro e w2 ⟨_, _, rfl, K2⟩;(try dsimp only);refine hK' _ _ (by apply via sbz;first|exact K2.weak wk4) ?_;replace K := K2;clear hK' K' K2;(try clear ww);revert w2;intro ww K))
        refine held_nil ?_
        clear f1 f2
        go_wp2_with fail
        exact ⟨⟨k + 1, _, by omega, by go_num, Lib.hid (by rw [Array.size_setIfInBounds]; exact HC.out), K.tail.weak fun w h => by
          have h1 := h.2.2.2.2.set (i := k) (by rw [mixN_len HTL.out HZL.out (by omega)]; exact hlt) h.1.1 h.1.2
          rw [HE.out, mixN_set HTL.out HZL.out hlt] at h1
          rw [Array.toList_setIfInBounds]; exact h1⟩, by simp [intOf]; omega⟩
      · obtain rfl : n = k := by omega
        have ht : decide ((n : Int) < n) = false := decide_eq_false (by omega)
        rw [show T.take n = T from List.take_of_length_le (by rw [HTL.out]; omega), show Z.drop n = [] from List.drop_of_length_le (by rw [HZL.out]; omega), List.append_nil] at K
        have HX : Hid (cur.toList.take n = cur.toList ∧ n ≤ cur.size) := Lib.hid ⟨List.take_of_length_le (by rw [Array.length_toList, HC.out]; exact Nat.le_refl _), by rw [HC.out]; exact Nat.le_refl _⟩
        go_wp2_with (fail)
        go_ret
        exact ⟨some ⟨g, 0, none⟩, n, rfl, ⟨⟨cur.toList, (sl_take (K.get .hd) HX.out.1 HX.out.2).rd, by rw [HTE.out]; exact K.fact⟩, Nw.mk _ _ _ (K.ge .hd)⟩, K.below⟩
end Go.Proofs.Yteancdipmpmjpaa
namespace Go.Proofs.Yteancdipmpmjpaa
open Go.RowKit
attribute [local irreducible] wpHeld wpTree wpList
set_option linter.unusedVariables false
def sprd17 (p q qq : Nat) (xs : List Nat) : List Nat := spr17 (q * p) qq (colA p) (colB p q) (spr17 (q * p) qq (rowA p) (rowB p) xs)
theorem spr17_lt {n q M : Nat} {L R : Nat → Nat} {xs : List Nat} (hq : q ≤ 85) (h : ∀ x ∈ xs, x < M) (hM : 0 < M) : ∀ x ∈ spr17 n q L R xs, x < 256 * M := genN_mem fun i _ => sprv17_lt hq h hM i
theorem noT_of {t : TypeId} {L : List Blk} (h : (L.all fun p => p.2.2 != t) = true) : ∀ p ∈ L, t ≠ p.2.2 := fun p hp e => by
  have := List.all_eq_true.1 h p hp
  simp [e] at this
section
variable {B : Nat} {w0 w : World} {Lb : List Blk} {F : World → Prop}
theorem St.passX17 {p q gb qb qq n c M : Nat} {A : Option Addr} {xs : List Nat} {cs : Array Value} {t t2 : TypeId} (K : St B w0 Lb F w) (hL : (Lb.all fun p => p.2.2 != 24) = true) (h : Fn w A n xs) (hB : ∀ x ∈ xs, x < M) (hM0 : 0 < M) (hM : M * 256 < Lim) (hn : q * p = n) (hp : 1 ≤ p ∧ p ≤ 64) (hq : 1 ≤ q ∧ q ≤ 64) (hqq : qq ≤ 85) (hg : At Lb gb cs t) (hgq : At Lb qb #[.int .u64 qq] t2) (h0 : cs[0]? = some (.int .i64 p)) (h1 : cs[1]? = some (.int .i64 q)) :
    Calls Try.prog 114 #[.slice A n c, .func (.func 115) #[] #[.pointer (some ⟨gb, 0, none⟩)], .pointer (some ⟨qb, 0, none⟩)] w fun e w' => ∃ A2 c2, e = .returned (.slice A2 n c2) ∧ Nw B A2 ∧ St B w0 Lb (fun w => Fn w A2 n (spr17 n qq (rowA p) (rowB p) xs) ∧ F w) w' := by
    refine (FPassX17 p q gb qb qq A n c M xs w h hB hM0 hM hn hp hq hqq (K.lt hg) (K.lt hgq) ((K.get hg).cell h0) ((K.get hg).cell h1) ((K.get hgq).cell rfl)).mono ?_
    rintro e w' ⟨A2, c2, rfl, ⟨h2, hA⟩, hbel⟩
    exact ⟨A2, c2, rfl, hA.mono K.size, K.madeFn (noT_of hL) hbel h2 hA⟩
theorem St.passY17 {p q gb qb qq n c M : Nat} {A : Option Addr} {xs : List Nat} {cs : Array Value} {t t2 : TypeId} (K : St B w0 Lb F w) (hL : (Lb.all fun p => p.2.2 != 24) = true) (h : Fn w A n xs) (hB : ∀ x ∈ xs, x < M) (hM0 : 0 < M) (hM : M * 256 < Lim) (hn : q * p = n) (hp : 1 ≤ p ∧ p ≤ 64) (hq : 1 ≤ q ∧ q ≤ 64) (hqq : qq ≤ 85) (hg : At Lb gb cs t) (hgq : At Lb qb #[.int .u64 qq] t2) (h0 : cs[0]? = some (.int .i64 p)) (h1 : cs[1]? = some (.int .i64 q)) :
    Calls Try.prog 114 #[.slice A n c, .func (.func 117) #[] #[.pointer (some ⟨gb, 0, none⟩)], .pointer (some ⟨qb, 0, none⟩)] w fun e w' => ∃ A2 c2, e = .returned (.slice A2 n c2) ∧ Nw B A2 ∧ St B w0 Lb (fun w => Fn w A2 n (spr17 n qq (colA p) (colB p q) xs) ∧ F w) w' := by
    refine (FPassY17 p q gb qb qq A n c M xs w h hB hM0 hM hn hp hq hqq (K.lt hg) (K.lt hgq) ((K.get hg).cell h0) ((K.get hg).cell h1) ((K.get hgq).cell rfl)).mono ?_
    rintro e w' ⟨A2, c2, rfl, ⟨h2, hA⟩, hbel⟩
    exact ⟨A2, c2, rfl, hA.mono K.size, K.madeFn (noT_of hL) hbel h2 hA⟩
theorem St.lean17 {W H : Int} {A : Option Addr} {n c : Nat} {xs : List Nat} (K : St B w0 Lb F w) (hL : (Lb.all fun p => p.2.2 != 24) = true) (h : Fn w A n xs) (hF : ∀ w, F w → Fn w A n xs) (hA : Nw B A) (hn : n ≤ 5000) :
    Calls Try.prog 95 #[.agg #[.int .i64 W, .int .i64 H, .slice A n c]] w fun e w' => ∃ s A2 c2, e = .returned (.agg #[.int .i64 W, .int .i64 H, .slice A2 n c2]) ∧ ((∀ x ∈ xs, 2 ^ s ∣ x) ∧ Nw B A2) ∧ St B w0 Lb (fun w => Fn w A2 n (leanN s xs) ∧ F w) w' := by
  refine (Lean17 W H A n c xs w h hn).mono ?_
  rintro e w' ⟨s, A2, c2, rfl, ⟨h2, hd, hor⟩, hb⟩
  rcases hor with hN | ⟨rfl, rfl⟩
  · exact ⟨s, A2, c2, rfl, ⟨hd, hN.mono K.size⟩, K.madeFn (noT_of hL) hb h2 hN⟩
  · refine ⟨0, A2, c2, rfl, ⟨hd, hA⟩, (K.step hb).weak fun w h => ⟨?_, h⟩⟩
    rw [show leanN 0 xs = xs by unfold leanN; simp]
    exact hF w h
end
set_option maxRecDepth 100000 in
theorem Spread17 (p q qq n c M : Nat) (A : Option Addr) (xs : List Nat) (w : World) (h : Fn w A n xs) (hB : ∀ x ∈ xs, x < M) (hM0 : 0 < M) (hM : 256 * M * 256 < Lim) (hn : q * p = n) (hp : 1 ≤ p ∧ p ≤ 64) (hq : 1 ≤ q ∧ q ≤ 64) (hqq : qq ≤ 85) :
    Calls Try.prog 66 #[.agg #[.int .i64 p, .int .i64 q, .slice A n c], .int .u64 qq] w fun e w' => ∃ s A2 c2, e = .returned (.agg #[.int .i64 p, .int .i64 q, .slice A2 n c2]) ∧ (Fn w' A2 n (leanN s (sprd17 p q qq xs)) ∧ (∀ x ∈ sprd17 p q qq xs, 2 ^ s ∣ x) ∧ Nw w.heap.size A2) ∧ Below w.heap.size w w' := by
  have K := St.start w
  have hn5 : n ≤ 5000 := by
    have := Nat.mul_le_mul hq.2 hp.2
    omega
  unfold sprd17
  rw [hn]
  have HR := Lib.hid h
  have P1 := Lib.hid (fun (B : Nat) (w0 : World) (L : List Blk) (F : World → Prop) (w : World) (gb qb : Nat) (cs : Array Value) (t t2 : TypeId) (K : St B w0 L F w) hL (h : Fn w A n xs) hg hgq h0 h1 => K.passX17 (qq := qq) (p := p) (q := q) (gb := gb) (qb := qb) (c := c) (cs := cs) (t := t) (t2 := t2) hL h hB hM0 (by
    have : M * 256 ≤ 256 * M * 256 := Nat.mul_le_mul_right _ (by omega)
    omega) hn hp hq hqq hg hgq h0 h1)
  have P2 := Lib.hid (fun (B : Nat) (w0 : World) (L : List Blk) (F : World → Prop) (w : World) (gb qb : Nat) (cs : Array Value) (t t2 : TypeId) (A : Option Addr) (c : Nat) (K : St B w0 L F w) hL (h : Fn w A n (spr17 n qq (rowA p) (rowB p) xs)) hg hgq h0 h1 => K.passY17 (qq := qq) (p := p) (q := q) (gb := gb) (qb := qb) (c := c) (cs := cs) (t := t) (t2 := t2) hL h (spr17_lt hqq hB hM0) (by omega) hM hn hp hq hqq hg hgq h0 h1)
  clear h hB hM hn hp hq hqq hM0
  go_enter Try.func66, Try.ntmps66
  go_wp2_with (first|((with_reducible refine at_load ?_);first|(refine wm_load (cs := ?_) (t := ?_) (n := ?_) K rfl _ _ rfl rfl ?_ ?_ ?_ ?_;rotate_left 2;(repeat (first|exact At.hd|refine At.tl ?_));rotate_left;(with_reducible first|exact row51);(exact rfl))|(refine wm_own (cs := ?_) (t := ?_) (v := ?_) K rfl _ _ rfl rfl ?_ ?_ ?_ ?_;rotate_left 2;(repeat (first|exact At.hd|refine At.tl ?_));rotate_left;(exact rfl);(with_reducible first|exact one49)))|((with_reducible refine at_store ?_);(first|(refine wm_store (L' := ?_) (cs := ?_) (t := ?_) (n := ?_) K rfl _ _ _ rfl rfl rfl rfl ?_ ?_ ?_ ?_ ?_ ?_;rotate_left 3;(repeat (exact Put.hd));rotate_left;(with_reducible first|exact row51);(exact rfl);(exact rfl);(simp [Ones, Value.oneCell']))|(refine wm_put (L' := ?_) (cs := ?_) (new := ?_) (t := ?_) K rfl _ _ _ rfl rfl rfl rfl ?_ ?_ ?_ ?_ rfl rfl ?_;rotate_left 4;(repeat (first|exact Put.hd|(refine Put.tl (L' := ?_) ?_;rotate_left)));(exact Nat.le_of_ble_eq_true rfl);((simp only [List.setIfInBounds_toArray];exact rfl));(with_reducible first|exact one49)));(try clear K);(try clear ww);intro ww K;(try simp [go_sem] at K))|((first|((with_reducible refine at_box ?_);refine wm_box K rfl _ _ rfl rfl rfl ?_)|((with_reducible refine at_alloc ?_);refine wm_alloc (v := ?_) (cs := ?_) K rfl _ rfl ?_ ?_ ?_;rotate_left;(with_reducible first|exact zero51);rotate_left;exact rfl));(try clear K);(try clear ww);(first|((fail_if_success (have _h := r1));intro r1 ww K)|((fail_if_success (have _h := r2));intro r2 ww K)|((fail_if_success (have _h := r3));intro r3 ww K));(try simp [go_sem, Value.cells] at K))|(go_at_call 114;(first|(have zz := P1.out _ _ _ _ _ _ _ _ _ _ K rfl (HR.out.below K.below) (At.tl (At.tl At.hd)) (At.tl At.hd) rfl rfl;(with_reducible refine zz.mono ?_);clear zz;rintro e w2 ⟨A2, c2, rfl, hA2, K2⟩)|(have zz := (fun c => P2.out _ _ _ _ _ _ _ _ _ _ _ c K rfl K.fact.1 (At.tl (At.tl At.hd)) (At.tl At.hd) rfl rfl);(with_reducible refine (zz _).mono ?_);clear zz;rintro e w2 ⟨A3, c3, rfl, hA3, K2⟩));(try dsimp only);replace K := K2;clear K2;(try clear ww);revert w2;intro ww K)|(go_at_call 95;have zz := (fun W H c => K.lean17 (W := W) (H := H) (c := c) rfl K.fact.1 (fun _ h => h.1) hA3 hn5);(with_reducible refine (zz _ _ _).mono ?_);clear zz;rintro e w2 ⟨s, A4, c4, rfl, ⟨hd, hA4⟩, K2⟩;have HD := Lib.hid hd;clear hd;(try dsimp only);replace K := K2;clear K2;(try clear ww);revert w2;intro ww K))
  refine bodyPost_ret (K.res rfl _ rfl At.hd (by (with_reducible first | exact row51)) (by (solve | exact rfl | simp))) rfl ?_
  exact ⟨s, A4, c4, rfl, ⟨K.fact.1, HD.out, hA4⟩, K.below⟩
end Go.Proofs.Yteancdipmpmjpaa
namespace Go.Proofs.Yteancdipmpmjpaa
open Go.RowKit
attribute [local irreducible] wpHeld wpTree wpList
set_option linter.unusedVariables false
theorem St.frozenFn {B : Nat} {w0 w : World} {L : List Blk} {F : World → Prop} {b n : Nat} {cs : Array Value} {t : TypeId} {xs : List Nat} (K : St B w0 ((b, cs, t) :: L) F w) (hF : ∀ w, F w → AllN w cs.toList xs) (hn : cs.size = n) : St B w0 L (fun w => Fn w (some ⟨b, 0, none⟩) n xs ∧ F w) w :=
  (K.frozenRd rfl hn).weak fun w h => ⟨⟨_, h.1, hF w h.2⟩, h.2⟩
def wghN (xs : List Nat) (ls : List Int) : List Nat := genN xs.length fun i => xs.getD i 0 * (ls.getD i 0).toNat
theorem wghN_len (xs : List Nat) (ls : List Int) : (wghN xs ls).length = xs.length := genN_len _ _
set_option maxRecDepth 100000 in
set_option maxHeartbeats 8000000 in
theorem Weigh17 (W H : Int) (A A2 : Option Addr) (n c c2 M : Nat) (xs : List Nat) (ls : List Int) (w : World) (h : Fn w A n xs) (h2 : Rd w A2 n (ints .i64 ls)) (hb2 : ∀ l ∈ ls, 0 ≤ l ∧ l ≤ 65536) (hB : ∀ x ∈ xs, x < M) (hM0 : 0 < M) (hM : M * 65536 < Lim) (hn5 : n ≤ 5000) :
    Calls Try.prog 67 #[.agg #[.int .i64 W, .int .i64 H, .slice A n c], .slice A2 n c2] w fun e w' => ∃ s A3 c3, e = .returned (.agg #[.int .i64 W, .int .i64 H, .slice A3 n c3]) ∧ (Fn w' A3 n (leanN s (wghN xs ls)) ∧ (∀ x ∈ wghN xs ls, 2 ^ s ∣ x) ∧ Nw w.heap.size A3) ∧ Below w.heap.size w w' := by
  have K := St.start w
  have hl := h.len
  have hl2 : ls.length = n := by rw [← h2.1, ints_len]
  have HR := Lib.hid h
  have HR2 := Lib.hid h2
  have HL2 := Lib.hid hl2
  have HB := Lib.hid hB
  have HB2 := Lib.hid hb2
  have HM := Lib.hid (And.intro hM0 hM)
  obtain ⟨T, hT⟩ : ∃ T, wghN xs ls = T := ⟨_, rfl⟩
  have HTE := Lib.hid hT
  have HTL : Hid (T.length = n) := Lib.hid (by rw [← hT, wghN_len, hl])
  have HTG : Hid (∀ k, k < n → T.getD k 0 = xs.getD k 0 * (ls.getD k 0).toNat) := Lib.hid (fun k hk => by rw [← hT]; unfold wghN; rw [genN_get _ (by omega)])
  clear hT
  obtain ⟨Z, hZ⟩ : ∃ Z : List Nat, List.replicate n 0 = Z := ⟨_, rfl⟩
  have HZL : Hid (Z.length = n) := Lib.hid (by rw [← hZ]; simp)
  have HZE := Lib.hid hZ
  clear h hl h2 hl2 hb2 hB hM hM0 hZ
  go_enter Try.func67, Try.ntmps67
  go_wp2_with (first|((with_reducible refine at_makeSl ?_);refine wm_makeZ K rfl _ _ _ rfl Try.underlying49 infoNat Cell1.agg n rfl rfl (by omega) (by omega) (by omega) (by omega) ?_;(try clear K);(try clear ww);intro g ww K)|((with_reducible refine at_load ?_);first|(refine wm_own (cs := ?_) (t := ?_) (v := ?_) K rfl _ _ rfl rfl ?_ ?_ ?_ ?_;rotate_left 2;(repeat (first|exact At.hd|refine At.tl ?_));rotate_left;(exact rfl);(with_reducible first|exact one49)))|((first|((with_reducible refine at_box ?_);refine wm_box K rfl _ _ rfl rfl rfl ?_)|((with_reducible refine at_alloc ?_);refine wm_alloc (v := ?_) (cs := ?_) K rfl _ rfl ?_ ?_ ?_;rotate_left;(with_reducible first|exact zero51);rotate_left;exact rfl));(try clear K);(try clear ww);(first|((fail_if_success (have _h := b2));intro b2 ww K)|((fail_if_success (have _h := b4));intro b4 ww K));(try simp [go_sem, Value.cells] at K)))
  have HZ0 : Hid (((List.replicate n (Value.slice none 0 0)).toArray : Array Value).size = n ∧ ∀ w, AllN w ((List.replicate n (Value.slice none 0 0)).toArray : Array Value).toList (T.take 0 ++ Z.drop 0)) := Lib.hid ⟨by simp, fun w => by rw [← HZE.out]; simpa using AllN.zeros w n⟩
  generalize (List.replicate n (Value.slice none 0 0)).toArray = cur0 at *
  go_loopw [15] (fun i wr => ∃ (k : Nat) (cur : Array Value), k ≤ n ∧ i = .int .i64 k ∧ Hid (cur.size = n) ∧ St w.heap.size w [(g, cur, 108), (b4, #[.int .i64 0, .int .i64 0, .slice none 0 0], 51), (b2, #[.int .i64 W, .int .i64 H, .slice A n c], 51)] (fun w => AllN w cur.toList (T.take k ++ Z.drop k)) wr) (fun i _ => n - (intOf i).toNat)
  case atStart => exact ⟨0, cur0, Nat.zero_le _, rfl, Lib.hid HZ0.out.1, K.weak fun w _ => HZ0.out.2 w⟩
  case round =>
    clear K HZ0
    obtain ⟨k, cur, hk0, rfl, HC, K⟩ := hrel
    by_cases hlt : k < n
    · have ht : decide ((k : Int) < n) = true := decide_eq_true (by omega)
      have htn : decide (k < n) = true := decide_eq_true hlt
      obtain ⟨hM0, hM⟩ := HM.out
      have hE := HTG.out k hlt
      obtain ⟨b0, off, a, ka, ca, rfl, hb, hc, hx, hka⟩ := HR.out.get hlt
      obtain ⟨b1, off1, rfl, hb1, hc1⟩ := HR2.out.get hlt
      have hlil : k < ls.length := by rw [HL2.out]; exact hlt
      have hv := hc1 k _ (ints_get .i64 ls k hlil)
      have hz := HB2.out _ (getD_mem hlil)
      have g1 := getDN_all (P := fun x => x < M) hM0 HB.out k
      generalize xs.getD k 0 = x at *
      generalize ls.getD k 0 = z at *
      obtain ⟨y, rfl⟩ : ∃ y : Nat, z = y := ⟨z.toNat, by omega⟩
      rw [Int.toNat_natCast] at hE
      have hb' : x * y < Lim := Nat.lt_of_le_of_lt (Nat.mul_le_mul (Nat.le_of_lt g1) (show y ≤ 65536 by omega)) hM
      have HBX := Lib.hid hb'
      have HX := Lib.hid hx
      have HE := Lib.hid hE
      have hy64 : y ≤ 18446744073709551615 := by omega
      have m1h : Hid (max (y : Int) 0 = y) := Lib.hid (by omega)
      have m2h : Hid (IntKind.u64.wrap (y : Int) = y) := Lib.hid (IntWalk.u64_in _ (by omega))
      have hink : k < cur.size := by rw [HC.out]; exact hlt
      clear hM0 hM hE g1 hx hc1 hlil hz hb'
      go_wp2_with (first|((with_reducible refine at_load ?_);refine wm_far1 (v := ?_) rfl _ _ rfl rfl ?_ ?_ ?_;rotate_left;(first|exact (K.below.cell (by assumption)).trans (by assumption));(with_reducible first|exact row108))|((with_reducible refine at_store ?_);(first|(refine wm_store (L' := ?_) (cs := ?_) (t := ?_) (n := ?_) K rfl _ _ _ rfl rfl rfl rfl ?_ ?_ ?_ ?_ ?_ ?_;rotate_left 3;(repeat (exact Put.hd));rotate_left;(with_reducible first|exact row108);(exact rfl);(exact rfl);(simp [Ones, Value.oneCell'])));(try clear K);(try clear ww);intro ww K;(try simp [go_sem] at K))|((first|((with_reducible refine at_alloc ?_);refine wm_alloc (v := ?_) (cs := ?_) K rfl _ rfl ?_ ?_ ?_;rotate_left;(with_reducible first|exact zero108);rotate_left;exact rfl));(try clear K);(try clear ww);((fail_if_success (have _h := b7));intro b7 ww K);(try simp [go_sem, Value.cells] at K)))
      have m1 := m1h.out
      have m2 := m2h.out
      refine wm_held _ [(true, 0), (true, 1), (true, 2), (true, 3), (true, 4), (true, 5), (true, 6), (true, 7), (true, 8), (false, 9), (true, 10), (false, 11)] K sb1s (by kernel_rfl) (by kernel_rfl) ?_; (try clear K); (try clear ww); intro ww K; (try simp [go_sem] at K); simp only [pick, List.getElem?_toArray, List.getElem?_cons_succ, List.getElem?_cons_zero]
      repeat (first|((with_reducible refine ht_load ?_);first|(refine hm_load (cs := ?_) (t := ?_) (n := ?_) rfl _ _ rfl rfl ?_ ?_ ?_ ?_;rotate_left 2;(repeat (exact At.hd));rotate_left;(with_reducible first|exact row108);(exact rfl))|(refine hm_cell (v := ?_) rfl _ _ rfl rfl (fun ww K => ?_) ?_ ?_;rotate_left;(first|exact (K.below.cell (by assumption)).trans (by assumption));(with_reducible first|exact one2)))|(refine held_take (fun K' hK' => ?_);go_simp;first|(apply Exists.intro;refine ⟨?_, hK' _ ?_⟩;(intro _ _;rfl);clear hK' K'))|((with_reducible refine ht_store ?_);refine held_list rfl ?_;refine wm_putZ (L' := ?_) (cs := ?_) (new := ?_) (t := ?_) K rfl _ _ _ rfl rfl rfl rfl ?_ ?_ ?_ ?_ rfl ?_;rotate_left 4;(repeat (first|exact Put.hd|(refine Put.tl (L' := ?_) ?_;rotate_left)));(omega);exact rfl;(with_reducible first|exact row108);intro ww2 K2;(try simp [go_sem] at K2);refine wl_nil ⟨(by apply via sb1s;first|exact K2.weak wk1), ?_⟩;replace K := K2;clear K2;(try clear ww);revert ww2;intro ww K)|(refine held_do (fun K' hK' => ?_);go_simp;go_at_call 77;(with_reducible refine (K.timesT y rfl hy64 (HX.out.below K.below) hka HBX.out).mono ?_);rintro e w2 ⟨_, _, rfl, K2⟩;(try dsimp only);refine hK' _ _ (by apply via sb1s;first|exact K2.weak wk1) ?_;replace K := K2;clear hK' K' K2;(try clear ww);revert w2;intro ww K))
      refine held_nil ?_
      clear m1 m2
      go_wp2_with fail
      exact ⟨⟨k + 1, _, by omega, by go_num, Lib.hid (by rw [Array.size_setIfInBounds]; exact HC.out), K.tail.weak fun w h => by
        have h1 := h.2.set (i := k) (by rw [mixN_len HTL.out HZL.out (by omega)]; exact hlt) h.1.1 h.1.2
        rw [← HE.out, mixN_set HTL.out HZL.out hlt] at h1
        rw [Array.toList_setIfInBounds]; exact h1⟩, by simp [intOf]; omega⟩
    · obtain rfl : n = k := by omega
      have ht : decide ((n : Int) < n) = false := decide_eq_false (by omega)
      rw [show T.take n = T from List.take_of_length_le (by rw [HTL.out]; omega), show Z.drop n = [] from List.drop_of_length_le (by rw [HZL.out]; omega), List.append_nil] at K
      have K2 := K.frozenFn (xs := T) (fun w h => h) HC.out
      have hgA : Nw w.heap.size (some ⟨g, 0, none⟩) := Nw.mk _ _ _ (K.ge .hd)
      clear K
      replace K := K2
      clear K2
      revert wr
      intro ww K
      go_wp2_with (first|((with_reducible refine at_load ?_);first|(refine wm_load (cs := ?_) (t := ?_) (n := ?_) K rfl _ _ rfl rfl ?_ ?_ ?_ ?_;rotate_left 2;(repeat (first|exact At.hd|refine At.tl ?_));rotate_left;(with_reducible first|exact row51);(exact rfl)))|((with_reducible refine at_store ?_);(first|(refine wm_store (L' := ?_) (cs := ?_) (t := ?_) (n := ?_) K rfl _ _ _ rfl rfl rfl rfl ?_ ?_ ?_ ?_ ?_ ?_;rotate_left 3;(repeat (exact Put.hd));rotate_left;(with_reducible first|exact row51);(exact rfl);(exact rfl);(simp [Ones, Value.oneCell']))|(refine wm_put (L' := ?_) (cs := ?_) (new := ?_) (t := ?_) K rfl _ _ _ rfl rfl rfl rfl ?_ ?_ ?_ ?_ rfl rfl ?_;rotate_left 4;(repeat (first|exact Put.hd|(refine Put.tl (L' := ?_) ?_;rotate_left)));(exact Nat.le_of_ble_eq_true rfl);((simp only [List.setIfInBounds_toArray];exact rfl));(with_reducible first|exact one49)));(try clear K);(try clear ww);intro ww K;(try simp [go_sem] at K))|(go_at_call 95;have zz := (fun W H c => K.lean17 (W := W) (H := H) (c := c) rfl K.fact.1 (fun _ h => h.1) hgA hn5);(with_reducible refine (zz _ _ _).mono ?_);clear zz;rintro e w2 ⟨s, A4, c4, rfl, ⟨hd, hA4⟩, K2⟩;have HD := Lib.hid hd;clear hd;(try dsimp only);replace K := K2;clear K2;(try clear ww);revert w2;intro ww K))
      refine bodyPost_ret (K.res rfl _ rfl At.hd (by (with_reducible first | exact row51 | exact row108)) (by (solve | exact rfl | simp))) rfl ?_
      exact ⟨s, A4, c4, rfl, ⟨by rw [HTE.out]; exact K.fact.1, by rw [HTE.out]; exact HD.out, hA4⟩, K.below⟩
end Go.Proofs.Yteancdipmpmjpaa
