/-
  Lemmas and walks of this claim (the texts Ea17 Eb17 Pr17 Pt17 Pq18 Pr18 Ps18 Pv18 Pw18 Pz18 Da18 Db18 of the work; what no proof here uses is left out). No claim of their own.
-/
import Derived.Test.YteancdipmpmjpaaMD31
import Derived.Test.YteancdipmpmjpaaMD27
import Derived.Test.YteancdipmpmjpaaMD5
import Derived.Test.YteancdipmpmjpaaMD12
import Derived.Test.YteancdipmpmjpaaMD24
import Derived.Test.YteancdipmpmjpaaMD28
import Derived.Test.YteancdipmpmjpaaMD16
import Derived.Test.YteancdipmpmjpaaMD26
import Derived.Test.YteancdipmpmjpaaMD1
import Derived.Test.YteancdipmpmjpaaMD14
import Derived.Test.YteancdipmpmjpaaMD25
set_option linter.all false
set_option linter.unusedSimpArgs false
set_option linter.unusedVariables false
namespace Go.Proofs.Yteancdipmpmjpaa
open Go.RowKit
attribute [local irreducible] wpHeld wpTree wpList
set_option linter.unusedVariables false
set_option linter.unusedSimpArgs false
def bigOps (os : List OpRec) : Bool := decide (8 < os.length) || os.any fun r => decide (300 < r.ln)
theorem Light17 (A : Option Addr) (n c : Nat) (os : List OpRec) (v : Int) (w : World) (h : Ops w A n os) (hv : (if bigOps os = true then (1 : Int) else 0) = v) :
    Calls Try.prog 27 #[.slice A n c] w fun e w' => e = .returned (.int .i64 v) ∧ Below w.heap.size w w' := by
  have K := St.start w
  have HV := Lib.hid hv
  have HO := Lib.hid h
  have HL := Lib.hid h.1
  clear h hv
  by_cases h8 : 8 < n
  · have t1 : decide (8 < n) = true := decide_eq_true h8
    have t1' : decide (8 < (n : Int)) = true := decide_eq_true (by omega)
    have hb : bigOps os = true := by unfold bigOps; rw [HL.out, t1]; rfl
    have hvt : v = 1 := by rw [← HV.out, hb]; rfl
    clear hb
    go_enter Try.func27, Try.ntmps27
    go_wp2_with (fail)
    go_ret
    exact ⟨by first | rfl | (rw [hvt]; rfl), K.below⟩
  · have t1 : decide (8 < n) = false := decide_eq_false h8
    have t1' : decide (8 < (n : Int)) = false := decide_eq_false (by omega)
    have hb : bigOps os = os.any fun r => decide (300 < r.ln) := by unfold bigOps; rw [HL.out, t1]; rfl
    rw [hb] at HV
    have HP : Hid ((os.take 0).any (fun r => decide (300 < r.ln)) = false) := Lib.hid rfl
    clear hb
    go_enter Try.func27, Try.ntmps27
    go_wp2_with (fail)
    go_loopw [3] (fun i wr => ∃ (k : Nat), k ≤ n ∧ i = .int .i64 k ∧ Hid ((os.take k).any (fun r => decide (300 < r.ln)) = false) ∧ St w.heap.size w [] Any wr) (fun i _ => n - (intOf i).toNat)
    case atStart => exact ⟨0, Nat.zero_le _, rfl, HP, K⟩
    case round =>
      clear K HP
      obtain ⟨i, hi, rfl, HP, K⟩ := hrel
      by_cases hlt : i < n
      · have ht : decide ((i : Int) < n) = true := decide_eq_true (by omega)
        have htn : decide (i < n) = true := decide_eq_true hlt
        obtain ⟨b, off, r, rfl, hb, hr, hg, hc⟩ := HO.out.2 i hlt
        have hv := hc 2 _ rfl
        have hil : i < os.length := by rw [HL.out]; exact hlt
        have htk : os.take (i + 1) = os.take i ++ [r] := by
          rw [List.take_succ_eq_append_getElem hil]
          have := List.getElem?_eq_getElem hil
          rw [hr] at this
          injection this with this
          rw [this]
        by_cases h3 : 300 < r.ln
        · have t2 : decide (300 < r.ln) = true := decide_eq_true h3
          have t2' : decide (300 < (r.ln : Int)) = true := decide_eq_true (by omega)
          have hbv : (os.any fun r => decide (300 < r.ln)) = true := by
            rw [List.any_eq_true]
            exact ⟨r, List.mem_of_getElem? hr, t2⟩
          have hvt : v = 1 := by rw [← HV.out, hbv]; rfl
          clear hc hr hg htk hbv h3
          obtain ⟨kd, q, la, ln, lc, ls, x, y, cw, ch⟩ := r
          dsimp only [opCells] at hv t2 t2'
          go_wp2_with (first|((with_reducible refine at_load ?_);first|(refine wm_cell (v := ?_) rfl _ _ rfl rfl ?_ ?_ ?_;rotate_left;(first|exact (K.below.cell (by assumption)).trans (by assumption));(with_reducible first|exact one42))))
          go_ret
          exact ⟨by first | rfl | (rw [hvt]; rfl), K.below⟩
        · have t2 : decide (300 < r.ln) = false := decide_eq_false h3
          have t2' : decide (300 < (r.ln : Int)) = false := decide_eq_false (by omega)
          have HP2 : Hid ((os.take (i + 1)).any (fun r => decide (300 < r.ln)) = false) := Lib.hid (by rw [htk, List.any_append, HP.out]; simp [t2])
          clear hc hr hg htk h3
          obtain ⟨kd, q, la, ln, lc, ls, x, y, cw, ch⟩ := r
          dsimp only [opCells] at hv t2 t2'
          go_wp2_with (first|((with_reducible refine at_load ?_);first|(refine wm_cell (v := ?_) rfl _ _ rfl rfl ?_ ?_ ?_;rotate_left;(first|exact (K.below.cell (by assumption)).trans (by assumption));(with_reducible first|exact one42))))
          exact ⟨⟨i + 1, by omega, by go_num, HP2, K⟩, by simp [intOf]; omega⟩
      · obtain rfl : n = i := by omega
        have ht : decide ((n : Int) < n) = false := decide_eq_false (by omega)
        have htn : decide (n < n) = false := decide_eq_false (by omega)
        have hbv : (os.any fun r => decide (300 < r.ln)) = false := by
          have := HP.out
          rwa [List.take_of_length_le (by rw [HL.out]; exact Nat.le_refl _)] at this
        have hvf : v = 0 := by rw [← HV.out, hbv]; rfl
        clear hbv
        go_wp2_with (fail)
        go_ret
        exact ⟨by first | rfl | (rw [hvf]; rfl), K.below⟩
theorem Sides17 (kd q x y cw ch : Int) (la : Option Addr) (ln lc : Nat) (w : World) (h5 : 0 ≤ cw ∧ cw ≤ 255) (h6 : 0 ≤ ch ∧ ch ≤ 255) :
    Calls Try.prog 68 #[.agg #[.int .u8 kd, .int .u8 q, .slice la ln lc, .int .i8 x, .int .i8 y, .int .u8 cw, .int .u8 ch]] w fun e w' => e = .returned (.tuple #[.int .i64 (1 + cw % 8), .int .i64 (1 + ch % 8)]) ∧ Below w.heap.size w w' := by
  have K := St.start w
  obtain ⟨W, hW⟩ : ∃ W, 1 + cw % 8 = W := ⟨_, rfl⟩
  obtain ⟨V, hV⟩ : ∃ V, 1 + ch % 8 = V := ⟨_, rfl⟩
  rw [hW, hV]
  have m1h : Hid (IntKind.i64.wrap cw = cw) := Lib.hid (IntWalk.i64_in _ (by omega))
  have m2h : Hid (IntKind.i64.wrap ch = ch) := Lib.hid (IntWalk.i64_in _ (by omega))
  have m3h : Hid (cw.tmod 8 = cw % 8) := Lib.hid (Int.tmod_eq_emod_of_nonneg h5.1)
  have m4h : Hid (ch.tmod 8 = ch % 8) := Lib.hid (Int.tmod_eq_emod_of_nonneg h6.1)
  have m5h : Hid (IntKind.i64.wrap (1 + cw % 8) = W) := Lib.hid ((IntWalk.i64_in _ (by omega)).trans hW)
  have m6h : Hid (IntKind.i64.wrap (1 + ch % 8) = V) := Lib.hid ((IntWalk.i64_in _ (by omega)).trans hV)
  clear hW hV h5 h6
  have m1 := m1h.out
  have m2 := m2h.out
  have m3 := m3h.out
  have m4 := m4h.out
  have m5 := m5h.out
  have m6 := m6h.out
  go_enter Try.func68, Try.ntmps68
  go_wp2_with (first|((first|((with_reducible refine at_box ?_);refine wm_box K rfl _ _ rfl rfl rfl ?_));(try clear K);(try clear ww);((fail_if_success (have _h := b1));intro b1 ww K);(try simp [go_sem, Value.cells] at K)))
  refine wm_held _ [(true, 0), (true, 1), (true, 2), (true, 3), (true, 4), (true, 5), (true, 6), (true, 7), (true, 8), (true, 9), (true, 10), (true, 11)] K sbr (by kernel_rfl) (by kernel_rfl) ?_; (try clear K); (try clear ww); intro ww K; (try simp [go_sem] at K); simp only [pick, List.getElem?_toArray, List.getElem?_cons_succ, List.getElem?_cons_zero]
  repeat (first|((with_reducible refine ht_load ?_);first|(refine hm_own (cs := ?_) (t := ?_) (v := ?_) rfl _ _ rfl rfl ?_ ?_ ?_ ?_;rotate_left 2;(repeat (exact At.hd));rotate_left;(exact rfl);(with_reducible first|exact one5)))|(refine held_take (fun K' hK' => ?_);go_simp;first|(apply Exists.intro;refine ⟨?_, hK' _ ?_⟩;(intro _ _;rfl);clear hK' K')))
  refine held_nil ?_
  clear m1 m2 m3 m4 m5 m6
  go_wp2_with fail
  refine bodyPost_ret (results_tmp2 rfl _ _ _) rfl ?_
  exact ⟨rfl, K.below⟩
end Go.Proofs.Yteancdipmpmjpaa
namespace Go.Proofs.Yteancdipmpmjpaa
open Go.RowKit
attribute [local irreducible] wpHeld wpTree wpList
set_option linter.unusedVariables false
section
variable {P : Program} {B : Nat} {w0 w : World} {L : List Blk} {F : World → Prop}
end
def scl (s : Nat) (xs : List Nat) : List Nat := xs.map (· * 2 ^ s)
theorem scl_len (s : Nat) (xs : List Nat) : (scl s xs).length = xs.length := by simp [scl]
theorem scl_get {s : Nat} {xs : List Nat} (i : Nat) : (scl s xs).getD i 0 = xs.getD i 0 * 2 ^ s := by
  unfold scl
  rw [List.getD, List.getD, List.getElem?_map]
  cases xs[i]? <;> simp
theorem scl_gen {s n : Nat} {f g : Nat → Nat} (h : ∀ i, g i = f i * 2 ^ s) : genN n g = scl s (genN n f) := by
  unfold genN scl
  rw [List.map_map]
  exact List.map_congr_left fun i _ => h i
theorem scl_sum (s : Nat) (xs : List Nat) : (scl s xs).sum = xs.sum * 2 ^ s := by
  induction xs with
  | nil => simp [scl]
  | cons a r ih =>
    have e : scl s (a :: r) = (a * 2 ^ s) :: scl s r := rfl
    rw [e, List.sum_cons, List.sum_cons, ih, Nat.add_mul]
theorem scl_scl (s t : Nat) (xs : List Nat) : scl t (scl s xs) = scl (s + t) xs := by
  unfold scl
  rw [List.map_map]
  exact List.map_congr_left fun x _ => by simp [Nat.pow_add, Nat.mul_assoc]
theorem scl_lean {s : Nat} {xs : List Nat} (h : ∀ x ∈ xs, 2 ^ s ∣ x) : scl s (leanN s xs) = xs := by
  unfold scl leanN
  rw [List.map_map]
  conv => rhs; rw [← List.map_id xs]
  exact List.map_congr_left fun x hx => by simp [Nat.div_mul_cancel (h x hx)]
theorem scl_ge {s : Nat} {xs : List Nat} {M : Nat} (h : ∀ y ∈ scl s xs, y < M) : ∀ x ∈ xs, x < M := fun x hx => by
  have := h (x * 2 ^ s) (List.mem_map.2 ⟨x, hx, rfl⟩)
  exact Nat.lt_of_le_of_lt (Nat.le_mul_of_pos_right _ (Nat.two_pow_pos s)) this
theorem scl_spr {s n q : Nat} {L R : Nat → Nat} {xs : List Nat} : spr17 n q L R (scl s xs) = scl s (spr17 n q L R xs) := by
  unfold spr17
  refine scl_gen fun i => ?_
  unfold sprv17
  rw [scl_get, scl_get, scl_get, Nat.add_mul, Nat.add_mul, Nat.mul_right_comm, Nat.mul_right_comm (xs.getD i 0), Nat.mul_right_comm (xs.getD (R i) 0)]
theorem scl_sprd {s p q qq : Nat} {xs : List Nat} : sprd17 p q qq (scl s xs) = scl s (sprd17 p q qq xs) := by
  unfold sprd17
  rw [scl_spr, scl_spr]
theorem scl_wgh {s : Nat} {xs : List Nat} {ls : List Int} : wghN (scl s xs) ls = scl s (wghN xs ls) := by
  unfold wghN
  rw [scl_len]
  exact scl_gen fun i => by rw [scl_get, Nat.mul_right_comm]
theorem scl_cut {s m : Nat} {W H x y w : Int} {xs : List Nat} : cutN W H (scl s xs) x y w m = scl s (cutN W H xs x y w m) := by
  unfold cutN
  refine scl_gen fun i => ?_
  unfold cutvN
  split
  · exact scl_get _
  · simp
theorem scl_split {s p P2 m : Nat} {xs : List Nat} : splitN p P2 (scl s xs) m = scl s (splitN p P2 xs m) := scl_gen fun i => scl_get _
theorem scl_join {s p m n4 : Nat} {xs : List Nat} : joinN p m (scl s xs) n4 = scl s (joinN p m xs n4) := by
  unfold joinN
  refine scl_gen fun i => ?_
  unfold joinvN
  rw [scl_get, scl_get, scl_get, scl_get, Nat.add_mul, Nat.add_mul, Nat.add_mul]
def M17 (k : Nat) : Nat := 1073741825 * 65536 ^ k
theorem M17_pos (k : Nat) : 0 < M17 k := Nat.mul_pos (by decide) (Nat.pow_pos (by decide))
theorem M17_succ (k : Nat) : M17 (k + 1) = M17 k * 65536 := by unfold M17; rw [Nat.pow_succ, Nat.mul_assoc]
theorem M17_le (k : Nat) (h : k ≤ 9) : M17 k ≤ 1073741825 * 65536 ^ 9 := Nat.mul_le_mul_left _ (Nat.pow_le_pow_right (by decide) h)
theorem lt_lim {X m : Nat} (h : X < 4294967296 ^ m) (hm : m ≤ 1000) : X < Lim := by
  have e : 4294967296 ^ m ≤ Lim := by
    unfold Lim
    generalize 1000 = k at *
    exact Nat.pow_le_pow_right (by omega) hm
  omega
theorem M17_20 {k : Nat} (h : k ≤ 9) : M17 k * 4294967296 ^ 5 < 4294967296 ^ 20 := Nat.lt_of_le_of_lt (Nat.mul_le_mul_right _ (M17_le k h)) (by decide +kernel)
theorem M17_lim {k : Nat} (h : k ≤ 9) : M17 k * 4294967296 ^ 5 < Lim := lt_lim (M17_20 h) (by omega)
structure Both (k p q n : Nat) (xs ys : List Nat) : Prop where
  hn : q * p = n
  hp : 1 ≤ p ∧ p ≤ 8
  hq : 1 ≤ q ∧ q ≤ 8
  hl : xs.length = n
  rel : ∃ s, ys = scl s xs
  bd : ∀ y ∈ ys, y < M17 k
theorem Both.xb {k p q n : Nat} {xs ys : List Nat} (h : Both k p q n xs ys) : ∀ x ∈ xs, x < M17 k := by
  obtain ⟨s, rfl⟩ := h.rel
  exact scl_ge h.bd
theorem Both.n64 {k p q n : Nat} {xs ys : List Nat} (h : Both k p q n xs ys) : 1 ≤ n ∧ n ≤ 64 := by
  have a := Nat.mul_le_mul h.hq.2 h.hp.2
  have b := Nat.mul_le_mul h.hq.1 h.hp.1
  have := h.hn
  omega
theorem Both.up {k p q n : Nat} {xs ys : List Nat} (h : Both k p q n xs ys) : Both (k + 1) p q n xs ys :=
  ⟨h.hn, h.hp, h.hq, h.hl, h.rel, fun y hy => Nat.lt_of_lt_of_le (h.bd y hy) (by rw [M17_succ]; exact Nat.le_mul_of_pos_right _ (by decide))⟩
theorem lim_pieces {M L : Nat} (h : M * 4294967296 ^ 5 < L) : 256 * M * 256 < L ∧ M * 65536 < L ∧ M * 5 < L ∧ M * 4 < L ∧ M < L := by
  have e : M * 4294967296 ^ 5 = M * 1461501637330902918203684832716283019655932542976 := rfl
  rw [e] at h
  omega
theorem Both.spread {k p q n s qq : Nat} {xs ys : List Nat} (h : Both k p q n xs ys) (hq : qq ≤ 85) (hd : ∀ x ∈ sprd17 p q qq xs, 2 ^ s ∣ x) : Both (k + 1) p q n (leanN s (sprd17 p q qq xs)) (sprd17 p q qq ys) := by
  refine ⟨h.hn, h.hp, h.hq, by rw [leanN_len]; unfold sprd17; rw [h.hn]; exact genN_len _ _, ?_, ?_⟩
  · obtain ⟨t, e⟩ := h.rel
    exact ⟨s + t, by rw [← scl_scl, scl_lean hd, e, scl_sprd]⟩
  · rw [M17_succ]
    unfold sprd17
    intro y hy
    have := spr17_lt hq (spr17_lt hq h.bd (M17_pos k)) (by have := M17_pos k; omega) y hy
    omega
theorem Both.weigh {k p q n s : Nat} {xs ys : List Nat} {ls : List Int} (h : Both k p q n xs ys) (hb : ∀ l ∈ ls, 0 ≤ l ∧ l ≤ 65536) (hd : ∀ x ∈ wghN xs ls, 2 ^ s ∣ x) : Both (k + 1) p q n (leanN s (wghN xs ls)) (wghN ys ls) := by
  refine ⟨h.hn, h.hp, h.hq, by rw [leanN_len, wghN_len]; exact h.hl, ?_, ?_⟩
  · obtain ⟨t, e⟩ := h.rel
    exact ⟨s + t, by rw [← scl_scl, scl_lean hd, e, scl_wgh]⟩
  · rw [M17_succ]
    intro y hy
    unfold wghN at hy
    obtain ⟨i, hi, rfl⟩ := List.mem_map.1 hy
    have g1 : ys.getD i 0 < M17 k := getDN_all (P := fun y => y < M17 k) (M17_pos k) h.bd i
    have g2 : (ls.getD i 0).toNat ≤ 65536 := by
      by_cases hi : i < ls.length
      · have := hb _ (getD_mem hi); omega
      · rw [List.getD, List.getElem?_eq_none (by omega)]; decide
    exact Nat.lt_of_le_of_lt (Nat.mul_le_mul_left _ g2) (Nat.mul_lt_mul_of_pos_right g1 (by decide))
theorem Both.cut {k p q n c1 d1 m : Nat} {x y : Int} {xs ys : List Nat} (h : Both k p q n xs ys) (hc : 1 ≤ c1 ∧ c1 ≤ 8) (hd : 1 ≤ d1 ∧ d1 ≤ 8) (hm : c1 * d1 = m) : Both (k + 1) c1 d1 m (cutN p q xs x y c1 m) (cutN p q ys x y c1 m) := by
  refine ⟨by rw [Nat.mul_comm]; exact hm, hc, hd, genN_len _ _, ?_, ?_⟩
  · obtain ⟨t, e⟩ := h.rel
    exact ⟨t, by rw [e, scl_cut]⟩
  · refine genN_mem fun i _ => ?_
    refine Nat.lt_of_lt_of_le (m := M17 k) ?_ (by rw [M17_succ]; exact Nat.le_mul_of_pos_right _ (by decide))
    unfold cutvN
    split
    · exact getDN_all (P := fun y => y < M17 k) (M17_pos k) h.bd _
    · exact M17_pos k
theorem Both.split {k p q n P2 Q2 m : Nat} {xs ys : List Nat} (h : Both k p q n xs ys) (hp : 2 * p = P2) (hq : 2 * q = Q2) (hm : 4 * n = m) (h4 : p ≤ 4) (h5 : q ≤ 4) : Both (k + 1) P2 Q2 m (splitN p P2 xs m) (splitN p P2 ys m) := by
  refine ⟨by rw [← hp, ← hq, Nat.mul_mul_mul_comm, h.hn]; omega, by have := h.hp; omega, by have := h.hq; omega, genN_len _ _, ?_, ?_⟩
  · obtain ⟨t, e⟩ := h.rel
    exact ⟨t, by rw [e, scl_split]⟩
  · refine genN_mem fun i _ => ?_
    refine Nat.lt_of_lt_of_le (m := M17 k) ?_ (by rw [M17_succ]; exact Nat.le_mul_of_pos_right _ (by decide))
    exact getDN_all (P := fun y => y < M17 k) (M17_pos k) h.bd _
theorem Both.join {k p q n m1 q1 n4 : Nat} {xs ys : List Nat} (h : Both k p q n xs ys) (hp : p = 2 * m1) (hq : q = 2 * q1) (hm : m1 * q1 = n4) : Both (k + 1) m1 q1 n4 (joinN p m1 xs n4) (joinN p m1 ys n4) := by
  refine ⟨by rw [Nat.mul_comm]; exact hm, by have := h.hp; omega, by have := h.hq; omega, genN_len _ _, ?_, ?_⟩
  · obtain ⟨t, e⟩ := h.rel
    exact ⟨t, by rw [e, scl_join]⟩
  · refine genN_mem fun i _ => ?_
    have g := getDN_all (P := fun y => y < M17 k) (M17_pos k) h.bd
    have g1 := g (base14 p m1 i)
    have g2 := g (base14 p m1 i + 1)
    have g3 := g (base14 p m1 i + p)
    have g4 := g (base14 p m1 i + p + 1)
    rw [M17_succ]
    unfold joinvN
    omega
end Go.Proofs.Yteancdipmpmjpaa
namespace Go.Proofs.Yteancdipmpmjpaa
set_option linter.unusedVariables false
theorem psumN_mul {f g : Nat → Nat} {c : Nat} : ∀ {n : Nat}, (∀ i, i < n → g i = f i * c) → psumN g n = psumN f n * c
  | 0, _ => by simp [psumN]
  | n + 1, h => by rw [psumN, psumN, psumN_mul (fun i hi => h i (by omega)), h n (by omega), Nat.add_mul]
end Go.Proofs.Yteancdipmpmjpaa
namespace Go.Proofs.Yteancdipmpmjpaa
set_option linter.unusedVariables false
theorem psumN_congr {f g : Nat → Nat} : ∀ {n : Nat}, (∀ i, i < n → f i = g i) → psumN f n = psumN g n
  | 0, _ => rfl
  | n + 1, h => by rw [psumN, psumN, psumN_congr (fun i hi => h i (by omega)), h n (by omega)]
theorem psumN_mono {f g : Nat → Nat} : ∀ {n : Nat}, (∀ i, i < n → f i ≤ g i) → psumN f n ≤ psumN g n
  | 0, _ => Nat.le_refl _
  | n + 1, h => by rw [psumN, psumN]; exact Nat.add_le_add (psumN_mono fun i hi => h i (by omega)) (h n (by omega))
theorem psumN_add {f g : Nat → Nat} : ∀ {n : Nat}, psumN (fun i => f i + g i) n = psumN f n + psumN g n
  | 0 => rfl
  | n + 1 => by rw [psumN, psumN, psumN, psumN_add]; omega
theorem psumN_take (l : List Nat) : ∀ {n : Nat}, n ≤ l.length → psumN (fun i => l.getD i 0) n = (l.take n).sum
  | 0, _ => by simp [psumN]
  | n + 1, h => by
    rw [psumN, psumN_take l (by omega), take_snocN l n (by omega), List.sum_append]
    simp
theorem psumN_all {l : List Nat} {n : Nat} (h : l.length = n) : psumN (fun i => l.getD i 0) n = l.sum := by
  rw [psumN_take l (by omega), List.take_of_length_le (by omega)]
theorem psumN_mul_l {l : List Nat} {n c : Nat} (h : l.length = n) : psumN (fun i => l.getD i 0 * c) n = l.sum * c := by
  rw [← psumN_all h]
  exact psumN_mul (f := fun i => l.getD i 0) (g := fun i => l.getD i 0 * c) (c := c) fun i _ => rfl
theorem toN_sum {zs : List Int} (h : ∀ z ∈ zs, 0 ≤ z) : ((toN zs).sum : Int) = isum zs := by
  induction zs with
  | nil => rfl
  | cons a r ih =>
    have h1 := ih fun z hz => h z (List.mem_cons_of_mem _ hz)
    have h2 := h a (by simp)
    have e : toN (a :: r) = a.toNat :: toN r := rfl
    rw [e, List.sum_cons]
    push_cast
    rw [h1]
    simp only [isum]
    omega
end Go.Proofs.Yteancdipmpmjpaa
namespace Go.Proofs.Yteancdipmpmjpaa
set_option linter.unusedVariables false
def posN (xs ys : List Nat) : Nat := psumN (fun i => ys.sum * xs.getD i 0 - xs.sum * ys.getD i 0) xs.length
def Near (b : Nat) (xs ys : List Nat) : Prop := posN xs ys * 1099511627776 ≤ xs.sum * ys.sum * b
theorem psumN_const (c : Nat) : ∀ n, psumN (fun _ => c) n = n * c
  | 0 => by simp [psumN]
  | n + 1 => by rw [psumN, psumN_const, Nat.succ_mul]
theorem psumN_scale {f : Nat → Nat} {c : Nat} (n : Nat) : psumN (fun i => c * f i) n = c * psumN f n := by
  rw [psumN_mul (f := f) (g := fun i => c * f i) (c := c) fun i _ => Nat.mul_comm _ _, Nat.mul_comm]
theorem psumN_scl {l : List Nat} {n c : Nat} (h : l.length = n) : psumN (fun i => c * l.getD i 0) n = c * l.sum := by
  rw [psumN_scale, psumN_all h]
theorem psumN_sub {f g : Nat → Nat} {n : Nat} : psumN (fun i => f i - g i) n + psumN g n = psumN (fun i => g i - f i) n + psumN f n := by
  rw [← psumN_add, ← psumN_add]
  exact psumN_congr fun i _ => by omega
theorem posN_comm {xs ys : List Nat} (h : xs.length = ys.length) : posN xs ys = posN ys xs := by
  unfold posN
  have e := psumN_sub (f := fun i => ys.sum * xs.getD i 0) (g := fun i => xs.sum * ys.getD i 0) (n := xs.length)
  rw [psumN_scl rfl, psumN_scl h.symm, Nat.mul_comm ys.sum] at e
  rw [← h]
  exact Nat.add_right_cancel e
theorem dist_pos {xs ys : List Nat} (h : xs.length = ys.length) : dist17 xs.sum ys.sum xs ys xs.length = 2 * posN xs ys := by
  have e := posN_comm h
  have e2 : dist17 xs.sum ys.sum xs ys xs.length = posN xs ys + posN ys xs := by
    unfold dist17 posN
    rw [← h, ← psumN_add]
    exact psumN_congr fun i _ => by rw [Nat.mul_comm (ys.getD i 0)]
  omega
theorem Near.comm {b : Nat} {xs ys : List Nat} (h : xs.length = ys.length) (hn : Near b xs ys) : Near b ys xs := by
  unfold Near at *
  rw [← posN_comm h, Nat.mul_comm ys.sum]
  exact hn
theorem near_over {b : Int} {xs ys : List Nat} (h : xs.length = ys.length) (hx : 0 < xs.sum) (hy : 0 < ys.sum) (hn : Near b.toNat xs ys) : over17 xs ys b = false := by
  unfold over17
  rw [if_neg (by omega), dist_pos h]
  refine decide_eq_false (Nat.not_lt.2 ?_)
  have e : (2 : Nat) ^ 40 = 1099511627776 := by decide +kernel
  rw [e, Nat.pow_one]
  unfold Near at hn
  have h2 := Nat.mul_le_mul_right 2 hn
  rw [Nat.mul_comm 2 (posN xs ys), Nat.mul_right_comm]
  exact h2
theorem posN_le {xs ys : List Nat} : posN xs ys ≤ xs.sum * ys.sum := by
  unfold posN
  refine Nat.le_trans (psumN_mono (g := fun i => ys.sum * xs.getD i 0) fun i _ => Nat.sub_le _ _) ?_
  rw [psumN_scl rfl, Nat.mul_comm]
  exact Nat.le_refl _
theorem near_one {b : Nat} {xs ys : List Nat} (hb : 1099511627776 ≤ b) : Near b xs ys := Nat.mul_le_mul posN_le hb
theorem Near.mono {b c : Nat} {xs ys : List Nat} (h : Near b xs ys) (hb : b ≤ c) : Near c xs ys := Nat.le_trans h (Nat.mul_le_mul_left _ hb)
theorem near_self (b : Nat) (xs : List Nat) : Near b xs xs := by
  have e : posN xs xs = 0 := by
    unfold posN
    rw [psumN_congr (g := fun _ => 0) fun i _ => Nat.sub_self _, psumN_const, Nat.mul_zero]
  unfold Near
  rw [e, Nat.zero_mul]
  exact Nat.zero_le _
theorem Near.trans {b c : Nat} {xs ys zs : List Nat} (h1 : xs.length = ys.length) (p : 0 < ys.sum) (k1 : Near b xs ys) (k2 : Near c ys zs) : Near (b + c) xs zs := by
  unfold Near at *
  have ht : posN xs zs * ys.sum ≤ posN xs ys * zs.sum + posN ys zs * xs.sum := by
    unfold posN
    rw [← h1, ← psumN_mul (f := fun i => zs.sum * xs.getD i 0 - xs.sum * zs.getD i 0) (c := ys.sum) (fun i _ => rfl), ← psumN_mul (f := fun i => ys.sum * xs.getD i 0 - xs.sum * ys.getD i 0) (c := zs.sum) (fun i _ => rfl), ← psumN_mul (f := fun i => zs.sum * ys.getD i 0 - ys.sum * zs.getD i 0) (c := xs.sum) (fun i _ => rfl), ← psumN_add]
    refine psumN_mono fun i _ => ?_
    generalize xs.getD i 0 = x
    generalize ys.getD i 0 = y
    generalize zs.getD i 0 = z
    generalize xs.sum = S
    generalize ys.sum = T
    generalize zs.sum = U
    rw [Nat.sub_mul, Nat.sub_mul, Nat.sub_mul]
    have e1 : U * x * T = T * x * U := by rw [Nat.mul_comm U, Nat.mul_comm T, Nat.mul_right_comm]
    have e2 : S * z * T = T * z * S := by rw [Nat.mul_comm S, Nat.mul_comm T, Nat.mul_right_comm]
    have e3 : S * y * U = U * y * S := by rw [Nat.mul_comm S, Nat.mul_comm U, Nat.mul_right_comm]
    rw [e1, e2, e3]
    omega
  generalize posN xs zs = D at *
  generalize posN xs ys = D1 at *
  generalize posN ys zs = D2 at *
  generalize xs.sum = S at *
  generalize ys.sum = T at *
  generalize zs.sum = U at *
  generalize 1099511627776 = P at *
  refine Nat.le_of_mul_le_mul_right ?_ p
  have a1 := Nat.mul_le_mul_right U k1
  have a2 := Nat.mul_le_mul_right S k2
  have a3 := Nat.mul_le_mul_right P ht
  rw [Nat.add_mul] at a3
  have f1 : D1 * U * P = D1 * P * U := Nat.mul_right_comm _ _ _
  have f2 : D2 * S * P = D2 * P * S := Nat.mul_right_comm _ _ _
  have f3 : D * T * P = D * P * T := Nat.mul_right_comm _ _ _
  have f4 : S * U * (b + c) * T = S * T * b * U + T * U * c * S := by
    rw [Nat.mul_add, Nat.add_mul]
    congr 1
    · rw [Nat.mul_right_comm _ b T, Nat.mul_right_comm _ b U, Nat.mul_right_comm S U T]
    · rw [Nat.mul_right_comm _ c T, Nat.mul_right_comm _ c S, Nat.mul_comm S U, Nat.mul_right_comm U S T, Nat.mul_comm U T]
  rw [f1, f2, f3] at a3
  rw [f4]
  omega
theorem near_dom {b c : Nat} {xs es : List Nat} (hl : xs.length = es.length) (h : ∀ i, i < xs.length → xs.getD i 0 * c ≤ es.getD i 0) (hb : (es.sum - xs.sum * c) * 1099511627776 ≤ es.sum * b) : Near b xs es := by
  have hp : posN xs es ≤ xs.sum * (es.sum - xs.sum * c) := by
    unfold posN
    refine Nat.le_trans (psumN_mono (g := fun i => xs.getD i 0 * (es.sum - xs.sum * c)) fun i hi => ?_) ?_
    · have := Nat.mul_le_mul_left xs.sum (h i hi)
      rw [Nat.mul_sub, Nat.mul_comm (xs.getD i 0) es.sum]
      have e : xs.getD i 0 * (xs.sum * c) = xs.sum * (xs.getD i 0 * c) := by rw [← Nat.mul_assoc, Nat.mul_comm (xs.getD i 0), Nat.mul_assoc]
      rw [e]
      omega
    · rw [psumN_mul_l rfl]
      exact Nat.le_refl _
  unfold Near
  refine Nat.le_trans (Nat.mul_le_mul_right _ hp) ?_
  rw [Nat.mul_assoc, Nat.mul_assoc]
  exact Nat.mul_le_mul_left _ hb
theorem near_push {most b b' : Nat} {xs ys xs' ys' : List Nat} (hl : xs.length = ys.length) (hl' : xs'.length = ys'.length) (hx : 0 < xs.sum) (hy : 0 < ys.sum)
    (H1 : ∀ a c, psumN (fun k => a * xs'.getD k 0 - c * ys'.getD k 0) xs'.length ≤ most * psumN (fun i => a * xs.getD i 0 - c * ys.getD i 0) xs.length)
    (H2 : ∀ a c, psumN (fun k => a * ys'.getD k 0 - c * xs'.getD k 0) xs'.length ≤ most * psumN (fun i => a * ys.getD i 0 - c * xs.getD i 0) xs.length)
    (hn : Near b xs ys) (hb : b * most * xs.sum ≤ b' * xs'.sum) : Near b' xs' ys' := by
  rcases Nat.lt_or_ge (ys'.sum * xs.sum) (xs'.sum * ys.sum) with hc | hc
  · have h1 := H1 ys'.sum xs'.sum
    have h2 : psumN (fun i => ys'.sum * xs.getD i 0 - xs'.sum * ys.getD i 0) xs.length * ys.sum ≤ posN xs ys * ys'.sum := by
      unfold posN
      rw [← psumN_mul (f := fun i => ys'.sum * xs.getD i 0 - xs'.sum * ys.getD i 0) (c := ys.sum) (fun i _ => rfl), ← psumN_mul (f := fun i => ys.sum * xs.getD i 0 - xs.sum * ys.getD i 0) (c := ys'.sum) (fun i _ => rfl)]
      refine psumN_mono fun i _ => ?_
      rw [Nat.sub_mul, Nat.sub_mul]
      have e1 : ys'.sum * xs.getD i 0 * ys.sum = ys.sum * xs.getD i 0 * ys'.sum := by rw [Nat.mul_comm ys'.sum, Nat.mul_comm ys.sum, Nat.mul_right_comm]
      have e2 := Nat.mul_le_mul_right (ys.getD i 0) (Nat.le_of_lt hc)
      have e3 : xs.sum * ys.getD i 0 * ys'.sum = ys'.sum * xs.sum * ys.getD i 0 := by rw [Nat.mul_comm, Nat.mul_assoc]
      have e4 : xs'.sum * ys.getD i 0 * ys.sum = xs'.sum * ys.sum * ys.getD i 0 := Nat.mul_right_comm _ _ _
      rw [e1, e3, e4]
      omega
    unfold Near at *
    have h3 : posN xs' ys' ≤ most * psumN (fun i => ys'.sum * xs.getD i 0 - xs'.sum * ys.getD i 0) xs.length := h1
    generalize posN xs' ys' = D' at *
    generalize psumN (fun i => ys'.sum * xs.getD i 0 - xs'.sum * ys.getD i 0) xs.length = M at *
    generalize posN xs ys = D at *
    generalize xs.sum = X at *
    generalize ys.sum = Y at *
    generalize xs'.sum = X' at *
    generalize ys'.sum = Y' at *
    generalize 1099511627776 = P at *
    refine Nat.le_of_mul_le_mul_right ?_ hy
    have a1 := Nat.mul_le_mul_right (P * Y) h3
    have a2 := Nat.mul_le_mul_left (most * P) h2
    have a3 := Nat.mul_le_mul_left (most * Y') hn
    have a4 := Nat.mul_le_mul_left (Y' * Y) hb
    have f1 : D' * (P * Y) = D' * P * Y := (Nat.mul_assoc _ _ _).symm
    have f2 : most * M * (P * Y) = most * P * (M * Y) := Nat.mul_mul_mul_comm _ _ _ _
    have f3 : most * P * (D * Y') = most * Y' * (D * P) := by rw [Nat.mul_comm D Y', Nat.mul_mul_mul_comm, Nat.mul_comm P D]
    have f4 : most * Y' * (X * Y * b) = Y' * Y * (b * most * X) := by
      ac_rfl
    have f5 : Y' * Y * (b' * X') = X' * Y' * b' * Y := by
      ac_rfl
    omega
  · have h1 := H2 xs'.sum ys'.sum
    have h2 : psumN (fun i => xs'.sum * ys.getD i 0 - ys'.sum * xs.getD i 0) xs.length * xs.sum ≤ posN ys xs * xs'.sum := by
      unfold posN
      rw [← hl, ← psumN_mul (f := fun i => xs'.sum * ys.getD i 0 - ys'.sum * xs.getD i 0) (c := xs.sum) (fun i _ => rfl), ← psumN_mul (f := fun i => xs.sum * ys.getD i 0 - ys.sum * xs.getD i 0) (c := xs'.sum) (fun i _ => rfl)]
      refine psumN_mono fun i _ => ?_
      rw [Nat.sub_mul, Nat.sub_mul]
      have e1 : xs'.sum * ys.getD i 0 * xs.sum = xs.sum * ys.getD i 0 * xs'.sum := by rw [Nat.mul_comm xs'.sum, Nat.mul_comm xs.sum, Nat.mul_right_comm]
      have e2 := Nat.mul_le_mul_right (xs.getD i 0) hc
      have e3 : ys.sum * xs.getD i 0 * xs'.sum = xs'.sum * ys.sum * xs.getD i 0 := by rw [Nat.mul_comm, Nat.mul_assoc]
      have e4 : ys'.sum * xs.getD i 0 * xs.sum = ys'.sum * xs.sum * xs.getD i 0 := Nat.mul_right_comm _ _ _
      rw [e1, e3, e4]
      omega
    have hn2 := hn.comm hl
    refine Near.comm hl'.symm ?_
    unfold Near at *
    have h3 : posN ys' xs' ≤ most * psumN (fun i => xs'.sum * ys.getD i 0 - ys'.sum * xs.getD i 0) xs.length := by
      unfold posN
      rw [← hl']
      exact h1
    generalize posN ys' xs' = D' at *
    generalize psumN (fun i => xs'.sum * ys.getD i 0 - ys'.sum * xs.getD i 0) xs.length = M at *
    generalize posN ys xs = D at *
    generalize xs.sum = X at *
    generalize ys.sum = Y at *
    generalize xs'.sum = X' at *
    generalize ys'.sum = Y' at *
    generalize 1099511627776 = P at *
    have g1 : b * most * Y ≤ b' * Y' := by
      refine Nat.le_of_mul_le_mul_right ?_ hx
      have a1 := Nat.mul_le_mul_right Y hb
      have a2 := Nat.mul_le_mul_left b' hc
      have f1 : b * most * X * Y = b * most * Y * X := Nat.mul_right_comm _ _ _
      have f2 : b' * X' * Y = b' * (X' * Y) := Nat.mul_assoc _ _ _
      have f3 : b' * (Y' * X) = b' * Y' * X := (Nat.mul_assoc _ _ _).symm
      omega
    refine Nat.le_of_mul_le_mul_right ?_ hx
    have a1 := Nat.mul_le_mul_right (P * X) h3
    have a2 := Nat.mul_le_mul_left (most * P) h2
    have a3 := Nat.mul_le_mul_left (most * X') hn2
    have a4 := Nat.mul_le_mul_left (X' * X) g1
    have f1 : D' * (P * X) = D' * P * X := (Nat.mul_assoc _ _ _).symm
    have f2 : most * M * (P * X) = most * P * (M * X) := Nat.mul_mul_mul_comm _ _ _ _
    have f3 : most * P * (D * X') = most * X' * (D * P) := by rw [Nat.mul_comm D X', Nat.mul_mul_mul_comm, Nat.mul_comm P D]
    have f4 : most * X' * (Y * X * b) = X' * X * (b * most * Y) := by
      ac_rfl
    have f5 : X' * X * (b' * Y') = Y' * X' * b' * X := by
      ac_rfl
    omega
theorem near_none {most b : Nat} {xs ys xs' ys' : List Nat} (hy : 0 < ys.sum) (h0 : ys'.sum = 0) (hl' : xs'.length = ys'.length)
    (H1 : ∀ a c, psumN (fun k => a * xs'.getD k 0 - c * ys'.getD k 0) xs'.length ≤ most * psumN (fun i => a * xs.getD i 0 - c * ys.getD i 0) xs.length) (hn : Near b xs ys) : xs'.sum * 1099511627776 ≤ b * most * xs.sum := by
  have hz : ∀ k, ys'.getD k 0 = 0 := fun k => by
    have := getDR_le (l := ys') (i := k)
    omega
  have h1 := H1 ys.sum xs.sum
  have e : psumN (fun k => ys.sum * xs'.getD k 0 - xs.sum * ys'.getD k 0) xs'.length = ys.sum * xs'.sum := by
    rw [psumN_congr (g := fun k => ys.sum * xs'.getD k 0) fun k _ => by rw [hz k, Nat.mul_zero, Nat.sub_zero], psumN_scl rfl]
  rw [e] at h1
  unfold Near posN at hn
  generalize psumN (fun i => ys.sum * xs.getD i 0 - xs.sum * ys.getD i 0) xs.length = D at *
  generalize xs.sum = X at *
  generalize ys.sum = Y at *
  generalize xs'.sum = X' at *
  generalize 1099511627776 = P at *
  refine Nat.le_of_mul_le_mul_left ?_ hy
  have a1 := Nat.mul_le_mul_right P h1
  have a2 := Nat.mul_le_mul_left most hn
  have f1 : Y * (X' * P) = Y * X' * P := (Nat.mul_assoc _ _ _).symm
  have f2 : most * D * P = most * (D * P) := Nat.mul_assoc _ _ _
  have f3 : most * (X * Y * b) = Y * (b * most * X) := by
    ac_rfl
  omega
end Go.Proofs.Yteancdipmpmjpaa
namespace Go.Proofs.Yteancdipmpmjpaa
set_option linter.unusedVariables false
theorem posN_scl {s : Nat} {xs ys : List Nat} : posN xs (scl s ys) = posN xs ys * 2 ^ s := by
  unfold posN
  refine psumN_mul fun i _ => ?_
  rw [scl_sum, scl_get, Nat.sub_mul, Nat.mul_right_comm, Nat.mul_assoc xs.sum]
theorem near_scl {b s : Nat} {xs ys : List Nat} (h : Near b xs (scl s ys)) : Near b xs ys := by
  unfold Near at *
  rw [posN_scl, scl_sum] at h
  refine Nat.le_of_mul_le_mul_right ?_ (Nat.two_pow_pos s)
  rw [Nat.mul_right_comm] at h
  refine Nat.le_trans h ?_
  rw [← Nat.mul_assoc, Nat.mul_right_comm]
  exact Nat.le_refl _
theorem psumN_cast (f : Nat → Nat) : ∀ n, ((psumN f n : Nat) : Int) = psum (fun i => (f i : Int)) n
  | 0 => rfl
  | n + 1 => by rw [psumN, psum, ← psumN_cast f n]; push_cast; rfl
theorem cost_ge {n : Nat} (h : n ≤ 4096) : n * 1099511627776 ≤ (1073741824 - 4 * n) * (cost18 n).toNat := by
  have hc := cost_bd (n := (n : Int)) (by omega) (by omega)
  have hb : (0 : Int) < 1073741824 - 4 * (n : Int) := by omega
  have e : cost18 (n : Int) = cdiv ((n : Int) * 1099511627776) (1073741824 - 4 * n) := by
    have h2 : cdiv ((n : Int) * 1099511627776) (1073741824 - 4 * n) ≤ 4200000 := (cdiv_le hb).2 (by omega)
    unfold cost18 ups; rw [if_neg (by omega)]; omega
  have h1 := (cdiv_le hb).1 (Int.le_refl (cdiv ((n : Int) * 1099511627776) (1073741824 - 4 * n)))
  rw [← e] at h1
  have h0 := hc.2.1
  obtain ⟨c, hcc⟩ : ∃ c : Nat, cost18 (n : Int) = c := ⟨(cost18 n).toNat, by omega⟩
  rw [hcc] at h1 ⊢
  rw [Int.toNat_natCast]
  obtain ⟨d, hd⟩ : ∃ d : Nat, 1073741824 - 4 * n = d := ⟨_, rfl⟩
  have hd2 : (1073741824 : Int) - 4 * n = d := by omega
  rw [hd2, ← Int.natCast_mul] at h1
  rw [hd, Nat.mul_comm d]
  omega
theorem toN_isum {zs : List Int} (h : ∀ z ∈ zs, 0 ≤ z) : isum zs = ((toN zs).sum : Nat) := (toN_sum h).symm
theorem near_norm {zs : List Int} {n : Nat} (hl : zs.length = n) (hz : ∀ z ∈ zs, 0 ≤ z) (hp : 0 < isum zs) (hn : n ≤ 4096) : Near (cost18 n).toNat (toN (norm14 (isum zs) zs)) (toN zs) := by
  have hs := norm_sum hp hz
  have hnz : ∀ z ∈ norm14 (isum zs) zs, 0 ≤ z := fun z hm => by
    obtain ⟨y, hy, rfl⟩ := List.mem_map.1 hm
    exact Int.ediv_nonneg (Int.mul_nonneg (hz y hy) (by omega)) (by omega)
  rw [hl] at hs
  rw [toN_isum hnz] at hs
  obtain ⟨A, hA⟩ : ∃ A : Nat, (toN zs).sum = A := ⟨_, rfl⟩
  have hI : isum zs = (A : Int) := by rw [toN_isum hz, hA]
  rw [hI] at hs ⊢
  have hlN : (toN (norm14 (A : Int) zs)).length = n := by rw [toN_len, norm_len, hl]
  have hlZ : (toN zs).length = n := by rw [toN_len, hl]
  have e2 : (2 : Nat) ^ 30 = 1073741824 := by decide
  refine near_scl (s := 30) (near_dom (c := A) (by rw [scl_len, hlN, hlZ]) (fun i hi => ?_) ?_)
  · rw [hlN] at hi
    rw [scl_get, toN_get (by rw [norm_len]; omega), toN_get (by omega), norm_get _ _ _ (by omega)]
    have h0 := hz _ (getD_mem (l := zs) (i := i) (by omega))
    generalize zs.getD i 0 = z at *
    obtain ⟨y, rfl⟩ : ∃ y : Nat, z = y := ⟨z.toNat, by omega⟩
    have e : (y : Int) * 1073741824 / (A : Int) = ((y * 1073741824 / A : Nat) : Int) := by rw [Int.natCast_ediv, Int.natCast_mul]; rfl
    rw [e, Int.toNat_natCast, Int.toNat_natCast, e2]
    exact Nat.div_mul_le_self _ _
  · rw [scl_sum, e2, hA]
    generalize (toN (norm14 (A : Int) zs)).sum = Q at *
    have hcg := cost_ge hn
    generalize (cost18 (n : Int)).toNat = c at *
    have h3 : A * 1073741824 ≤ (Q + n) * A := Int.ofNat_le.1 (by rw [Int.natCast_mul, Int.natCast_mul, Int.natCast_add]; exact hs.2)
    rw [Nat.add_mul] at h3
    have h4 : A * 1073741824 - Q * A ≤ n * A := by omega
    have h5 := Nat.mul_le_mul_right 1099511627776 h4
    have h6 := Nat.mul_le_mul_left A (Nat.le_trans hcg (Nat.mul_le_mul_right c (show 1073741824 - 4 * n ≤ 1073741824 by omega)))
    have e3 : n * A * 1099511627776 = A * (n * 1099511627776) := by rw [Nat.mul_comm n A, Nat.mul_assoc]
    have e4 : A * (1073741824 * c) = A * 1073741824 * c := (Nat.mul_assoc _ _ _).symm
    rw [e3] at h5
    rw [e4] at h6
    exact Nat.le_trans h5 h6
def Cols (n : Nat) (L R : Nat → Nat) : Prop := ∀ f : Nat → Nat, psumN (fun k => f (L k) + f (R k)) n = 2 * psumN f n
theorem cols_row (W H : Nat) : Cols (H * W) (rowA W) (rowB W) := fun f => by
  have h := near_row (fun i => (f i : Int)) W H
  rw [← psumN_cast] at h
  have e : psum (fun k => (f (rowA W k) : Int) + (f (rowB W k) : Int)) (H * W) = psum (fun k => ((f (rowA W k) + f (rowB W k) : Nat) : Int)) (H * W) := psum_congr fun i _ => by push_cast; rfl
  rw [e, ← psumN_cast (fun k => f (rowA W k) + f (rowB W k))] at h
  omega
theorem cols_col (W H : Nat) : Cols (H * W) (colA W) (colB W H) := fun f => by
  have h := near_col (fun i => (f i : Int)) W H
  rw [← psumN_cast] at h
  have e : psum (fun k => (f (colA W k) : Int) + (f (colB W H k) : Int)) (H * W) = psum (fun k => ((f (colA W k) + f (colB W H k) : Nat) : Int)) (H * W) := psum_congr fun i _ => by push_cast; rfl
  rw [e, ← psumN_cast (fun k => f (colA W k) + f (colB W H k))] at h
  omega
theorem cols_sum {n q : Nat} {L R : Nat → Nat} (hC : Cols n L R) (hq : q ≤ 85) (w : Nat → Nat) : psumN (fun k => w (L k) * q + w k * (256 - 2 * q) + w (R k) * q) n = 256 * psumN w n := by
  have e : psumN (fun k => w (L k) * q + w k * (256 - 2 * q) + w (R k) * q) n = psumN (fun k => (w (L k) + w (R k)) * q + w k * (256 - 2 * q)) n := psumN_congr fun i _ => by rw [Nat.add_mul]; omega
  rw [e, psumN_add, psumN_mul (f := fun k => w (L k) + w (R k)) (c := q) (fun i _ => rfl), psumN_mul (f := w) (c := 256 - 2 * q) (fun i _ => rfl), hC w]
  generalize psumN w n = S
  have e1 : 2 * S * q = S * (2 * q) := by rw [Nat.mul_comm 2 S, Nat.mul_assoc]
  rw [e1, ← Nat.mul_add, Nat.mul_comm]
  congr 1
  omega
theorem spr_push {n q : Nat} {L R : Nat → Nat} (hC : Cols n L R) (hq : q ≤ 85) (xs ys : List Nat) (a c : Nat) : psumN (fun k => a * (spr17 n q L R xs).getD k 0 - c * (spr17 n q L R ys).getD k 0) n ≤ 256 * psumN (fun i => a * xs.getD i 0 - c * ys.getD i 0) n := by
  rw [← cols_sum hC hq (fun i => a * xs.getD i 0 - c * ys.getD i 0)]
  refine psumN_mono fun k hk => ?_
  unfold spr17
  rw [genN_get _ hk, genN_get _ hk]
  unfold sprv17
  generalize xs.getD (L k) 0 = x1
  generalize xs.getD k 0 = x2
  generalize xs.getD (R k) 0 = x3
  generalize ys.getD (L k) 0 = y1
  generalize ys.getD k 0 = y2
  generalize ys.getD (R k) 0 = y3
  generalize 256 - 2 * q = r
  rw [Nat.mul_add, Nat.mul_add, Nat.mul_add, Nat.mul_add, Nat.sub_mul, Nat.sub_mul, Nat.sub_mul]
  simp only [← Nat.mul_assoc]
  omega
theorem spr_sum {n q : Nat} {L R : Nat → Nat} (hC : Cols n L R) (hq : q ≤ 85) {xs : List Nat} (hl : xs.length = n) : (spr17 n q L R xs).sum = 256 * xs.sum := by
  rw [← psumN_all (l := spr17 n q L R xs) (n := n) (genN_len _ _), ← psumN_all hl, ← cols_sum hC hq (fun i => xs.getD i 0)]
  exact psumN_congr fun k hk => by unfold spr17; rw [genN_get _ hk]; rfl
theorem spr17_len {n q : Nat} {L R : Nat → Nat} {xs : List Nat} : (spr17 n q L R xs).length = n := genN_len _ _
theorem sprd_sum {p q qq : Nat} (hq : qq ≤ 85) {xs : List Nat} (hl : xs.length = q * p) : (sprd17 p q qq xs).sum = 65536 * xs.sum := by
  unfold sprd17
  rw [spr_sum (cols_col p q) hq spr17_len, spr_sum (cols_row p q) hq hl, ← Nat.mul_assoc]
theorem sprd_push {p q qq : Nat} (hq : qq ≤ 85) (xs ys : List Nat) (a c : Nat) : psumN (fun k => a * (sprd17 p q qq xs).getD k 0 - c * (sprd17 p q qq ys).getD k 0) (q * p) ≤ 65536 * psumN (fun i => a * xs.getD i 0 - c * ys.getD i 0) (q * p) := by
  unfold sprd17
  refine Nat.le_trans (spr_push (cols_col p q) hq _ _ a c) ?_
  have := Nat.mul_le_mul_left 256 (spr_push (cols_row p q) hq xs ys a c)
  omega
theorem sprd17_len {p q qq : Nat} {xs : List Nat} : (sprd17 p q qq xs).length = q * p := genN_len _ _
theorem near_spread {p q qq b : Nat} (hq : qq ≤ 85) {xs ys : List Nat} (hx : xs.length = q * p) (hy : ys.length = q * p) (px : 0 < xs.sum) (py : 0 < ys.sum) (h : Near b xs ys) : Near b (sprd17 p q qq xs) (sprd17 p q qq ys) := by
  refine near_push (most := 65536) (by rw [hx, hy]) (by rw [sprd17_len, sprd17_len]) px py (fun a c => ?_) (fun a c => ?_) h ?_
  · rw [sprd17_len, hx]; exact sprd_push hq xs ys a c
  · rw [sprd17_len, hx]; exact sprd_push hq ys xs a c
  · rw [sprd_sum hq hx, ← Nat.mul_assoc]
    exact Nat.le_refl _
theorem near_weigh {most b b' : Nat} {xs ys : List Nat} {ls : List Int} (hl : xs.length = ys.length) (px : 0 < xs.sum) (py : 0 < ys.sum) (hm : ∀ l ∈ ls, l.toNat ≤ most) (h : Near b xs ys) (hb : b * most * xs.sum ≤ b' * (wghN xs ls).sum) : Near b' (wghN xs ls) (wghN ys ls) := by
  have key : ∀ (us vs : List Nat), us.length = vs.length → ∀ a c, psumN (fun k => a * (wghN us ls).getD k 0 - c * (wghN vs ls).getD k 0) us.length ≤ most * psumN (fun i => a * us.getD i 0 - c * vs.getD i 0) us.length := fun us vs hl a c => by
    rw [← psumN_scale]
    refine psumN_mono fun k hk => ?_
    unfold wghN
    rw [genN_get _ hk, genN_get _ (by omega)]
    have hlm : (ls.getD k 0).toNat ≤ most := by
      by_cases hk2 : k < ls.length
      · exact hm _ (getD_mem hk2)
      · rw [List.getD, List.getElem?_eq_none (by omega)]; exact Nat.zero_le _
    rw [← Nat.mul_assoc, ← Nat.mul_assoc, ← Nat.sub_mul, Nat.mul_comm]
    exact Nat.mul_le_mul_right _ hlm
  refine near_push hl (by rw [wghN_len, wghN_len, hl]) px py (fun a c => ?_) (fun a c => ?_) h hb
  · rw [wghN_len]; exact key xs ys hl a c
  · rw [wghN_len, hl]; exact key ys xs hl.symm a c
theorem weigh_none {most b : Nat} {xs ys : List Nat} {ls : List Int} (hl : xs.length = ys.length) (py : 0 < ys.sum) (hm : ∀ l ∈ ls, l.toNat ≤ most) (h : Near b xs ys) (h0 : (wghN ys ls).sum = 0) : (wghN xs ls).sum * 1099511627776 ≤ b * most * xs.sum := by
  refine near_none (most := most) py h0 (by rw [wghN_len, wghN_len, hl]) (fun a c => ?_) h
  rw [wghN_len, ← psumN_scale]
  refine psumN_mono fun k hk => ?_
  unfold wghN
  rw [genN_get _ hk, genN_get _ (by omega)]
  have hlm : (ls.getD k 0).toNat ≤ most := by
    by_cases hk2 : k < ls.length
    · exact hm _ (getD_mem hk2)
    · rw [List.getD, List.getElem?_eq_none (by omega)]; exact Nat.zero_le _
  rw [← Nat.mul_assoc, ← Nat.mul_assoc, ← Nat.sub_mul, Nat.mul_comm]
  exact Nat.mul_le_mul_right _ hlm
end Go.Proofs.Yteancdipmpmjpaa
namespace Go.Proofs.Yteancdipmpmjpaa
set_option linter.unusedVariables false
theorem toN_getD {zs : List Int} (i : Nat) : (toN zs).getD i 0 = (zs.getD i 0).toNat := by
  by_cases h : i < zs.length
  · exact toN_get h
  · rw [List.getD, List.getD, List.getElem?_eq_none (by rw [toN_len]; omega), List.getElem?_eq_none (by omega)]; rfl
theorem spr14_dom {n qn : Nat} {L R : Nat → Nat} {zs : List Int} (hq : qn ≤ 85) (hz : ∀ z ∈ zs, 0 ≤ z ∧ z ≤ 1073741824) (k : Nat) : (toN (spr14 n qn L R zs)).getD k 0 * 256 ≤ (spr17 n qn L R (toN zs)).getD k 0 := by
  by_cases hk : k < n
  · rw [toN_getD]
    unfold spr14 spr17
    rw [gen_get _ hk, genN_get _ hk]
    unfold sprv sprn sprv17
    rw [toN_getD, toN_getD, toN_getD]
    have g := getD_all (P := fun z => 0 ≤ z ∧ z ≤ 1073741824) (by omega) hz
    have g1 := g (L k)
    have g2 := g k
    have g3 := g (R k)
    dsimp only
    generalize zs.getD (L k) 0 = a at *
    generalize zs.getD k 0 = b at *
    generalize zs.getD (R k) 0 = c at *
    obtain ⟨x, rfl⟩ : ∃ x : Nat, a = x := ⟨a.toNat, by omega⟩
    obtain ⟨y, rfl⟩ : ∃ y : Nat, b = y := ⟨b.toNat, by omega⟩
    obtain ⟨z, rfl⟩ : ∃ z : Nat, c = z := ⟨c.toNat, by omega⟩
    clear g g1 g2 g3
    rw [Int.toNat_natCast, Int.toNat_natCast, Int.toNat_natCast]
    have e : (256 : Int) - 2 * (qn : Int) = ((256 - 2 * qn : Nat) : Int) := by omega
    rw [e]
    generalize 256 - 2 * qn = r
    have e2 : ((qn : Int) * x + (r : Int) * y + (qn : Int) * z) / 256 = ((qn * x + r * y + qn * z) / 256 : Nat) := by
      rw [Int.natCast_ediv, Int.natCast_add, Int.natCast_add, Int.natCast_mul, Int.natCast_mul, Int.natCast_mul]; rfl
    rw [e2, Int.toNat_natCast, Nat.mul_comm x, Nat.mul_comm y, Nat.mul_comm z]
    exact Nat.div_mul_le_self _ _
  · rw [toN_getD, List.getD, List.getElem?_eq_none (by rw [spr_len]; omega)]
    exact Nat.zero_le _
theorem sprv17_mono {q c k : Nat} {L R : Nat → Nat} {xs ys : List Nat} (h : ∀ i, xs.getD i 0 * c ≤ ys.getD i 0) : sprv17 q L R xs k * c ≤ sprv17 q L R ys k := by
  unfold sprv17
  rw [Nat.add_mul, Nat.add_mul, Nat.mul_right_comm, Nat.mul_right_comm (xs.getD k 0), Nat.mul_right_comm (xs.getD (R k) 0)]
  exact Nat.add_le_add (Nat.add_le_add (Nat.mul_le_mul_right _ (h _)) (Nat.mul_le_mul_right _ (h _))) (Nat.mul_le_mul_right _ (h _))
theorem sprd14_dom {p q qn : Nat} {zs : List Int} (hq : qn ≤ 85) (hz : ∀ z ∈ zs, 0 ≤ z ∧ z ≤ 1073741824) (k : Nat) : (toN (sprd14 p q qn zs)).getD k 0 * 65536 ≤ (sprd17 p q qn (toN zs)).getD k 0 := by
  have h1 := spr14_dom (n := q * p) (L := rowA p) (R := rowB p) hq hz
  have hz1 := spr_bd (n := q * p) (q := (qn : Int)) (L := rowA p) (R := rowB p) (by omega) hz
  have h2 := spr14_dom (n := q * p) (L := colA p) (R := colB p q) hq hz1 k
  unfold sprd14 sprd17
  by_cases hk : k < q * p
  · have h3 : (spr17 (q * p) qn (colA p) (colB p q) (toN (spr14 (q * p) qn (rowA p) (rowB p) zs))).getD k 0 * 256 ≤ (spr17 (q * p) qn (colA p) (colB p q) (spr17 (q * p) qn (rowA p) (rowB p) (toN zs))).getD k 0 := by
      conv => lhs; unfold spr17
      conv => rhs; unfold spr17
      rw [genN_get _ hk, genN_get _ hk]
      exact sprv17_mono fun i => h1 i
    have h4 := Nat.le_trans (Nat.mul_le_mul_right 256 h2) h3
    rw [Nat.mul_assoc] at h4
    exact h4
  · rw [toN_getD, List.getD, List.getElem?_eq_none (by rw [spr_len]; omega)]
    have e : ((none : Option Int).getD 0).toNat = 0 := rfl
    rw [e, Nat.zero_mul]
    exact Nat.zero_le _
theorem near_spr14 {p q qn n : Nat} {zs : List Int} (hq : qn ≤ 85) (hn : q * p = n) (hl : zs.length = n) (hz : ∀ z ∈ zs, 0 ≤ z ∧ z ≤ 1073741824) (hn4 : n ≤ 4096) (hS : 1073741824 ≤ isum zs + n) : Near (2 * (cost18 n).toNat) (toN (sprd14 p q qn zs)) (sprd17 p q qn (toN zs)) := by
  have hlost := sprd_lost (W := p) (H := q) (q := (qn : Int)) (zs := zs) (by rw [hl, hn])
  have hzs : ∀ z ∈ zs, 0 ≤ z := fun z h => (hz z h).1
  have hzv : ∀ z ∈ sprd14 p q qn zs, 0 ≤ z := fun z h => (sprd_bd (W := p) (H := q) (q := (qn : Int)) (by omega) hz z h).1
  rw [toN_isum hzs, toN_isum hzv, hn] at hlost
  rw [toN_isum hzs] at hS
  have hlx : (toN zs).length = q * p := by rw [toN_len, hl, hn]
  refine near_dom (c := 65536) (by rw [toN_len, sprd_len, sprd17_len]) (fun i _ => sprd14_dom hq hz i) ?_
  rw [sprd_sum hq hlx]
  have hcg := cost_ge hn4
  generalize (toN (sprd14 p q qn zs)).sum = V at *
  generalize (toN zs).sum = S at *
  generalize (cost18 (n : Int)).toNat = c at *
  have h1 : 65536 * S - V * 65536 ≤ 65536 * (2 * n) := by omega
  have h2 := Nat.mul_le_mul_right c (show 1073741824 - 4 * n ≤ S by omega)
  have h3 := Nat.mul_le_mul_right 1099511627776 h1
  refine Nat.le_trans h3 ?_
  have e1 : 65536 * (2 * n) * 1099511627776 = 65536 * 2 * (n * 1099511627776) := by ac_rfl
  have e2 : 65536 * S * (2 * c) = 65536 * 2 * (S * c) := by ac_rfl
  rw [e1, e2]
  exact Nat.mul_le_mul_left _ (Nat.le_trans hcg h2)
theorem psumN_split (f : Nat → Nat) (m : Nat) : ∀ n : Nat, psumN f (m + n) = psumN f m + psumN (fun j => f (m + j)) n
  | 0 => by simp [psumN]
  | n + 1 => by rw [← Nat.add_assoc, psumN, psumN, psumN_split f m n]; omega
theorem psumN_rows (f : Nat → Nat) (w : Nat) : ∀ h : Nat, psumN f (h * w) = psumN (fun i => psumN (fun j => f (i * w + j)) w) h
  | 0 => by rw [Nat.zero_mul]; rfl
  | h + 1 => by rw [Nat.succ_mul, psumN_split, psumN, psumN_rows f w h]
theorem psumN_half (f : Nat → Nat) : ∀ n : Nat, psumN (fun j => f (j / 2)) (2 * n) = 2 * psumN f n
  | 0 => rfl
  | n + 1 => by
    have e : 2 * (n + 1) = 2 * n + 1 + 1 := by omega
    rw [e, psumN, psumN, psumN_half f n, psumN]
    have e1 : 2 * n / 2 = n := by omega
    have e2 : (2 * n + 1) / 2 = n := by omega
    rw [e1, e2]; omega
theorem split_four {p q n m : Nat} (hp : 0 < p) (hn : p * q = n) (hm : 4 * n = m) (g : Nat → Nat) : psumN (fun k => g (k / (2 * p) / 2 * p + k % (2 * p) / 2)) m = 4 * psumN g n := by
  have e : m = (2 * q) * (2 * p) := by rw [← hm, ← hn, Nat.mul_mul_mul_comm, Nat.mul_comm q p]
  rw [e, psumN_rows]
  have h1 : psumN (fun i => psumN (fun j => g ((i * (2 * p) + j) / (2 * p) / 2 * p + (i * (2 * p) + j) % (2 * p) / 2)) (2 * p)) (2 * q) = psumN (fun i => 2 * psumN (fun j => g (i / 2 * p + j)) p) (2 * q) := by
    refine psumN_congr fun i _ => ?_
    rw [← psumN_half (fun j => g (i / 2 * p + j)) p]
    refine psumN_congr fun j hj => ?_
    obtain ⟨hd, hm⟩ := div_at (W := 2 * p) (i := i) (j := j) hj
    rw [hd, hm]
  rw [h1, psumN_scale, psumN_half (fun i => psumN (fun j => g (i * p + j)) p) q, ← psumN_rows, Nat.mul_comm q p, hn]
  omega
theorem splitN_len {p P2 m : Nat} {xs : List Nat} : (splitN p P2 xs m).length = m := genN_len _ _
theorem splitN_sum {p q n m : Nat} {xs : List Nat} (hp : 0 < p) (hn : p * q = n) (hm : 4 * n = m) (hl : xs.length = n) : (splitN p (2 * p) xs m).sum = 4 * xs.sum := by
  rw [← psumN_all (l := splitN p (2 * p) xs m) (n := m) splitN_len, ← psumN_all hl, ← split_four hp hn hm (fun i => xs.getD i 0)]
  exact psumN_congr fun k hk => by unfold splitN; rw [genN_get _ hk]
theorem near_split {p q n m b : Nat} {xs ys : List Nat} (hp : 0 < p) (hn : p * q = n) (hm : 4 * n = m) (hx : xs.length = n) (hy : ys.length = n) (px : 0 < xs.sum) (py : 0 < ys.sum) (h : Near b xs ys) : Near b (splitN p (2 * p) xs m) (splitN p (2 * p) ys m) := by
  have key : ∀ (us vs : List Nat) (a c : Nat), psumN (fun k => a * (splitN p (2 * p) us m).getD k 0 - c * (splitN p (2 * p) vs m).getD k 0) m ≤ 4 * psumN (fun i => a * us.getD i 0 - c * vs.getD i 0) n := fun us vs a c => by
    rw [← split_four hp hn hm (fun i => a * us.getD i 0 - c * vs.getD i 0)]
    refine Nat.le_of_eq (psumN_congr fun k hk => ?_)
    unfold splitN
    rw [genN_get _ hk, genN_get _ hk]
  refine near_push (most := 4) (by rw [hx, hy]) (by rw [splitN_len, splitN_len]) px py (fun a c => ?_) (fun a c => ?_) h ?_
  · rw [splitN_len, hx]; exact key xs ys a c
  · rw [splitN_len, hx]; exact key ys xs a c
  · rw [splitN_sum hp hn hm hx, ← Nat.mul_assoc]
    exact Nat.le_refl _
theorem near_spl14 {p q n m : Nat} {zs : List Int} (hp : 0 < p) (hn : p * q = n) (hm : 4 * n = m) (hl : zs.length = n) (hz : ∀ z ∈ zs, 0 ≤ z ∧ z ≤ 1073741824) (hm4 : m ≤ 4096) (hS : 1073741824 ≤ isum zs + n) : Near (cost18 m).toNat (toN (split14 p zs m)) (splitN p (2 * p) (toN zs) m) := by
  have hzs : ∀ z ∈ zs, 0 ≤ z := fun z h => (hz z h).1
  have g := getD_all (P := fun z => 0 ≤ z ∧ z ≤ 1073741824) (by omega) hz
  rw [toN_isum hzs] at hS
  have hpt : ∀ k, k < m → (toN (split14 p zs m)).getD k 0 * 4 ≤ (splitN p (2 * p) (toN zs) m).getD k 0 ∧ (splitN p (2 * p) (toN zs) m).getD k 0 ≤ (toN (split14 p zs m)).getD k 0 * 4 + 3 := fun k hk => by
    rw [toN_getD]
    unfold split14 splitN
    rw [gen_get _ hk, genN_get _ hk]
    unfold splitv
    rw [toN_getD]
    have := g (k / (2 * p) / 2 * p + k % (2 * p) / 2)
    generalize zs.getD (k / (2 * p) / 2 * p + k % (2 * p) / 2) 0 = z at *
    omega
  have hlv : (toN (split14 p zs m)).length = m := by rw [toN_len]; exact gen_len _ _
  have hsum : (splitN p (2 * p) (toN zs) m).sum ≤ (toN (split14 p zs m)).sum * 4 + m * 3 := by
    rw [← psumN_all (l := splitN p (2 * p) (toN zs) m) (n := m) splitN_len, ← psumN_mul_l hlv, ← psumN_const 3 m, ← psumN_add]
    exact psumN_mono fun k hk => (hpt k hk).2
  refine near_dom (c := 4) (by rw [hlv, splitN_len]) (fun i hi => (hpt i (by rwa [hlv] at hi)).1) ?_
  rw [splitN_sum hp hn hm (by rw [toN_len]; exact hl)] at hsum ⊢
  have hcg := cost_ge hm4
  generalize (toN (split14 p zs m)).sum = V at *
  generalize (toN zs).sum = S at *
  generalize (cost18 (m : Int)).toNat = c at *
  have h1 : 4 * S - V * 4 ≤ 4 * m := by omega
  have h2 := Nat.mul_le_mul_right c (show 1073741824 - 4 * m ≤ S by omega)
  have h3 := Nat.mul_le_mul_right 1099511627776 h1
  refine Nat.le_trans h3 ?_
  rw [Nat.mul_assoc, Nat.mul_assoc]
  exact Nat.mul_le_mul_left _ (Nat.le_trans hcg h2)
theorem sel_le {P : Nat → Prop} [DecidablePred P] {σ : Nat → Nat} {g : Nat → Nat} : ∀ {m b : Nat}, (∀ k, k < m → P k → σ k < b) → (∀ j k, j < k → k < m → P j → P k → σ j < σ k) → psumN (fun k => if P k then g (σ k) else 0) m ≤ psumN g b
  | 0, _, _, _ => Nat.zero_le _
  | m + 1, b, h1, h2 => by
    rw [psumN]
    by_cases hm : P m
    · rw [if_pos hm]
      have ih := sel_le (m := m) (b := σ m) (g := g) (fun k hk hP => h2 k m hk (by omega) hP hm) (fun j k hjk hk => h2 j k hjk (by omega))
      have hb := h1 m (by omega) hm
      have e : psumN g (σ m) + g (σ m) ≤ psumN g b := by
        have e1 : b = (σ m + 1) + (b - (σ m + 1)) := by omega
        rw [e1, psumN_split, psumN]
        omega
      omega
    · rw [if_neg hm, Nat.add_zero]
      exact sel_le (m := m) (b := b) (fun k hk => h1 k (by omega)) (fun j k hjk hk => h2 j k hjk (by omega))
def inCut (W H x y : Int) (w : Nat) (k : Nat) : Prop := 0 ≤ x + (k : Int) % w ∧ x + (k : Int) % w < W ∧ 0 ≤ y + (k : Int) / w ∧ y + (k : Int) / w < H
instance {W H x y : Int} {w k : Nat} : Decidable (inCut W H x y w k) := by unfold inCut; infer_instance
def cutIx (W x y : Int) (w : Nat) (k : Nat) : Nat := ((y + (k : Int) / w) * W + (x + (k : Int) % w)).toNat
theorem cut_rise {p q n w : Nat} {x y : Int} (hn : (p : Int) * (q : Int) = n) (hw : 0 < w) {j k : Nat} (hjk : j < k) (hj : inCut p q x y w j) (hk : inCut p q x y w k) : cutIx p x y w j < cutIx p x y w k := by
  have b1 := place_bd hn hj.1 hj.2.1 hj.2.2.1 hj.2.2.2
  have b2 := place_bd hn hk.1 hk.2.1 hk.2.2.1 hk.2.2.2
  unfold cutIx
  unfold inCut at hj hk
  have e1 : ((j : Int) / w) = ((j / w : Nat) : Int) := (Int.natCast_ediv j w).symm
  have e2 : ((k : Int) / w) = ((k / w : Nat) : Int) := (Int.natCast_ediv k w).symm
  have e3 : ((j : Int) % w) = ((j % w : Nat) : Int) := (Int.natCast_emod j w).symm
  have e4 : ((k : Int) % w) = ((k % w : Nat) : Int) := (Int.natCast_emod k w).symm
  rw [e1, e3] at hj b1 ⊢
  rw [e2, e4] at hk b2 ⊢
  have hd : j / w ≤ k / w := Nat.div_le_div_right (by omega)
  have d1 := Nat.div_add_mod j w
  have d2 := Nat.div_add_mod k w
  generalize j / w = r1 at *
  generalize k / w = r2 at *
  generalize j % w = c1 at *
  generalize k % w = c2 at *
  rcases Nat.lt_or_ge r1 r2 with h | h
  · have h5 := Int.mul_le_mul_of_nonneg_right (show y + (r1 : Int) + 1 ≤ y + (r2 : Int) by omega) (show (0 : Int) ≤ p by omega)
    rw [Int.add_mul, Int.one_mul] at h5
    generalize (y + (r1 : Int)) * (p : Int) = R1 at *
    generalize (y + (r2 : Int)) * (p : Int) = R2 at *
    omega
  · obtain rfl : r1 = r2 := by omega
    have hc : c1 < c2 := by omega
    generalize (y + (r1 : Int)) * (p : Int) = R1 at *
    omega
theorem cutN_len {W H x y w : Int} {m : Nat} {xs : List Nat} : (cutN W H xs x y w m).length = m := genN_len _ _
theorem cutvN_if {p q w k : Nat} {x y : Int} {xs : List Nat} : cutvN p q xs x y w k = if inCut p q x y w k then xs.getD (cutIx p x y w k) 0 else 0 := rfl
theorem cut_push {p q n w m : Nat} {x y : Int} (hn : (p : Int) * (q : Int) = n) (hw : 0 < w) (us vs : List Nat) (a c : Nat) : psumN (fun k => a * (cutN p q us x y w m).getD k 0 - c * (cutN p q vs x y w m).getD k 0) m ≤ psumN (fun i => a * us.getD i 0 - c * vs.getD i 0) n := by
  refine Nat.le_trans (Nat.le_of_eq (psumN_congr (g := fun k => if inCut p q x y w k then (fun i => a * us.getD i 0 - c * vs.getD i 0) (cutIx p x y w k) else 0) fun k hk => ?_)) (sel_le (P := inCut p q x y w) (σ := cutIx p x y w) (g := fun i => a * us.getD i 0 - c * vs.getD i 0) (m := m) (b := n) (fun k hk hP => ?_) fun j k hjk hk hPj hPk => cut_rise hn hw hjk hPj hPk)
  · unfold cutN
    rw [genN_get _ hk, genN_get _ hk, cutvN_if, cutvN_if]
    by_cases h : inCut p q x y w k
    · rw [if_pos h, if_pos h, if_pos h]
    · rw [if_neg h, if_neg h, if_neg h]; simp
  · have b := place_bd hn hP.1 hP.2.1 hP.2.2.1 hP.2.2.2
    unfold cutIx
    omega
theorem near_cut {p q n w m b b' : Nat} {x y : Int} {xs ys : List Nat} (hn : (p : Int) * (q : Int) = n) (hw : 0 < w) (hx : xs.length = n) (hy : ys.length = n) (px : 0 < xs.sum) (py : 0 < ys.sum) (h : Near b xs ys) (hb : b * xs.sum ≤ b' * (cutN p q xs x y w m).sum) : Near b' (cutN p q xs x y w m) (cutN p q ys x y w m) := by
  refine near_push (most := 1) (by rw [hx, hy]) (by rw [cutN_len, cutN_len]) px py (fun a c => ?_) (fun a c => ?_) h (by rw [Nat.mul_one]; exact hb)
  · rw [cutN_len, hx, Nat.one_mul]; exact cut_push hn hw xs ys a c
  · rw [cutN_len, hx, Nat.one_mul]; exact cut_push hn hw ys xs a c
theorem cut_none {p q n w m b : Nat} {x y : Int} {xs ys : List Nat} (hn : (p : Int) * (q : Int) = n) (hw : 0 < w) (hx : xs.length = n) (py : 0 < ys.sum) (h : Near b xs ys) (h0 : (cutN p q ys x y w m).sum = 0) : (cutN p q xs x y w m).sum * 1099511627776 ≤ b * xs.sum := by
  have := near_none (most := 1) (xs' := cutN p q xs x y w m) (ys' := cutN p q ys x y w m) py h0 (by rw [cutN_len, cutN_len]) (fun a c => by rw [cutN_len, hx, Nat.one_mul]; exact cut_push hn hw xs ys a c) h
  rwa [Nat.mul_one] at this
theorem join_four {p q1 n n4 : Nat} (hp : 0 < p) (hm : p * q1 = n4) (hn : 4 * n4 = n) (g : Nat → Nat) : psumN (fun k => g (base14 (2 * p) p k) + g (base14 (2 * p) p k + 1) + g (base14 (2 * p) p k + 2 * p) + g (base14 (2 * p) p k + 2 * p + 1)) n4 = psumN g n := by
  have hnn : n = 2 * p * (2 * q1) := by rw [← hn, ← hm, Nat.mul_mul_mul_comm]
  have hs := join_sum (p := p) (q := q1) (n4 := n4) (zs := gen14 n fun i => (g i : Int)) hp hm (by rw [gen_len]; exact hnn)
  rw [isum_gen, ← psumN_cast] at hs
  unfold join14 at hs
  rw [isum_gen] at hs
  have e : psum (joinv (2 * p) p (gen14 n fun i => (g i : Int))) n4 = psum (fun k => ((g (base14 (2 * p) p k) + g (base14 (2 * p) p k + 1) + g (base14 (2 * p) p k + 2 * p) + g (base14 (2 * p) p k + 2 * p + 1) : Nat) : Int)) n4 := psum_congr fun k hk => by
    have hb := base_lt (p := 2 * p) (m := p) (q2 := q1) (k := k) rfl hp (by omega)
    unfold joinv
    rw [gen_get _ (by omega), gen_get _ (by omega), gen_get _ (by omega), gen_get _ (by omega)]
    push_cast
    rfl
  rw [e, ← psumN_cast (fun k => g (base14 (2 * p) p k) + g (base14 (2 * p) p k + 1) + g (base14 (2 * p) p k + 2 * p) + g (base14 (2 * p) p k + 2 * p + 1))] at hs
  omega
theorem joinN_len {p m n4 : Nat} {xs : List Nat} : (joinN p m xs n4).length = n4 := genN_len _ _
theorem joinN_sum {p q1 n n4 : Nat} {xs : List Nat} (hp : 0 < p) (hm : p * q1 = n4) (hn : 4 * n4 = n) (hl : xs.length = n) : (joinN (2 * p) p xs n4).sum = xs.sum := by
  rw [← psumN_all (l := joinN (2 * p) p xs n4) (n := n4) joinN_len, ← psumN_all hl, ← join_four hp hm hn (fun i => xs.getD i 0)]
  exact psumN_congr fun k hk => by unfold joinN; rw [genN_get _ hk]; rfl
theorem near_join {p q1 n n4 b : Nat} {xs ys : List Nat} (hp : 0 < p) (hm : p * q1 = n4) (hn : 4 * n4 = n) (hx : xs.length = n) (hy : ys.length = n) (px : 0 < xs.sum) (py : 0 < ys.sum) (h : Near b xs ys) : Near b (joinN (2 * p) p xs n4) (joinN (2 * p) p ys n4) := by
  have key : ∀ (us vs : List Nat) (a c : Nat), psumN (fun k => a * (joinN (2 * p) p us n4).getD k 0 - c * (joinN (2 * p) p vs n4).getD k 0) n4 ≤ psumN (fun i => a * us.getD i 0 - c * vs.getD i 0) n := fun us vs a c => by
    rw [← join_four hp hm hn (fun i => a * us.getD i 0 - c * vs.getD i 0)]
    refine psumN_mono fun k hk => ?_
    unfold joinN
    rw [genN_get _ hk, genN_get _ hk]
    unfold joinvN
    rw [Nat.mul_add, Nat.mul_add, Nat.mul_add, Nat.mul_add, Nat.mul_add, Nat.mul_add]
    omega
  refine near_push (most := 1) (by rw [hx, hy]) (by rw [joinN_len, joinN_len]) px py (fun a c => ?_) (fun a c => ?_) h ?_
  · rw [joinN_len, hx, Nat.one_mul]; exact key xs ys a c
  · rw [joinN_len, hx, Nat.one_mul]; exact key ys xs a c
  · rw [joinN_sum hp hm hn hx, Nat.mul_one]
    exact Nat.le_refl _
end Go.Proofs.Yteancdipmpmjpaa
namespace Go.Proofs.Yteancdipmpmjpaa
set_option linter.unusedVariables false
structure Holds (n : Nat) (zs : List Int) (us : List Nat) (B : Int) : Prop where
  n1 : 1 ≤ n ∧ n ≤ 64
  lz : zs.length = n
  lu : us.length = n
  nums : ∀ z ∈ zs, 0 ≤ z ∧ z ≤ 1073741824
  top : isum zs ≤ 1073741824
  low : 1073741824 ≤ isum zs + n
  b0 : 0 ≤ B
  b1 : B ≤ 1099511627776
  none : us.sum = 0 → B = 1099511627776
  near : 0 < us.sum → Near B.toNat (toN zs) us
theorem Holds.pos {n : Nat} {zs : List Int} {us : List Nat} {B : Int} (h : Holds n zs us B) : 0 < isum zs := by have := h.low; have := h.n1; omega
theorem Holds.posN {n : Nat} {zs : List Int} {us : List Nat} {B : Int} (h : Holds n zs us B) : 0 < (toN zs).sum := by
  have h1 := h.pos
  rw [toN_isum fun z hz => (h.nums z hz).1] at h1
  omega
theorem Holds.over {n : Nat} {zs : List Int} {us : List Nat} {B : Int} (h : Holds n zs us B) : over17 (toN zs) us B = false := by
  by_cases h0 : us.sum = 0
  · unfold over17
    rw [if_pos (.inr h0), h.none h0]
    decide
  · exact near_over (by rw [toN_len, h.lz, h.lu]) h.posN (by omega) (h.near (by omega))
theorem Holds.first {n : Nat} {zs : List Int} (n1 : 1 ≤ n ∧ n ≤ 64) (lz : zs.length = n) (nums : ∀ z ∈ zs, 0 ≤ z ∧ z ≤ 1073741824) (top : isum zs ≤ 1073741824) (low : 1073741824 ≤ isum zs + n) : Holds n zs (toN zs) 0 :=
  ⟨n1, lz, by rw [toN_len, lz], nums, top, low, by omega, by omega, fun h => by
    rw [toN_isum fun z hz => (nums z hz).1, h] at low
    omega, fun _ => near_self _ _⟩
theorem holds_norm {m : Nat} {vs : List Int} {es us us' : List Nat} {s : Nat} {b k B' : Int} (m1 : 1 ≤ m ∧ m ≤ 64) (lv : vs.length = m) (hv : ∀ z ∈ vs, 0 ≤ z) (hp : 0 < isum vs) (le : es.length = m) (pe : 0 < es.sum) (lu : us.length = m) (hs : scl s us' = us)
    (hk0 : 0 ≤ k) (hb0 : 0 ≤ b) (hr : Near k.toNat (toN vs) es) (hn : Near b.toNat es us) (hz : us.sum = 0 → 1099511627776 ≤ b) (hB : B' = plus18 b (cost18 m + k) ∨ (B' = plus18 (min b 1099511627776) (cost18 m + k))) : Holds m (norm14 (isum vs) vs) us' B' := by
  have hc := (cost_bd (n := (m : Int)) (by omega) (by omega)).2
  have hns := norm_sum hp hv
  have hnz : ∀ z ∈ norm14 (isum vs) vs, 0 ≤ z ∧ z ≤ 1073741824 := fun z hm => by
    obtain ⟨y, hy, rfl⟩ := List.mem_map.1 hm
    have h1 := hv y hy
    have h2 : y ≤ isum vs := by
      have : ∀ {l : List Int}, (∀ z ∈ l, 0 ≤ z) → y ∈ l → y ≤ isum l ∧ 0 ≤ isum l := by
        intro l
        induction l with
        | nil => intro _ h; cases h
        | cons a r ih =>
          intro h hm
          have h0 : 0 ≤ isum r := by
            clear ih hm
            induction r with
            | nil => simp [isum]
            | cons b r ih => 
              have q1 := ih fun z hz => h z (by
                rcases List.mem_cons.1 hz with h | h
                · exact List.mem_cons.2 (.inl h)
                · exact List.mem_cons.2 (.inr (List.mem_cons_of_mem _ h)))
              have q2 := h b (by simp)
              simp only [isum]; omega
          have ha := h a (by simp)
          rcases List.mem_cons.1 hm with rfl | hm
          · simp only [isum]; omega
          · have := ih (fun z hz => h z (List.mem_cons_of_mem _ hz)) hm
            simp only [isum]; omega
      exact (this hv hy).1
    refine ⟨Int.ediv_nonneg (Int.mul_nonneg h1 (by omega)) (by omega), ?_⟩
    refine Int.ediv_le_of_le_mul hp ?_
    rw [Int.mul_comm]
    exact Int.mul_le_mul_of_nonneg_left h2 (by omega)
  have hB0 : 0 ≤ B' ∧ B' ≤ 1099511627776 := by
    rcases hB with rfl | rfl
    · exact plus_bd hb0 (by omega)
    · exact plus_bd (by omega) (by omega)
  have hBn : Near (cost18 m + k + b).toNat (toN (norm14 (isum vs) vs)) us := by
    have h1 := near_norm lv hv hp (by omega)
    have pv : 0 < (toN vs).sum := by rw [toN_isum hv] at hp; omega
    have h2 := (h1.trans (by rw [toN_len, toN_len, norm_len]) pv hr).trans (by rw [toN_len, norm_len, lv, le]) pe hn
    refine h2.mono ?_
    omega
  have hBl : Near B'.toNat (toN (norm14 (isum vs) vs)) us := by
    by_cases hc2 : 1099511627776 ≤ B'
    · exact near_one (by omega)
    · refine hBn.mono ?_
      rcases hB with rfl | rfl
      · unfold plus18 at hc2 ⊢
        split at hc2
        · omega
        · split <;> omega
      · unfold plus18 at hc2 ⊢
        split at hc2
        · omega
        · split <;> omega
  have hss : us.sum = us'.sum * 2 ^ s := by rw [← hs, scl_sum]
  refine ⟨m1, by rw [norm_len]; exact lv, by rw [← scl_len s us', hs]; exact lu, hnz, ?_, ?_, hB0.1, hB0.2, fun h0 => ?_, fun h0 => ?_⟩
  · refine Int.le_of_mul_le_mul_right ?_ hp
    rw [Int.mul_comm 1073741824]
    exact hns.1
  · refine Int.le_of_mul_le_mul_right ?_ hp
    rw [Int.mul_comm 1073741824, ← lv]
    exact hns.2
  · have h1 := hz (by rw [hss, h0, Nat.zero_mul])
    rcases hB with rfl | rfl
    · unfold plus18; split <;> omega
    · unfold plus18; split <;> omega
  · rw [← hs] at hBl
    exact near_scl hBl
end Go.Proofs.Yteancdipmpmjpaa
namespace Go.Proofs.Yteancdipmpmjpaa
set_option linter.unusedVariables false
theorem near_zero {b : Nat} {xs ys : List Nat} (h : ys.sum = 0) : Near b xs ys := by
  have hz : ∀ k, ys.getD k 0 = 0 := fun k => by
    have := getDR_le (l := ys) (i := k)
    omega
  have e : posN xs ys = 0 := by
    unfold posN
    rw [psumN_congr (g := fun _ => 0) fun i _ => by rw [h, hz i]; simp, psumN_const, Nat.mul_zero]
  unfold Near
  rw [e, Nat.zero_mul]
  exact Nat.zero_le _
theorem toN_ext {zs : List Int} {us : List Nat} {n : Nat} (h1 : zs.length = n) (h2 : us.length = n) (h : ∀ i, i < n → (zs.getD i 0).toNat = us.getD i 0) : toN zs = us := by
  apply List.ext_getElem?
  intro i
  by_cases hi : i < n
  · have e := h i hi
    rw [← toN_getD] at e
    rw [List.getD, List.getD, List.getElem?_eq_getElem (by rw [toN_len]; omega), List.getElem?_eq_getElem (by omega)] at e
    rw [List.getElem?_eq_getElem (by rw [toN_len]; omega), List.getElem?_eq_getElem (by omega)]
    exact congrArg some e
  · rw [List.getElem?_eq_none (by rw [toN_len]; omega), List.getElem?_eq_none (by omega)]
theorem holds_spread {n p q qn s : Nat} {zs : List Int} {us us' : List Nat} {B : Int} (h : Holds n zs us B) (hn : q * p = n) (hq : qn ≤ 85) (hs : scl s us' = sprd17 p q qn us) :
    0 < isum (sprd14 p q qn zs) ∧ Holds n (norm14 (isum (sprd14 p q qn zs)) (sprd14 p q qn zs)) us' (plus18 B (3 * cost18 n)) := by
  have hn1 := h.n1
  have hlost := sprd_lost (W := p) (H := q) (q := (qn : Int)) (zs := zs) (by rw [h.lz, hn])
  have hlow := h.low
  rw [hn] at hlost
  have hp : 0 < isum (sprd14 p q qn zs) := by omega
  have hc := (cost_bd (n := (n : Int)) (by omega) (by omega)).2
  have hlx : (toN zs).length = q * p := by rw [toN_len, h.lz, hn]
  have hb0 := h.b0
  refine ⟨hp, holds_norm (es := sprd17 p q qn (toN zs)) (us := sprd17 p q qn us) (b := B) (k := 2 * cost18 n) hn1 (by rw [sprd_len, hn]) (fun z hz => (sprd_bd (W := p) (H := q) (q := (qn : Int)) (by omega) h.nums z hz).1) hp (by rw [sprd17_len, hn]) ?_ (by rw [sprd17_len, hn]) hs (by omega) hb0 ?_ ?_ ?_ (.inl ?_)⟩
  · rw [sprd_sum hq hlx]
    have := h.posN
    omega
  · have hr := near_spr14 hq hn h.lz h.nums (by omega) h.low
    refine hr.mono ?_
    omega
  · by_cases h0 : us.sum = 0
    · exact near_zero (by rw [sprd_sum hq (by rw [h.lu, hn]), h0])
    · exact near_spread hq hlx (by rw [h.lu, hn]) h.posN (by omega) (h.near (by omega))
  · intro h0
    rw [sprd_sum hq (by rw [h.lu, hn])] at h0
    have := h.none (by omega)
    omega
  · congr 1
    omega
theorem holds_split {n p q m s : Nat} {zs : List Int} {us us' : List Nat} {B : Int} (h : Holds n zs us B) (hp : 0 < p) (hn : p * q = n) (hm : 4 * n = m) (hm64 : m ≤ 64) (hs : scl s us' = splitN p (2 * p) us m) :
    0 < isum (split14 p zs m) ∧ Holds m (norm14 (isum (split14 p zs m)) (split14 p zs m)) us' (plus18 B (2 * cost18 m)) := by
  have hn1 := h.n1
  have hb0 := h.b0
  have hc := (cost_bd (n := (m : Int)) (by omega) (by omega)).2
  have hzs : ∀ z ∈ zs, 0 ≤ z := fun z hz => (h.nums z hz).1
  have g := getD_all (P := fun z => 0 ≤ z ∧ z ≤ 1073741824) (by omega) h.nums
  have hv : ∀ z ∈ split14 p zs m, 0 ≤ z := gen_mem fun i _ => by
    unfold splitv
    have := g (i / (2 * p) / 2 * p + i % (2 * p) / 2)
    omega
  have hlz : (toN zs).length = n := by rw [toN_len, h.lz]
  have hlv : (toN (split14 p zs m)).length = m := by rw [toN_len]; exact gen_len _ _
  have hsum : (splitN p (2 * p) (toN zs) m).sum ≤ (toN (split14 p zs m)).sum * 4 + m * 3 := by
    rw [← psumN_all (l := splitN p (2 * p) (toN zs) m) (n := m) splitN_len, ← psumN_mul_l hlv, ← psumN_const 3 m, ← psumN_add]
    refine psumN_mono fun k hk => ?_
    rw [toN_getD]
    unfold split14 splitN
    rw [gen_get _ hk, genN_get _ hk]
    unfold splitv
    rw [toN_getD]
    have := g (k / (2 * p) / 2 * p + k % (2 * p) / 2)
    generalize zs.getD (k / (2 * p) / 2 * p + k % (2 * p) / 2) 0 = z at *
    omega
  have hlow := h.low
  rw [splitN_sum hp hn hm hlz] at hsum
  rw [toN_isum hzs] at hlow
  have hpos : 0 < isum (split14 p zs m) := by
    rw [toN_isum hv]
    omega
  refine ⟨hpos, holds_norm (es := splitN p (2 * p) (toN zs) m) (us := splitN p (2 * p) us m) (b := B) (k := cost18 m) (by omega) (gen_len _ _) hv hpos splitN_len ?_ splitN_len hs (by omega) hb0 ?_ ?_ ?_ (.inl ?_)⟩
  · rw [splitN_sum hp hn hm hlz]
    have := h.posN
    omega
  · exact near_spl14 hp hn hm h.lz h.nums (by omega) h.low
  · by_cases h0 : us.sum = 0
    · exact near_zero (by rw [splitN_sum hp hn hm h.lu, h0])
    · exact near_split hp hn hm hlz h.lu h.posN (by omega) (h.near (by omega))
  · intro h0
    rw [splitN_sum hp hn hm h.lu] at h0
    have := h.none (by omega)
    omega
  · congr 1
    omega
theorem holds_join {n p q1 n4 s : Nat} {zs : List Int} {us us' : List Nat} {B : Int} (h : Holds n zs us B) (hp : 0 < p) (hm : p * q1 = n4) (hn : 4 * n4 = n) (hs : scl s us' = joinN (2 * p) p us n4) :
    0 < isum (join14 (2 * p) p zs n4) ∧ Holds n4 (norm14 (isum (join14 (2 * p) p zs n4)) (join14 (2 * p) p zs n4)) us' (plus18 B (cost18 n4)) := by
  have hn1 := h.n1
  have hb0 := h.b0
  have hc := (cost_bd (n := (n4 : Int)) (by omega) (by omega)).2
  have g := getD_all (P := fun z => 0 ≤ z ∧ z ≤ 1073741824) (by omega) h.nums
  have hv : ∀ z ∈ join14 (2 * p) p zs n4, 0 ≤ z := gen_mem fun i _ => by
    unfold joinv
    have g1 := g (base14 (2 * p) p i)
    have g2 := g (base14 (2 * p) p i + 1)
    have g3 := g (base14 (2 * p) p i + 2 * p)
    have g4 := g (base14 (2 * p) p i + 2 * p + 1)
    omega
  have hlz : (toN zs).length = n := by rw [toN_len, h.lz]
  have hnn : n = 2 * p * (2 * q1) := by rw [← hn, ← hm, Nat.mul_mul_mul_comm]
  have hsum := join_sum (p := p) (q := q1) (n4 := n4) (zs := zs) hp hm (by rw [h.lz]; exact hnn)
  have hpos : 0 < isum (join14 (2 * p) p zs n4) := by rw [hsum]; exact h.pos
  have hE : toN (join14 (2 * p) p zs n4) = joinN (2 * p) p (toN zs) n4 := toN_ext (gen_len _ _) joinN_len fun i hi => by
    unfold join14 joinN
    rw [gen_get _ hi, genN_get _ hi]
    unfold joinv joinvN
    rw [toN_getD, toN_getD, toN_getD, toN_getD]
    have g1 := g (base14 (2 * p) p i)
    have g2 := g (base14 (2 * p) p i + 1)
    have g3 := g (base14 (2 * p) p i + 2 * p)
    have g4 := g (base14 (2 * p) p i + 2 * p + 1)
    omega
  refine ⟨hpos, holds_norm (es := joinN (2 * p) p (toN zs) n4) (us := joinN (2 * p) p us n4) (b := B) (k := 0) (by omega) (gen_len _ _) hv hpos joinN_len ?_ joinN_len hs (by omega) hb0 ?_ ?_ ?_ (.inl ?_)⟩
  · rw [joinN_sum hp hm hn hlz]
    exact h.posN
  · rw [hE]; exact near_self _ _
  · by_cases h0 : us.sum = 0
    · exact near_zero (by rw [joinN_sum hp hm hn h.lu, h0])
    · exact near_join hp hm hn hlz h.lu h.posN (by omega) (h.near (by omega))
  · intro h0
    rw [joinN_sum hp hm hn h.lu] at h0
    have := h.none h0
    omega
  · congr 1
    omega
theorem foldl_max {l : List Int} : ∀ {a : Int}, a ≤ l.foldl (fun a b => max a b) a ∧ ∀ z ∈ l, z ≤ l.foldl (fun a b => max a b) a := by
  induction l with
  | nil => intro a; exact ⟨Int.le_refl _, fun z h => by cases h⟩
  | cons b r ih =>
    intro a
    have h1 := (ih (a := max a b)).1
    have h2 := (ih (a := max a b)).2
    simp only [List.foldl_cons]
    refine ⟨by omega, fun z hz => ?_⟩
    rcases List.mem_cons.1 hz with rfl | hz
    · omega
    · exact h2 z hz
theorem imax_ge {l : List Int} {z : Int} (h : z ∈ l) : z ≤ imax l := foldl_max.2 z h
theorem imax_nn {l : List Int} : 0 ≤ imax l := foldl_max.1
theorem wghN_le {most : Nat} {xs : List Nat} {ls : List Int} (hm : ∀ l ∈ ls, l.toNat ≤ most) : (wghN xs ls).sum ≤ most * xs.sum := by
  rw [← psumN_all (l := wghN xs ls) (n := xs.length) (wghN_len _ _), ← psumN_scl rfl]
  refine psumN_mono fun k hk => ?_
  unfold wghN
  rw [genN_get _ hk, Nat.mul_comm]
  refine Nat.mul_le_mul_right _ ?_
  by_cases hk2 : k < ls.length
  · exact hm _ (getD_mem hk2)
  · rw [List.getD, List.getElem?_eq_none (by omega)]; exact Nat.zero_le _
theorem cdiv_nat {B M X Z : Nat} (hZ : 0 < Z) : ∃ c : Nat, cdiv ((B : Int) * ((M : Int) * (X : Int))) Z = c ∧ B * M * X ≤ c * Z := by
  have hn := cdiv_nonneg (a := (B : Int) * ((M : Int) * (X : Int))) (b := (Z : Int)) (Int.mul_nonneg (by omega) (Int.mul_nonneg (by omega) (by omega))) (by omega)
  refine ⟨(cdiv ((B : Int) * ((M : Int) * (X : Int))) Z).toNat, by omega, ?_⟩
  have h1 := (cdiv_le (a := (B : Int) * ((M : Int) * (X : Int))) (b := (Z : Int)) (by omega)).1 (Int.le_refl _)
  obtain ⟨c, hc⟩ : ∃ c : Nat, cdiv ((B : Int) * ((M : Int) * (X : Int))) Z = c := ⟨(cdiv ((B : Int) * ((M : Int) * (X : Int))) Z).toNat, by omega⟩
  rw [hc] at h1 ⊢
  rw [Int.toNat_natCast, Nat.mul_assoc]
  exact Int.ofNat_le.1 (by rw [Int.natCast_mul, Int.natCast_mul, Int.natCast_mul]; exact h1)
theorem holds_weigh {n s : Nat} {zs ls : List Int} {us us' : List Nat} {B : Int} (h : Holds n zs us B) (hl : ls.length = n) (hb : ∀ l ∈ ls, 0 ≤ l ∧ l ≤ 65536) (hp : 0 < isum (wgh zs ls)) (hs : scl s us' = wghN us ls) :
    Holds n (norm14 (isum (wgh zs ls)) (wgh zs ls)) us' (plus18 (scal18 B (imax ls) (isum zs) (isum (wgh zs ls))) (cost18 n)) := by
  have hn1 := h.n1
  have hb0 := h.b0
  have hc := (cost_bd (n := (n : Int)) (by omega) (by omega)).2
  have hzs : ∀ z ∈ zs, 0 ≤ z := fun z hz => (h.nums z hz).1
  have hv : ∀ z ∈ wgh zs ls, 0 ≤ z := fun z hz => (wgh_bd h.nums hb z hz).1
  have hlv := wgh_len h.lz hl
  have hlz : (toN zs).length = n := by rw [toN_len, h.lz]
  have hE : toN (wgh zs ls) = wghN (toN zs) ls := toN_ext hlv (by rw [wghN_len, hlz]) fun i hi => by
    unfold wghN
    rw [genN_get _ (by omega), wgh_get h.lz hl hi, toN_getD]
    have g1 := h.nums _ (getD_mem (l := zs) (i := i) (by rw [h.lz]; exact hi))
    have g2 := hb _ (getD_mem (l := ls) (i := i) (by omega))
    generalize zs.getD i 0 = a at *
    generalize ls.getD i 0 = b at *
    obtain ⟨x, rfl⟩ : ∃ x : Nat, a = x := ⟨a.toNat, by omega⟩
    obtain ⟨y, rfl⟩ : ∃ y : Nat, b = y := ⟨b.toNat, by omega⟩
    rw [← Int.natCast_mul]
    rfl
  obtain ⟨M, hM⟩ : ∃ M : Nat, imax ls = M := ⟨(imax ls).toNat, by have := imax_nn (l := ls); omega⟩
  have hmost : ∀ l ∈ ls, l.toNat ≤ M := fun l hl => by
    have := imax_ge hl
    omega
  have hZ : isum (wgh zs ls) = ((wghN (toN zs) ls).sum : Nat) := by rw [toN_isum hv, hE]
  have hX : isum zs = ((toN zs).sum : Nat) := toN_isum hzs
  have hZ0 : 0 < (wghN (toN zs) ls).sum := by omega
  obtain ⟨b, hbB⟩ : ∃ b : Nat, B = b := ⟨B.toNat, by omega⟩
  obtain ⟨c, hcd, hcc⟩ := cdiv_nat (B := b) (M := M) (X := (toN zs).sum) hZ0
  have hsc : scal18 B (imax ls) (isum zs) (isum (wgh zs ls)) = min (c : Int) 1099511627776 := by
    unfold scal18 ups
    rw [if_neg (by omega), hM, hX, hZ, hbB, hcd]
  rw [hsc]
  have hnear : Near c (toN (wgh zs ls)) (wghN us ls) := by
    rw [hE]
    by_cases h0 : us.sum = 0
    · refine near_zero ?_
      have := wghN_le (xs := us) hmost
      rw [h0, Nat.mul_zero] at this
      omega
    · have hnn := h.near (by omega)
      rw [hbB, Int.toNat_natCast] at hnn
      exact near_weigh (by rw [hlz, h.lu]) h.posN (by omega) hmost hnn hcc
  have hbig : (wghN us ls).sum = 0 → 1099511627776 ≤ (c : Int) := fun h0 => by
    have hkey : (wghN (toN zs) ls).sum * 1099511627776 ≤ b * M * (toN zs).sum := by
      by_cases h1 : us.sum = 0
      · have hB := h.none h1
        have hb40 : b = 1099511627776 := by omega
        have := Nat.mul_le_mul_left 1099511627776 (wghN_le (xs := toN zs) hmost)
        rw [hb40, Nat.mul_comm, Nat.mul_assoc]
        exact this
      · have hnn := h.near (by omega)
        rw [hbB, Int.toNat_natCast] at hnn
        exact weigh_none (by rw [hlz, h.lu]) (by omega) hmost hnn h0
    have h2 := Nat.le_trans hkey hcc
    rw [Nat.mul_comm] at h2
    have h3 := Nat.le_of_mul_le_mul_right h2 hZ0
    omega
  refine holds_norm (es := toN (wgh zs ls)) (us := wghN us ls) (b := (c : Int)) (k := 0) hn1 hlv hv hp (by rw [toN_len]; exact hlv) (by rw [hE]; exact hZ0) (by rw [wghN_len, h.lu]) hs (by omega) (by omega) (near_self _ _) (by rw [Int.toNat_natCast]; exact hnear) hbig (.inr ?_)
  congr 1
  omega
theorem holds_cut {n p q w m s : Nat} {x y : Int} {zs : List Int} {us us' : List Nat} {B : Int} (h : Holds n zs us B) (hn : (p : Int) * (q : Int) = n) (hw : 0 < w) (m1 : 1 ≤ m ∧ m ≤ 64) (hp : 0 < isum (cut14 p q zs x y w m)) (hs : scl s us' = cutN p q us x y w m) :
    Holds m (norm14 (isum (cut14 p q zs x y w m)) (cut14 p q zs x y w m)) us' (plus18 (scal18 B 1 (isum zs) (isum (cut14 p q zs x y w m))) (cost18 m)) := by
  have hn1 := h.n1
  have hb0 := h.b0
  have hc := (cost_bd (n := (m : Int)) (by omega) (by omega)).2
  have hzs : ∀ z ∈ zs, 0 ≤ z := fun z hz => (h.nums z hz).1
  have hv : ∀ z ∈ cut14 p q zs x y w m, 0 ≤ z := gen_mem fun i _ => (cutv_bd h.nums i).1
  have hlv : (cut14 p q zs x y w m).length = m := gen_len _ _
  have hlz : (toN zs).length = n := by rw [toN_len, h.lz]
  have hE : toN (cut14 p q zs x y w m) = cutN p q (toN zs) x y w m := toN_ext hlv cutN_len fun i hi => by
    unfold cut14 cutN
    rw [gen_get _ hi, genN_get _ hi]
    unfold cutv cutvN
    split
    · rw [toN_getD]
    · rfl
  have hZ : isum (cut14 p q zs x y w m) = ((cutN p q (toN zs) x y w m).sum : Nat) := by rw [toN_isum hv, hE]
  have hX : isum zs = ((toN zs).sum : Nat) := toN_isum hzs
  have hZ0 : 0 < (cutN p q (toN zs) x y w m).sum := by omega
  obtain ⟨b, hbB⟩ : ∃ b : Nat, B = b := ⟨B.toNat, by omega⟩
  obtain ⟨c, hcd, hcc⟩ := cdiv_nat (B := b) (M := 1) (X := (toN zs).sum) hZ0
  rw [Nat.mul_one] at hcc
  have hsc : scal18 B 1 (isum zs) (isum (cut14 p q zs x y w m)) = min (c : Int) 1099511627776 := by
    unfold scal18 ups
    rw [if_neg (by omega), hX, hZ, hbB]
    exact congrArg (fun t => min t 1099511627776) hcd
  rw [hsc]
  have hle : ∀ vs : List Nat, vs.length = n → (cutN p q vs x y w m).sum ≤ vs.sum := fun vs hl => by
    have := cut_push (x := x) (y := y) (m := m) hn hw vs [] 1 0
    have e1 : psumN (fun k => 1 * (cutN p q vs x y w m).getD k 0 - 0 * (cutN p q [] x y w m).getD k 0) m = (cutN p q vs x y w m).sum := by
      rw [← psumN_all (l := cutN p q vs x y w m) (n := m) cutN_len]
      exact psumN_congr fun k _ => by simp
    have e2 : psumN (fun i => 1 * vs.getD i 0 - 0 * ([] : List Nat).getD i 0) n = vs.sum := by
      rw [← psumN_all hl]
      exact psumN_congr fun k _ => by simp
    rw [e1, e2] at this
    exact this
  have hnear : Near c (toN (cut14 p q zs x y w m)) (cutN p q us x y w m) := by
    rw [hE]
    by_cases h0 : us.sum = 0
    · refine near_zero ?_
      have := hle us h.lu
      omega
    · have hnn := h.near (by omega)
      rw [hbB, Int.toNat_natCast] at hnn
      exact near_cut hn hw hlz h.lu h.posN (by omega) hnn hcc
  have hbig : (cutN p q us x y w m).sum = 0 → 1099511627776 ≤ (c : Int) := fun h0 => by
    have hkey : (cutN p q (toN zs) x y w m).sum * 1099511627776 ≤ b * (toN zs).sum := by
      by_cases h1 : us.sum = 0
      · have hB := h.none h1
        have hb40 : b = 1099511627776 := by omega
        have := Nat.mul_le_mul_left 1099511627776 (hle (toN zs) hlz)
        rw [hb40, Nat.mul_comm]
        exact this
      · have hnn := h.near (by omega)
        rw [hbB, Int.toNat_natCast] at hnn
        exact cut_none hn hw hlz (by omega) hnn h0
    have h2 := Nat.le_trans hkey hcc
    rw [Nat.mul_comm] at h2
    have h3 := Nat.le_of_mul_le_mul_right h2 hZ0
    omega
  refine holds_norm (es := toN (cut14 p q zs x y w m)) (us := cutN p q us x y w m) (b := (c : Int)) (k := 0) m1 hlv hv hp (by rw [toN_len]; exact hlv) (by rw [hE]; exact hZ0) cutN_len hs (by omega) (by omega) (near_self _ _) (by rw [Int.toNat_natCast]; exact hnear) hbig (.inr ?_)
  congr 1
  omega
end Go.Proofs.Yteancdipmpmjpaa
namespace Go.Proofs.Yteancdipmpmjpaa
set_option linter.unusedVariables false
structure Play18 (k p q n : Nat) (X Y S : Int) (zs : List Int) (us : List Nat) (B T : Int) : Prop where
  both : ∃ ys, Both k p q n us ys
  hX : -1125899906842624 + (9 - k : Int) * 16777216 ≤ X ∧ X ≤ 1125899906842624 - (9 - k : Int) * 16777216
  hY : -1125899906842624 + (9 - k : Int) * 16777216 ≤ Y ∧ Y ≤ 1125899906842624 - (9 - k : Int) * 16777216
  hS : S = 16 ∨ S = 32 ∨ S = 64 ∨ S = 128 ∨ S = 256 ∨ S = 512 ∨ S = 1024 ∨ S = 2048 ∨ S = 4096
  hold : Holds n zs us B
  hT : 0 ≤ T ∧ T ≤ k
section
variable {k p q n : Nat} {X Y S : Int} {zs : List Int} {us : List Nat} {B T : Int}
theorem Play18.up (h : Play18 k p q n X Y S zs us B T) : Play18 (k + 1) p q n X Y S zs us B T := by
  obtain ⟨⟨ys, hb⟩, hX, hY, hS, hh, hT⟩ := h
  exact ⟨⟨ys, hb.up⟩, by omega, by omega, hS, hh, by omega⟩
theorem Play18.spread {qn s : Nat} (h : Play18 k p q n X Y S zs us B T) (hq : qn ≤ 85) (hd : ∀ x ∈ sprd17 p q qn us, 2 ^ s ∣ x) :
    0 < isum (sprd14 p q qn zs) ∧ Play18 (k + 1) p q n X Y S (norm14 (isum (sprd14 p q qn zs)) (sprd14 p q qn zs)) (leanN s (sprd17 p q qn us)) (plus18 B (3 * cost18 n)) (T + 1) := by
  obtain ⟨⟨ys, hb⟩, hX, hY, hS, hh, hT⟩ := h
  have hn := hb.hn
  have a := holds_spread hh hn hq (scl_lean hd)
  exact ⟨a.1, ⟨_, hb.spread hq hd⟩, by omega, by omega, hS, a.2, by omega⟩
theorem Play18.weigh {s : Nat} {ls : List Int} (h : Play18 k p q n X Y S zs us B T) (hl : ls.length = n) (hb : ∀ l ∈ ls, 0 ≤ l ∧ l ≤ 65536) (hp : 0 < isum (wgh zs ls)) (hd : ∀ x ∈ wghN us ls, 2 ^ s ∣ x) :
    Play18 (k + 1) p q n X Y S (norm14 (isum (wgh zs ls)) (wgh zs ls)) (leanN s (wghN us ls)) (plus18 (scal18 B (imax ls) (isum zs) (isum (wgh zs ls))) (cost18 n)) (T + 1) := by
  obtain ⟨⟨ys, hb1⟩, hX, hY, hS, hh, hT⟩ := h
  exact ⟨⟨_, hb1.weigh hb hd⟩, by omega, by omega, hS, holds_weigh hh hl hb hp (scl_lean hd), by omega⟩
theorem scl_zero (xs : List Nat) : scl 0 xs = xs := by simp [scl]
theorem Play18.cut {c1 d1 m : Nat} {x y : Int} (h : Play18 k p q n X Y S zs us B T) (hk : k ≤ 8) (hx : -128 ≤ x ∧ x ≤ 127) (hy : -128 ≤ y ∧ y ≤ 127) (hc : 1 ≤ c1 ∧ c1 ≤ 8) (hd : 1 ≤ d1 ∧ d1 ≤ 8) (hm : c1 * d1 = m) (hp : 0 < isum (cut14 p q zs x y c1 m)) :
    Play18 (k + 1) c1 d1 m (X + x * S) (Y + y * S) S (norm14 (isum (cut14 p q zs x y c1 m)) (cut14 p q zs x y c1 m)) (cutN p q us x y c1 m) (plus18 (scal18 B 1 (isum zs) (isum (cut14 p q zs x y c1 m))) (cost18 m)) (T + 1) := by
  obtain ⟨⟨ys, hb⟩, hX, hY, hS, hh, hT⟩ := h
  have hn : (p : Int) * (q : Int) = n := by rw [← Int.natCast_mul, Nat.mul_comm, hb.hn]
  have hb2 := hb.cut (x := x) (y := y) hc hd hm
  have m1 := hb2.n64
  have hxs : ∀ z : Int, -128 ≤ z ∧ z ≤ 127 → -16777216 ≤ z * S ∧ z * S ≤ 16777216 := by
    intro z hz
    rcases hS with rfl | rfl | rfl | rfl | rfl | rfl | rfl | rfl | rfl <;> omega
  have e1 := hxs x hx
  have e2 := hxs y hy
  exact ⟨⟨_, hb2⟩, by omega, by omega, hS, holds_cut hh hn (by omega) m1 hp (scl_zero _), by omega⟩
theorem Play18.split {P2 Q2 m : Nat} (h : Play18 k p q n X Y S zs us B T) (hP : 2 * p = P2) (hQ : 2 * q = Q2) (hm : 4 * n = m) (h4 : p ≤ 4 ∧ q ≤ 4) (hS2 : 32 ≤ S) :
    0 < isum (split14 p zs m) ∧ Play18 (k + 1) P2 Q2 m (X - S / 4) (Y - S / 4) (S / 2) (norm14 (isum (split14 p zs m)) (split14 p zs m)) (splitN p P2 us m) (plus18 B (2 * cost18 m)) (T + 1) := by
  obtain ⟨⟨ys, hb⟩, hX, hY, hS, hh, hT⟩ := h
  subst hP
  have hn : p * q = n := by rw [Nat.mul_comm, hb.hn]
  have hb2 := hb.split rfl hQ hm h4.1 h4.2
  have m1 := hb2.n64
  have hp := hb.hp
  have a := holds_split hh (by omega) hn hm m1.2 (scl_zero _)
  exact ⟨a.1, ⟨_, hb2⟩, by omega, by omega, by omega, a.2, by omega⟩
theorem Play18.join {m1 q1 n4 : Nat} (h : Play18 k p q n X Y S zs us B T) (hp : p = 2 * m1) (hq : q = 2 * q1) (hm : m1 * q1 = n4) (hS2 : S ≤ 2048) :
    0 < isum (join14 p m1 zs n4) ∧ Play18 (k + 1) m1 q1 n4 (X + S / 2) (Y + S / 2) (2 * S) (norm14 (isum (join14 p m1 zs n4)) (join14 p m1 zs n4)) (joinN p m1 us n4) (plus18 B (cost18 n4)) (T + 1) := by
  obtain ⟨⟨ys, hb⟩, hX, hY, hS, hh, hT⟩ := h
  have hb2 := hb.join hp hq hm
  have hn : 4 * n4 = n := by rw [← hb.hn, hp, hq, ← hm, Nat.mul_comm (2 * q1), Nat.mul_mul_mul_comm]
  have hp0 := hb2.hp
  subst hp
  have a := holds_join hh (by omega) hm hn (scl_zero _)
  exact ⟨a.1, ⟨_, hb2⟩, by omega, by omega, by omega, a.2, by omega⟩
end
end Go.Proofs.Yteancdipmpmjpaa
namespace Go.Proofs.Yteancdipmpmjpaa
open Go.RowKit
attribute [local irreducible] wpHeld wpTree wpList
set_option linter.unusedVariables false
set_option maxRecDepth 100000 in
set_option maxHeartbeats 8000000 in
theorem doA18 (k p q n c c2 : Nat) (X Y S B T : Int) (A A2 : Option Addr) (zs : List Int) (us : List Nat) (r : OpRec) (w : World) (h : Rd w A n (ints .i64 zs)) (h2 : Fn w A2 n us) (hb : Play18 k p q n X Y S zs us B T) (hk : k ≤ 8) (hg : OpGood w r) (hkd : r.kd.tmod 5 = 0) :
    Calls Try.prog 30 #[.agg #[.int .i64 p, .int .i64 q, .int .i64 X, .int .i64 Y, .int .i64 S, .slice A n c, .int .i64 p, .int .i64 q, .slice A2 n c2, .int .i64 B, .int .i64 T], .agg (opCells r)] w fun e w' => ∃ (ok : Bool) (p' q' n' : Nat) (X' Y' S' B' T' : Int) (A' : Option Addr) (c' : Nat) (A2' : Option Addr) (c2' : Nat) (zs' : List Int) (us' : List Nat), e = .returned (.tuple #[.agg #[.int .i64 (p'), .int .i64 (q'), .int .i64 (X'), .int .i64 (Y'), .int .i64 (S'), .slice A' n' c', .int .i64 p', .int .i64 q', .slice A2' n' c2', .int .i64 (B'), .int .i64 (T')], .bool ok]) ∧ Play18 (k + 1) p' q' n' X' Y' S' zs' us' B' T' ∧ ((Rd w' A' n' (ints .i64 zs') ∧ Nw w.heap.size A') ∧ (Fn w' A2' n' us' ∧ Nw w.heap.size A2') ∨ (A' = A ∧ A2' = A2 ∧ n' = n ∧ zs' = zs ∧ us' = us)) ∧ Below w.heap.size w w' := by
  obtain ⟨kd, q0, la, ln, lc, ls, x, y, cw, ch⟩ := r
  dsimp only [opCells]
  have K := St.start w
  have HR := Lib.hid h
  have HR2 := Lib.hid h2
  have HB := Lib.hid hb
  have HG := Lib.hid hg
  have c14h : Hid (kd.tmod 5 = 0) := Lib.hid hkd
  have c15h : Hid (kd % 5 = 0) := Lib.hid (by rw [← Int.tmod_eq_emod_of_nonneg hg.kd.1]; exact hkd)
  have hlim := M17_lim (k := k) (by omega)
  obtain ⟨ys, hbo⟩ := hb.both
  have hnm := hb.hold.nums
  have hn64 := hb.hold.n1
  have hT := hb.hT
  have hB0 := hb.hold.b0
  have hB1 := hb.hold.b1
  obtain ⟨qq, hqq⟩ : ∃ qq : Nat, q0.tmod 86 = (qq : Int) := ⟨(q0.tmod 86).toNat, by have := hg.q; dsimp only at this; rw [Int.tmod_eq_emod_of_nonneg (by omega)]; omega⟩
  have hq85 : qq ≤ 85 := by have := hg.q; dsimp only at this; rw [Int.tmod_eq_emod_of_nonneg (by omega)] at hqq; omega
  have q1h := Lib.hid hqq
  have q2h : Hid (IntKind.u64.wrap (qq : Int) = qq) := Lib.hid (IntWalk.u64_in _ (by omega))
  have q3h : Hid (IntKind.i64.wrap (qq : Int) = qq) := Lib.hid (IntWalk.i64_in _ (by omega))
  have PS := Lib.hid (fun (w : World) (h : Fn w A2 n us) => Spread17 p q qq n c2 (M17 k) A2 us w h hbo.xb (M17_pos k) (lim_pieces hlim).1 hbo.hn ⟨hbo.hp.1, by have := hbo.hp.2; omega⟩ ⟨hbo.hq.1, by have := hbo.hq.2; omega⟩ hq85)
  have SM := Lib.hid (fun (w : World) (h : Rd w A n (ints .i64 zs)) => RSum14 A n c zs w h (small_bd hnm) (by omega))
  have GS := Lib.hid (fun (w : World) (h : Rd w A n (ints .i64 zs)) => GSpread14 X Y S qq p q A n c zs w h hnm hbo.hn ⟨hbo.hp.1, by have := hbo.hp.2; omega⟩ ⟨hbo.hq.1, by have := hbo.hq.2; omega⟩ (by omega))
  have hgo := hb.spread (qn := qq) (s := 0) hq85 (fun x _ => ⟨x, by simp⟩)
  have GN := Lib.hid (fun (A3 : Option Addr) (c3 : Nat) (w : World) (h : Rd w A3 n (ints .i64 (sprd14 p q qq zs))) => GNorm14 p q X Y S A3 n c3 _ w h (sprd_bd (by omega) hnm) (by omega) hgo.1)
  have LS := Lib.hid (fun (w : World) => Spread18_any B T n w hB0 hB1 hT.1 (by omega) (by omega) (by omega))
  have FIN := Lib.hid (fun (s : Nat) (hd : ∀ x ∈ sprd17 p q qq us, 2 ^ s ∣ x) => (hb.spread (s := s) hq85 hd).2)
  clear hgo
  generalize isum zs = s0 at *
  generalize norm14 (isum (sprd14 p q qq zs)) (sprd14 p q qq zs) = nz at *
  generalize sprd14 p q qq zs = tz at *
  generalize plus18 B (3 * cost18 n) = B2 at *
  obtain ⟨T2, hT2⟩ : ∃ T2, T + 1 = T2 := ⟨_, rfl⟩
  rw [hT2] at FIN LS
  clear h h2 hb hg hkd hlim hqq hT2 hT hB0 hB1 hn64 hnm hbo ys
  have c14 := c14h.out
  have c15 := c15h.out
  have q1 := q1h.out
  have q2 := q2h.out
  have q3 := q3h.out
  go_enter Try.func30, Try.ntmps30
  go_wp2_with (first|((with_reducible refine at_load ?_);first|(refine wm_load (cs := ?_) (t := ?_) (n := ?_) K rfl _ _ rfl rfl ?_ ?_ ?_ ?_;rotate_left 2;(repeat (first|exact At.hd|refine At.tl ?_));rotate_left;(with_reducible first|exact row47|exact row54);(solve|exact rfl|simp))|(refine wm_own (cs := ?_) (t := ?_) (v := ?_) K rfl _ _ rfl rfl ?_ ?_ ?_ ?_;rotate_left 2;(repeat (first|exact At.hd|refine At.tl ?_));rotate_left;(exact rfl);(with_reducible first|exact one5|exact one45)))|((with_reducible refine at_store ?_);(first|(refine wm_store (L' := ?_) (cs := ?_) (t := ?_) (n := ?_) K rfl _ _ _ rfl rfl rfl rfl ?_ ?_ ?_ ?_ ?_ ?_;rotate_left 3;(repeat (first|exact Put.hd|(refine Put.tl (L' := ?_) ?_;rotate_left)));rotate_left;(with_reducible first|exact row47|exact row54);(exact rfl);(solve|exact rfl|simp);(simp [Ones, Value.oneCell'])));(try clear K);(try clear ww);intro ww K;(try simp [go_sem] at K))|((first|((with_reducible refine at_box ?_);refine wm_box K rfl _ _ rfl rfl rfl ?_)|((with_reducible refine at_alloc ?_);refine wm_alloc (v := ?_) (cs := ?_) K rfl _ rfl ?_ ?_ ?_;rotate_left;(with_reducible first|exact zero47|exact zero54);rotate_left;exact rfl));(try clear K);(try clear ww);(first|((fail_if_success (have _h := b2));intro b2 ww K)|((fail_if_success (have _h := b3));intro b3 ww K)|((fail_if_success (have _h := b4));intro b4 ww K)|((fail_if_success (have _h := b6));intro b6 ww K)|((fail_if_success (have _h := b7));intro b7 ww K));(try simp [go_sem, Value.cells] at K))|((with_reducible refine at_load ?_);refine wm_partE (cs := ?_) (t := ?_) (n := ?_) (l := ?_) K rfl _ _ rfl rfl ?_ ?_ ?_ ?_ ?_;rotate_left 2;(repeat (first|exact At.hd|refine At.tl ?_));rotate_left;(with_reducible first|exact row47);rotate_left;(simp only [List.drop_succ_cons, List.drop_zero, List.take_succ_cons, List.take_zero];exact rfl);exact rfl)|((with_reducible refine at_store ?_);refine wm_storePartE (L' := ?_) (cs := ?_) (new := ?_) (t := ?_) (n := ?_) K rfl _ _ _ rfl rfl rfl rfl ?_ ?_ ?_ ?_ ?_ ?_ ?_;rotate_left 4;(repeat (first|exact Put.hd|(refine Put.tl (L' := ?_) ?_;rotate_left)));(simp only [over, List.setIfInBounds_toArray, List.set_cons_succ, List.set_cons_zero, Nat.reduceAdd];exact rfl);rotate_left;(with_reducible first|exact row47);exact rfl;exact Nat.le_of_ble_eq_true rfl;(simp [Ones, Value.oneCell']);(try clear K);(try clear ww);intro ww K;(try simp [go_sem] at K))|(go_at_call 42;(with_reducible refine (SM.out _ (HR.out.below K.below)).mono ?_);rintro e w2 ⟨rfl, k1⟩;replace K := K.step k1;clear k1;(try clear ww);revert w2;intro ww K)|(go_at_call 40;(with_reducible refine (GS.out _ (HR.out.below K.below)).mono ?_);rintro e w2 ⟨A3, c3, rfl, ⟨hx, hA⟩, hbel⟩;(try dsimp only);replace K := K.madeRd hbel hx hA;clear hbel hx hA;(try clear ww);revert w2;intro ww K)|(go_at_call 38;(with_reducible refine (GN.out _ c3 _ K.fact.1).mono ?_);rintro e w2 ⟨A4, c4, rfl, ⟨hx, hA⟩, hbel⟩;(try dsimp only);have hN4 := hA.mono K.size;replace K := K.madeRd hbel hx hA;clear hbel hx hA;(try clear ww);revert w2;intro ww K))
  clear c14 c15 q1 q3
  refine wm_held _ [(true, 0), (true, 1), (true, 2), (true, 3), (true, 5), (true, 6), (true, 7), (true, 8), (true, 9), (true, 10), (false, 4), (true, 12), (false, 11), (false, 13), (true, 14), (false, 15)] K sbd2k3 (by kernel_rfl) (by kernel_rfl) ?_; (try clear K); (try clear ww); intro ww K; (try simp [go_sem] at K); simp only [pick, List.getElem?_toArray, List.getElem?_cons_succ, List.getElem?_cons_zero]
  repeat (first|((with_reducible refine ht_load ?_);first|(refine hm_own (cs := ?_) (t := ?_) (v := ?_) rfl _ _ rfl rfl ?_ ?_ ?_ ?_;rotate_left 2;(repeat (first|exact At.hd|refine At.tl ?_));rotate_left;(exact rfl);(with_reducible first|exact one45)))|(refine held_take (fun K' hK' => ?_);go_simp;first|(apply Exists.intro;refine ⟨?_, hK' _ ?_⟩;(intro _ _;rfl);clear hK' K'))|((with_reducible refine ht_load ?_);refine hm_partE (cs := ?_) (t := ?_) (n := ?_) (l := ?_) rfl _ _ rfl rfl ?_ ?_ ?_ ?_ ?_;rotate_left 2;(repeat (first|exact At.hd|refine At.tl ?_));rotate_left;(with_reducible first|exact row35|exact row51);rotate_left;(simp only [List.drop_succ_cons, List.drop_zero, List.take_succ_cons, List.take_zero];exact rfl);exact rfl)|((with_reducible refine ht_store ?_);refine hm_storePartE (L' := ?_) (cs := ?_) (new := ?_) (t := ?_) (n := ?_) K rfl _ _ _ rfl rfl rfl rfl ?_ ?_ ?_ ?_ ?_ ?_ ?_;rotate_left 4;(repeat (first|exact Put.hd|(refine Put.tl (L' := ?_) ?_;rotate_left)));(simp only [over, List.setIfInBounds_toArray, List.set_cons_succ, List.set_cons_zero, Nat.reduceAdd];exact rfl);rotate_left;(with_reducible first|exact row35|exact row51);exact rfl;exact Nat.le_of_ble_eq_true rfl;(simp [Ones, Value.oneCell']);(try clear K);(try clear ww);intro ww K;(try simp [go_sem] at K);refine ⟨(by apply via sbd2k3;first|exact K.weak wk1), ?_⟩)|(refine held_do (fun K' hK' => ?_);go_simp;go_at_call 66;have zz := PS.out _ (HR2.out.below K.below);(with_reducible refine zz.mono ?_);clear zz;rintro e w2 ⟨s1, Af, cf, rfl, ⟨hx, hdv, hA⟩, hbel⟩;(try dsimp only);have hN1 := hA.mono K.size;have K2 := K.madeFn (noT_of rfl) hbel hx hA;refine hK' _ _ (by apply via sbd2k3;first|exact K2.weak wk1) ?_;replace K := K2;clear hK' K' K2 hbel hx hA;(try clear ww);revert w2;intro ww K)|(refine held_do (fun K' hK' => ?_);go_simp;go_at_call 20;(with_reducible refine (LS.out _).mono ?_);rintro e w2 ⟨rfl, k1⟩;replace K := K.step k1;clear k1;(try clear ww);revert w2;intro ww K;(try dsimp only);refine hK' _ _ (by apply via sbd2k3;first|exact K.weak wk1) ?_;clear hK' K'))
  refine held_nil ?_
  clear q2
  (try go_wp2_with (first|((with_reducible refine at_load ?_);first|(refine wm_load (cs := ?_) (t := ?_) (n := ?_) K rfl _ _ rfl rfl ?_ ?_ ?_ ?_;rotate_left 2;(repeat (first|exact At.hd|refine At.tl ?_));rotate_left;(with_reducible first|exact row54);(exact rfl)))|((with_reducible refine at_store ?_);(first|(refine wm_store (L' := ?_) (cs := ?_) (t := ?_) (n := ?_) K rfl _ _ _ rfl rfl rfl rfl ?_ ?_ ?_ ?_ ?_ ?_;rotate_left 3;(repeat (first|exact Put.hd|(refine Put.tl (L' := ?_) ?_;rotate_left)));rotate_left;(with_reducible first|exact row54);(exact rfl);(exact rfl);(simp [Ones, Value.oneCell'])));(try clear K);(try clear ww);intro ww K;(try simp [go_sem] at K))))
  refine bodyPost_ret (K.res2 rfl _ rfl (At.tl (At.tl At.hd)) (by (with_reducible first|exact row54)) (by (exact rfl)) rfl) rfl ?_
  exact ⟨true, p, q, n, X, Y, S, B2, T2, A4, c4, Af, cf, nz, _, rfl, FIN.out s1 hdv, .inl ⟨⟨K.fact.2.1, hN4⟩, ⟨K.fact.1, hN1⟩⟩, K.below⟩
end Go.Proofs.Yteancdipmpmjpaa
namespace Go.Proofs.Yteancdipmpmjpaa
open Go.RowKit
attribute [local irreducible] wpHeld wpTree wpList
set_option linter.unusedVariables false
set_option maxRecDepth 100000 in
set_option maxHeartbeats 8000000 in
theorem doB18 (k p q n c c2 : Nat) (X Y S B T : Int) (A A2 : Option Addr) (zs : List Int) (us : List Nat) (r : OpRec) (w : World) (h : Rd w A n (ints .i64 zs)) (h2 : Fn w A2 n us) (hb : Play18 k p q n X Y S zs us B T) (hk : k ≤ 8) (hg : OpGood w r) (hkd : r.kd.tmod 5 = 1) :
    Calls Try.prog 30 #[.agg #[.int .i64 p, .int .i64 q, .int .i64 X, .int .i64 Y, .int .i64 S, .slice A n c, .int .i64 p, .int .i64 q, .slice A2 n c2, .int .i64 B, .int .i64 T], .agg (opCells r)] w fun e w' => ∃ (ok : Bool) (p' q' n' : Nat) (X' Y' S' B' T' : Int) (A' : Option Addr) (c' : Nat) (A2' : Option Addr) (c2' : Nat) (zs' : List Int) (us' : List Nat), e = .returned (.tuple #[.agg #[.int .i64 (p'), .int .i64 (q'), .int .i64 (X'), .int .i64 (Y'), .int .i64 (S'), .slice A' n' c', .int .i64 p', .int .i64 q', .slice A2' n' c2', .int .i64 (B'), .int .i64 (T')], .bool ok]) ∧ Play18 (k + 1) p' q' n' X' Y' S' zs' us' B' T' ∧ ((Rd w' A' n' (ints .i64 zs') ∧ Nw w.heap.size A') ∧ (Fn w' A2' n' us' ∧ Nw w.heap.size A2') ∨ (A' = A ∧ A2' = A2 ∧ n' = n ∧ zs' = zs ∧ us' = us)) ∧ Below w.heap.size w w' := by
  obtain ⟨kd, q0, la, ln, lc, ls, x, y, cw, ch⟩ := r
  dsimp only [opCells]
  have K := St.start w
  have HR := Lib.hid h
  have HR2 := Lib.hid h2
  have HB := Lib.hid hb
  have HG := Lib.hid hg
  have c14h : Hid (kd.tmod 5 = 1) := Lib.hid hkd
  have c15h : Hid (kd % 5 = 1) := Lib.hid (by rw [← Int.tmod_eq_emod_of_nonneg hg.kd.1]; exact hkd)
  have hlim := M17_lim (k := k) (by omega)
  obtain ⟨ys, hbo⟩ := hb.both
  have hnm := hb.hold.nums
  have hn64 := hb.hold.n1
  have hT := hb.hT
  have hB0 := hb.hold.b0
  have hB1 := hb.hold.b1
  have hw := wts_bd (n := n) hg.lb
  dsimp only at hw
  have hwl := wts_len n ls
  have hws := wgh_sum (fun z hz => (hnm z hz).1) hw
  have him := imax_bd (M := 65536) (l := wts14 n ls) (by decide) (fun z hz => (hw z hz).2)
  have his : 0 ≤ isum zs ∧ isum zs ≤ 1073741824 := ⟨Int.le_of_lt hb.hold.pos, hb.hold.top⟩
  have WT := Lib.hid (fun (w : World) (h : OpGood w ⟨kd, q0, la, ln, lc, ls, x, y, cw, ch⟩) => Weights14 p q X Y S A la n c ln lc ls w h.row h.lb (by omega))
  have SM := Lib.hid (fun (w : World) (h : Rd w A n (ints .i64 zs)) => RSum14 A n c zs w h (small_bd hnm) (by omega))
  have PS := Lib.hid (fun (A3 : Option Addr) (c3 : Nat) (w : World) (h : Fn w A2 n us) (h2 : Rd w A3 n (ints .i64 (wts14 n ls))) => Weigh17 p q A2 A3 n c2 c3 (M17 k) us (wts14 n ls) w h h2 hw hbo.xb (M17_pos k) (lim_pieces hlim).2.1 (by omega))
  by_cases hp : 0 < isum (wgh zs (wts14 n ls))
  · have GW := Lib.hid (fun (A3 : Option Addr) (c3 : Nat) (w : World) (h : Rd w A n (ints .i64 zs)) (h2 : Rd w A3 n (ints .i64 (wts14 n ls))) => GWeigh14 p q X Y S A A3 n c c3 zs (wts14 n ls) w h h2 hnm hw (by omega) hp)
    have LS := Lib.hid (fun (w : World) => Weigh18_any B T n (imax (wts14 n ls)) (isum zs) (isum (wgh zs (wts14 n ls))) w hB0 hB1 hT.1 (by omega) (by omega) (by omega) him.1 him.2 his.1 his.2 hws.1 (by omega))
    have FIN := Lib.hid (fun (s : Nat) (hd : ∀ x ∈ wghN us (wts14 n ls), 2 ^ s ∣ x) => hb.weigh (s := s) hwl hw hp hd)
    clear hws him his hp hw hwl
    generalize isum zs = s0 at *
    generalize norm14 (isum (wgh zs (wts14 n ls))) (wgh zs (wts14 n ls)) = nz at *
    generalize isum (wgh zs (wts14 n ls)) = z0 at *
    generalize imax (wts14 n ls) = most at *
    generalize wts14 n ls = wt at *
    generalize plus18 (scal18 B most s0 z0) (cost18 n) = B2 at *
    obtain ⟨T2, hT2⟩ : ∃ T2, T + 1 = T2 := ⟨_, rfl⟩
    rw [hT2] at FIN LS
    clear h h2 hb hg hkd hlim hT2 hT hB0 hB1 hn64 hnm hbo ys
    have c14 := c14h.out
    have c15 := c15h.out
    go_enter Try.func30, Try.ntmps30
    go_wp2_with (first|((with_reducible refine at_load ?_);first|(refine wm_load (cs := ?_) (t := ?_) (n := ?_) K rfl _ _ rfl rfl ?_ ?_ ?_ ?_;rotate_left 2;(repeat (first|exact At.hd|refine At.tl ?_));rotate_left;(with_reducible first|exact row47|exact row54);(solve|exact rfl|simp))|(refine wm_own (cs := ?_) (t := ?_) (v := ?_) K rfl _ _ rfl rfl ?_ ?_ ?_ ?_;rotate_left 2;(repeat (first|exact At.hd|refine At.tl ?_));rotate_left;(exact rfl);(with_reducible first|exact one5|exact one42|exact one45)))|((with_reducible refine at_store ?_);(first|(refine wm_store (L' := ?_) (cs := ?_) (t := ?_) (n := ?_) K rfl _ _ _ rfl rfl rfl rfl ?_ ?_ ?_ ?_ ?_ ?_;rotate_left 3;(repeat (first|exact Put.hd|(refine Put.tl (L' := ?_) ?_;rotate_left)));rotate_left;(with_reducible first|exact row27|exact row47|exact row54);(exact rfl);(solve|exact rfl|simp);(simp [Ones, Value.oneCell'])));(try clear K);(try clear ww);intro ww K;(try simp [go_sem] at K))|((first|((with_reducible refine at_box ?_);refine wm_box K rfl _ _ rfl rfl rfl ?_)|((with_reducible refine at_alloc ?_);refine wm_alloc (v := ?_) (cs := ?_) K rfl _ rfl ?_ ?_ ?_;rotate_left;(with_reducible first|exact zero27|exact zero54);rotate_left;exact rfl));(try clear K);(try clear ww);(first|((fail_if_success (have _h := b2));intro b2 ww K)|((fail_if_success (have _h := b3));intro b3 ww K)|((fail_if_success (have _h := b4));intro b4 ww K)|((fail_if_success (have _h := b6));intro b6 ww K)|((fail_if_success (have _h := b7));intro b7 ww K));(try simp [go_sem, Value.cells] at K))|((with_reducible refine at_load ?_);refine wm_partE (cs := ?_) (t := ?_) (n := ?_) (l := ?_) K rfl _ _ rfl rfl ?_ ?_ ?_ ?_ ?_;rotate_left 2;(repeat (first|exact At.hd|refine At.tl ?_));rotate_left;(with_reducible first|exact row47);rotate_left;(simp only [List.drop_succ_cons, List.drop_zero, List.take_succ_cons, List.take_zero];exact rfl);exact rfl)|((with_reducible refine at_store ?_);refine wm_storePartE (L' := ?_) (cs := ?_) (new := ?_) (t := ?_) (n := ?_) K rfl _ _ _ rfl rfl rfl rfl ?_ ?_ ?_ ?_ ?_ ?_ ?_;rotate_left 4;(repeat (first|exact Put.hd|(refine Put.tl (L' := ?_) ?_;rotate_left)));(simp only [over, List.setIfInBounds_toArray, List.set_cons_succ, List.set_cons_zero, Nat.reduceAdd];exact rfl);rotate_left;(with_reducible first|exact row47);exact rfl;exact Nat.le_of_ble_eq_true rfl;(simp [Ones, Value.oneCell']);(try clear K);(try clear ww);intro ww K;(try simp [go_sem] at K))|(go_at_call 42;(with_reducible refine (SM.out _ (HR.out.below K.below)).mono ?_);rintro e w2 ⟨rfl, k1⟩;replace K := K.step k1;clear k1;(try clear ww);revert w2;intro ww K)|(go_at_call 43;(with_reducible refine (WT.out _ (HG.out.below K.below)).mono ?_);rintro e w2 ⟨A3, c3, rfl, ⟨hx, hA⟩, -, hbel⟩;(try dsimp only);replace K := K.madeRd hbel hx hA;clear hbel hx hA;(try clear ww);revert w2;intro ww K)|(go_at_call 44;(with_reducible refine (GW.out _ c3 _ (HR.out.below K.below) K.fact.1).mono ?_);rintro e w2 ⟨A4, c4, rfl, ⟨hx, hA⟩, hbel⟩;(try dsimp only);have hN4 := hA.mono K.size;replace K := K.madeRd hbel hx hA;clear hbel hx hA;(try clear ww);revert w2;intro ww K))
    clear c14 c15
    refine wm_held _ [(true, 0), (true, 1), (true, 2), (true, 4), (true, 5), (true, 6), (true, 7), (true, 8), (true, 9), (true, 10), (true, 11), (true, 12), (false, 3), (true, 14), (false, 13), (false, 15), (true, 16), (false, 17)] K sbk1 (by kernel_rfl) (by kernel_rfl) ?_; (try clear K); (try clear ww); intro ww K; (try simp [go_sem] at K); simp only [pick, List.getElem?_toArray, List.getElem?_cons_succ, List.getElem?_cons_zero]
    repeat (first|((with_reducible refine ht_load ?_);first|(refine hm_load (cs := ?_) (t := ?_) (n := ?_) rfl _ _ rfl rfl ?_ ?_ ?_ ?_;rotate_left 2;(repeat (exact At.hd));rotate_left;(with_reducible first|exact row27);(exact rfl))|(refine hm_own (cs := ?_) (t := ?_) (v := ?_) rfl _ _ rfl rfl ?_ ?_ ?_ ?_;rotate_left 2;(repeat (first|exact At.hd|refine At.tl ?_));rotate_left;(exact rfl);(with_reducible first|exact one45)))|(refine held_take (fun K' hK' => ?_);go_simp;first|(apply Exists.intro;refine ⟨?_, hK' _ ?_⟩;(intro _ _;rfl);clear hK' K'))|((with_reducible refine ht_load ?_);refine hm_partE (cs := ?_) (t := ?_) (n := ?_) (l := ?_) rfl _ _ rfl rfl ?_ ?_ ?_ ?_ ?_;rotate_left 2;(repeat (first|exact At.hd|refine At.tl ?_));rotate_left;(with_reducible first|exact row35|exact row51);rotate_left;(simp only [List.drop_succ_cons, List.drop_zero, List.take_succ_cons, List.take_zero];exact rfl);exact rfl)|((with_reducible refine ht_store ?_);refine hm_storePartE (L' := ?_) (cs := ?_) (new := ?_) (t := ?_) (n := ?_) K rfl _ _ _ rfl rfl rfl rfl ?_ ?_ ?_ ?_ ?_ ?_ ?_;rotate_left 4;(repeat (first|exact Put.hd|(refine Put.tl (L' := ?_) ?_;rotate_left)));(simp only [over, List.setIfInBounds_toArray, List.set_cons_succ, List.set_cons_zero, Nat.reduceAdd];exact rfl);rotate_left;(with_reducible first|exact row35|exact row51);exact rfl;exact Nat.le_of_ble_eq_true rfl;(simp [Ones, Value.oneCell']);(try clear K);(try clear ww);intro ww K;(try simp [go_sem] at K);refine ⟨(by apply via sbk1;first|exact K.weak wk1), ?_⟩)|(refine held_do (fun K' hK' => ?_);go_simp;go_at_call 67;have zz := PS.out _ c3 _ (HR2.out.below K.below) K.fact.2.1;(with_reducible refine zz.mono ?_);clear zz;rintro e w2 ⟨s1, Af, cf, rfl, ⟨hx, hdv, hA⟩, hbel⟩;(try dsimp only);have hN1 := hA.mono K.size;have K2 := K.madeFn (noT_of rfl) hbel hx hA;refine hK' _ _ (by apply via sbk1;first|exact K2.weak wk1) ?_;replace K := K2;clear hK' K' K2 hbel hx hA;(try clear ww);revert w2;intro ww K)|(refine held_do (fun K' hK' => ?_);go_simp;go_at_call 21;(with_reducible refine (LS.out _).mono ?_);rintro e w2 ⟨rfl, k1⟩;replace K := K.step k1;clear k1;(try clear ww);revert w2;intro ww K;(try dsimp only);refine hK' _ _ (by apply via sbk1;first|exact K.weak wk1) ?_;clear hK' K'))
    refine held_nil ?_
    (try go_wp2_with (first|((with_reducible refine at_load ?_);first|(refine wm_load (cs := ?_) (t := ?_) (n := ?_) K rfl _ _ rfl rfl ?_ ?_ ?_ ?_;rotate_left 2;(repeat (first|exact At.hd|refine At.tl ?_));rotate_left;(with_reducible first|exact row54);(exact rfl)))|((with_reducible refine at_store ?_);(first|(refine wm_store (L' := ?_) (cs := ?_) (t := ?_) (n := ?_) K rfl _ _ _ rfl rfl rfl rfl ?_ ?_ ?_ ?_ ?_ ?_;rotate_left 3;(repeat (first|exact Put.hd|(refine Put.tl (L' := ?_) ?_;rotate_left)));rotate_left;(with_reducible first|exact row54);(exact rfl);(exact rfl);(simp [Ones, Value.oneCell'])));(try clear K);(try clear ww);intro ww K;(try simp [go_sem] at K))))
    refine bodyPost_ret (K.res2 rfl _ rfl (At.tl (At.tl At.hd)) (by (with_reducible first|exact row54)) (by (exact rfl)) rfl) rfl ?_
    exact ⟨true, p, q, n, X, Y, S, B2, T2, A4, c4, Af, cf, nz, _, rfl, FIN.out s1 hdv, .inl ⟨⟨K.fact.2.1, hN4⟩, ⟨K.fact.1, hN1⟩⟩, K.below⟩
  · have hp0 : isum (wgh zs (wts14 n ls)) = 0 := by omega
    have GW := Lib.hid (fun (A3 : Option Addr) (c3 : Nat) (w : World) (h : Rd w A n (ints .i64 zs)) (h2 : Rd w A3 n (ints .i64 (wts14 n ls))) => GWeigh14_none p q X Y S A A3 n c c3 zs (wts14 n ls) w h h2 hnm hw (by omega) hp0)
    have LS := Lib.hid (fun (w : World) => Weigh18_any B T n (imax (wts14 n ls)) (isum zs) (isum (wgh zs (wts14 n ls))) w hB0 hB1 hT.1 (by omega) (by omega) (by omega) him.1 him.2 his.1 his.2 hws.1 (by omega))
    clear hws him his hp hp0 hw hwl
    generalize isum zs = s0 at *
    generalize isum (wgh zs (wts14 n ls)) = z0 at *
    generalize imax (wts14 n ls) = most at *
    generalize wts14 n ls = wt at *
    generalize plus18 (scal18 B most s0 z0) (cost18 n) = B2 at *
    obtain ⟨T2, hT2⟩ : ∃ T2, T + 1 = T2 := ⟨_, rfl⟩
    rw [hT2] at LS
    clear h h2 hb hg hkd hlim hT2 hT hB0 hB1 hn64 hnm hbo ys
    have c14 := c14h.out
    have c15 := c15h.out
    go_enter Try.func30, Try.ntmps30
    go_wp2_with (first|((with_reducible refine at_load ?_);first|(refine wm_load (cs := ?_) (t := ?_) (n := ?_) K rfl _ _ rfl rfl ?_ ?_ ?_ ?_;rotate_left 2;(repeat (first|exact At.hd|refine At.tl ?_));rotate_left;(with_reducible first|exact row47|exact row54);(solve|exact rfl|simp))|(refine wm_own (cs := ?_) (t := ?_) (v := ?_) K rfl _ _ rfl rfl ?_ ?_ ?_ ?_;rotate_left 2;(repeat (first|exact At.hd|refine At.tl ?_));rotate_left;(exact rfl);(with_reducible first|exact one5|exact one42|exact one45)))|((with_reducible refine at_store ?_);(first|(refine wm_store (L' := ?_) (cs := ?_) (t := ?_) (n := ?_) K rfl _ _ _ rfl rfl rfl rfl ?_ ?_ ?_ ?_ ?_ ?_;rotate_left 3;(repeat (first|exact Put.hd|(refine Put.tl (L' := ?_) ?_;rotate_left)));rotate_left;(with_reducible first|exact row27|exact row47|exact row54);(exact rfl);(solve|exact rfl|simp);(simp [Ones, Value.oneCell'])));(try clear K);(try clear ww);intro ww K;(try simp [go_sem] at K))|((first|((with_reducible refine at_box ?_);refine wm_box K rfl _ _ rfl rfl rfl ?_)|((with_reducible refine at_alloc ?_);refine wm_alloc (v := ?_) (cs := ?_) K rfl _ rfl ?_ ?_ ?_;rotate_left;(with_reducible first|exact zero27|exact zero54);rotate_left;exact rfl));(try clear K);(try clear ww);(first|((fail_if_success (have _h := b2));intro b2 ww K)|((fail_if_success (have _h := b3));intro b3 ww K)|((fail_if_success (have _h := b4));intro b4 ww K)|((fail_if_success (have _h := b6));intro b6 ww K)|((fail_if_success (have _h := b7));intro b7 ww K));(try simp [go_sem, Value.cells] at K))|((with_reducible refine at_load ?_);refine wm_partE (cs := ?_) (t := ?_) (n := ?_) (l := ?_) K rfl _ _ rfl rfl ?_ ?_ ?_ ?_ ?_;rotate_left 2;(repeat (first|exact At.hd|refine At.tl ?_));rotate_left;(with_reducible first|exact row47);rotate_left;(simp only [List.drop_succ_cons, List.drop_zero, List.take_succ_cons, List.take_zero];exact rfl);exact rfl)|((with_reducible refine at_store ?_);refine wm_storePartE (L' := ?_) (cs := ?_) (new := ?_) (t := ?_) (n := ?_) K rfl _ _ _ rfl rfl rfl rfl ?_ ?_ ?_ ?_ ?_ ?_ ?_;rotate_left 4;(repeat (first|exact Put.hd|(refine Put.tl (L' := ?_) ?_;rotate_left)));(simp only [over, List.setIfInBounds_toArray, List.set_cons_succ, List.set_cons_zero, Nat.reduceAdd];exact rfl);rotate_left;(with_reducible first|exact row47);exact rfl;exact Nat.le_of_ble_eq_true rfl;(simp [Ones, Value.oneCell']);(try clear K);(try clear ww);intro ww K;(try simp [go_sem] at K))|(go_at_call 42;(with_reducible refine (SM.out _ (HR.out.below K.below)).mono ?_);rintro e w2 ⟨rfl, k1⟩;replace K := K.step k1;clear k1;(try clear ww);revert w2;intro ww K)|(go_at_call 43;(with_reducible refine (WT.out _ (HG.out.below K.below)).mono ?_);rintro e w2 ⟨A3, c3, rfl, ⟨hx, hA⟩, -, hbel⟩;(try dsimp only);replace K := K.madeRd hbel hx hA;clear hbel hx hA;(try clear ww);revert w2;intro ww K)|(go_at_call 44;(with_reducible refine (GW.out _ c3 _ (HR.out.below K.below) K.fact.1).mono ?_);rintro e w2 ⟨rfl, hbel⟩;(try dsimp only);replace K := K.step hbel;clear hbel;(try clear ww);revert w2;intro ww K))
    clear c14 c15
    refine wm_held _ [(true, 0), (true, 1), (true, 2), (true, 4), (true, 5), (true, 6), (true, 7), (true, 8), (true, 9), (true, 10), (true, 11), (true, 12), (false, 3), (true, 14), (false, 13), (false, 15), (true, 16), (false, 17)] K sbk1 (by kernel_rfl) (by kernel_rfl) ?_; (try clear K); (try clear ww); intro ww K; (try simp [go_sem] at K); simp only [pick, List.getElem?_toArray, List.getElem?_cons_succ, List.getElem?_cons_zero]
    repeat (first|((with_reducible refine ht_load ?_);first|(refine hm_load (cs := ?_) (t := ?_) (n := ?_) rfl _ _ rfl rfl ?_ ?_ ?_ ?_;rotate_left 2;(repeat (exact At.hd));rotate_left;(with_reducible first|exact row27);(exact rfl))|(refine hm_own (cs := ?_) (t := ?_) (v := ?_) rfl _ _ rfl rfl ?_ ?_ ?_ ?_;rotate_left 2;(repeat (first|exact At.hd|refine At.tl ?_));rotate_left;(exact rfl);(with_reducible first|exact one45)))|(refine held_take (fun K' hK' => ?_);go_simp;first|(apply Exists.intro;refine ⟨?_, hK' _ ?_⟩;(intro _ _;rfl);clear hK' K'))|((with_reducible refine ht_load ?_);refine hm_partE (cs := ?_) (t := ?_) (n := ?_) (l := ?_) rfl _ _ rfl rfl ?_ ?_ ?_ ?_ ?_;rotate_left 2;(repeat (first|exact At.hd|refine At.tl ?_));rotate_left;(with_reducible first|exact row35|exact row51);rotate_left;(simp only [List.drop_succ_cons, List.drop_zero, List.take_succ_cons, List.take_zero];exact rfl);exact rfl)|((with_reducible refine ht_store ?_);refine hm_storePartE (L' := ?_) (cs := ?_) (new := ?_) (t := ?_) (n := ?_) K rfl _ _ _ rfl rfl rfl rfl ?_ ?_ ?_ ?_ ?_ ?_ ?_;rotate_left 4;(repeat (first|exact Put.hd|(refine Put.tl (L' := ?_) ?_;rotate_left)));(simp only [over, List.setIfInBounds_toArray, List.set_cons_succ, List.set_cons_zero, Nat.reduceAdd];exact rfl);rotate_left;(with_reducible first|exact row35|exact row51);exact rfl;exact Nat.le_of_ble_eq_true rfl;(simp [Ones, Value.oneCell']);(try clear K);(try clear ww);intro ww K;(try simp [go_sem] at K);refine ⟨(by apply via sbk1;first|exact K.weak wk1), ?_⟩)|(refine held_do (fun K' hK' => ?_);go_simp;go_at_call 67;have zz := PS.out _ c3 _ (HR2.out.below K.below) K.fact.1;(with_reducible refine zz.mono ?_);clear zz;rintro e w2 ⟨s1, Af, cf, rfl, ⟨hx, hdv, hA⟩, hbel⟩;(try dsimp only);have hN1 := hA.mono K.size;have K2 := K.madeFn (noT_of rfl) hbel hx hA;refine hK' _ _ (by apply via sbk1;first|exact K2.weak wk1) ?_;replace K := K2;clear hK' K' K2 hbel hx hA;(try clear ww);revert w2;intro ww K)|(refine held_do (fun K' hK' => ?_);go_simp;go_at_call 21;(with_reducible refine (LS.out _).mono ?_);rintro e w2 ⟨rfl, k1⟩;replace K := K.step k1;clear k1;(try clear ww);revert w2;intro ww K;(try dsimp only);refine hK' _ _ (by apply via sbk1;first|exact K.weak wk1) ?_;clear hK' K'))
    refine held_nil ?_
    (try go_wp2_with (first|((with_reducible refine at_load ?_);first|(refine wm_load (cs := ?_) (t := ?_) (n := ?_) K rfl _ _ rfl rfl ?_ ?_ ?_ ?_;rotate_left 2;(repeat (first|exact At.hd|refine At.tl ?_));rotate_left;(with_reducible first|exact row54);(exact rfl)))|((with_reducible refine at_store ?_);(first|(refine wm_store (L' := ?_) (cs := ?_) (t := ?_) (n := ?_) K rfl _ _ _ rfl rfl rfl rfl ?_ ?_ ?_ ?_ ?_ ?_;rotate_left 3;(repeat (first|exact Put.hd|(refine Put.tl (L' := ?_) ?_;rotate_left)));rotate_left;(with_reducible first|exact row54);(exact rfl);(exact rfl);(simp [Ones, Value.oneCell'])));(try clear K);(try clear ww);intro ww K;(try simp [go_sem] at K))))
    refine bodyPost_ret (K.res2 rfl _ rfl (At.tl (At.tl At.hd)) (by (with_reducible first|exact row54)) (by (exact rfl)) rfl) rfl ?_
    exact ⟨false, p, q, n, X, Y, S, B, T, A, c, A2, c2, zs, us, rfl, HB.out.up, .inr ⟨rfl, rfl, rfl, rfl, rfl⟩, K.below⟩
end Go.Proofs.Yteancdipmpmjpaa
