/-
  Lemmas and walks of this claim (the texts Mc15 Mh15 Su26 of the work; what no proof here uses is left out). No claim of their own.
-/
import Derived.Test.YtpejoaefnnbghaaPF26
import Derived.Test.YtpejoaefnnbghaaPF23
import Derived.Test.YtpejoaefnnbghaaPF22
set_option linter.all false
set_option linter.unusedSimpArgs false
set_option linter.unusedVariables false
namespace Go.Proofs.Ytpejoaefnnbghaa
open Go.RowKit
attribute [local irreducible] wpHeld wpTree wpList
set_option linter.unusedVariables false
theorem fitsB {z : Int} (h0 : -170141183460469231731687303715884105728 ≤ z) (h1 : z < 170141183460469231731687303715884105728) : fits128 z = true := by
  unfold fits128; rw [decide_eq_true h0, decide_eq_true h1]; rfl
theorem wrapB {z : Int} (h0 : -170141183460469231731687303715884105728 ≤ z) (h1 : z < 170141183460469231731687303715884105728) : wrap128 z = z := by
  unfold wrap128; omega
set_option maxRecDepth 100000 in
theorem cross15 (n P a b : Int) (w : World) (h : 0 < n) (n1 : n ≤ 1073741824) (P0 : 0 ≤ P) (P1 : P ≤ 3969 * n) (a0 : 0 ≤ a) (a1 : a ≤ 63 * n) (b0 : 0 ≤ b) (b1 : b ≤ 63 * n) :
    Calls Try.prog 58 #[.int .i64 n, .int .i64 P, .int .i64 a, .int .i64 b] w fun e w' => e = .returned (.int .i64 (vary15 n P a b)) ∧ Below w.heap.size w w' := by
  have K := St.start w
  have hb := vary_bd h n1 P0 P1 a0 a1 b0 b1
  have m2 := Int.mul_nonneg a0 b0
  have m3 := Int.mul_le_mul a1 b1 b0 (by omega)
  have m4 := Int.mul_le_mul n1 n1 (by omega) (by decide)
  have m5 : 63 * n * (63 * n) = 3969 * (n * n) := by grind
  have m6 := Int.mul_nonneg (Int.le_of_lt h) P0
  have m7 := Int.mul_le_mul n1 P1 P0 (by decide)
  have hv : vary15 n P a b = (n * P - a * b) * 65536 / n / n := rfl
  rw [hv]
  have M1 := Lib.hid (fun w => Mul_wide n P w (by omega) (by omega) (by omega) (by omega))
  have M2 := Lib.hid (fun w => Mul_wide a b w (by omega) (by omega) (by omega) (by omega))
  generalize n * P = x at *
  generalize a * b = y at *
  rw [m5] at m3
  have N1 := NegW_at y (-y) (fitsB (by omega) (by omega)) (wrapB (by omega) (by omega))
  have A1 := AddW_at x (-y) (x - y) true (by rw [fitsB (z := x) (by omega) (by omega), fitsB (z := -y) (by omega) (by omega)]; rfl) (by rw [wrapB (by omega) (by omega)]; omega) (fitsB (by omega) (by omega))
  obtain ⟨hb1, hb2⟩ := hb
  generalize x - y = d at *
  have p16 : (2 : Int) ^ 16 = 65536 := by decide
  have fd := fitsB (z := d) (by omega) (by omega)
  have fe := fitsB (z := d * 65536) (by omega) (by omega)
  have S1 := ShlW_at d (d * 65536) 16 true fd (by omega) (by rw [p16, if_pos fe]) (by rw [p16]; exact fe)
  change Hid (∀ w, Calls _ _ #[.agg (wI d), .int .i64 16] w _) at S1
  have D1 := Lib.hid (fun w => Div_wide (d * 65536) n 0 w (by omega) (by omega) (by omega) (by omega))
  rw [divM_fit (by unfold badB; simp; omega) (by rw [rq_down _ _ h, fits64_iff]; omega), rq_down _ _ h] at D1
  generalize d * 65536 / n = q at *
  have O1 := Lib.hid (fun w => Of_wide q w (by omega) (by omega))
  have D2 := Lib.hid (fun w => Div_wide q n 0 w (by omega) (by omega) (by omega) (by omega))
  have q0 : -279293545641148416 ≤ q / n := Int.le_ediv_of_mul_le h (by have := Int.mul_le_mul_of_nonneg_left (show (1 : Int) ≤ n by omega) (show (0 : Int) ≤ 279293545641148416 by decide); omega)
  have q1 : q / n ≤ 279293545641148416 := by
    have : q / n < 279293545641148416 + 1 := Int.ediv_lt_of_lt_mul h (by have := Int.mul_le_mul_of_nonneg_left (show (1 : Int) ≤ n by omega) (show (0 : Int) ≤ 279293545641148416 + 1 by decide); omega)
    omega
  rw [divM_fit (by unfold badB; simp; omega) (by rw [rq_down _ _ h, fits64_iff]; omega), rq_down _ _ h] at D2
  generalize q / n = r at *
  generalize d * 65536 = e at *
  clear p16 fd fe hb1 hb2 m2 m3 m4 m5 m6 m7 hv q0 q1 h n1 P0 P1 a0 a1 b0 b1
  simp only [wI] at M1 M2 N1 A1 S1 D1 O1 D2
  go_enter Try.func58, Try.ntmps58
  go_wp2_with (first|go_big_skip|((with_reducible refine at_load ?_);first|(refine wm_load (cs := ?_) (t := ?_) (n := ?_) K rfl _ _ rfl rfl ?_ ?_ ?_ ?_;rotate_left 2;(repeat (first|exact At.hd|refine At.tl ?_));rotate_left;(with_reducible first|exact row106);(solve|(with_reducible exact wI_size _)|(with_reducible exact numA_size _ _)|(with_reducible exact bitsA_size _)|(with_reducible exact numI_size _)|exact rfl|simp)))|((with_reducible refine at_store ?_);first|(refine wm_store (L' := ?_) (cs := ?_) (t := ?_) (n := ?_) K rfl _ _ _ rfl rfl rfl rfl ?_ ?_ ?_ ?_ ?_ ?_;rotate_left 3;(repeat (first|exact Put.hd|(refine Put.tl (L' := ?_) ?_;rotate_left)));rotate_left;(with_reducible first|exact row106);(solve|(with_reducible exact wI_size _)|(with_reducible exact numA_size _ _)|(with_reducible exact bitsA_size _)|(with_reducible exact numI_size _)|exact rfl|simp);(solve|(with_reducible exact wI_size _)|(with_reducible exact numA_size _ _)|(with_reducible exact bitsA_size _)|(with_reducible exact numI_size _)|exact rfl|simp);(solve|(with_reducible exact wI_ones _)|(with_reducible exact nOnes _ _)|(with_reducible exact bOnes _)|(with_reducible exact iOnes _)|exact rfl|simp [Ones, Value.oneCell']);(try clear K);(try clear ww);intro ww K;(try simp [go_sem] at K)))|((first|((with_reducible refine at_box ?_);refine wm_box K rfl _ _ rfl rfl rfl ?_)|((with_reducible refine at_alloc ?_);refine wm_alloc (v := ?_) (cs := ?_) K rfl _ rfl ?_ ?_ ?_;rotate_left;(with_reducible first|(with_reducible exact z0N)|(with_reducible exact z0B)|exact zero106);rotate_left;exact rfl));(try clear K);(try clear ww);((fail_if_success (have _h := b9));intro b9 ww K);(try simp [go_sem, Value.cells] at K))|(go_at_call 64;(with_reducible refine (M1.out _).mono ?_);rintro e w2 ⟨rfl, k1⟩;replace K := K.step k1;clear k1;(try clear ww);revert w2;intro ww K)|(go_at_call 64;(with_reducible refine (M2.out _).mono ?_);rintro e w2 ⟨rfl, k1⟩;replace K := K.step k1;clear k1;(try clear ww);revert w2;intro ww K)|(go_at_call 102;(with_reducible refine (N1.out _).mono ?_);rintro e w2 ⟨rfl, k1⟩;replace K := K.step k1;clear k1;(try clear ww);revert w2;intro ww K)|(go_at_call 63;(with_reducible refine (A1.out _).mono ?_);rintro e w2 ⟨rfl, k1⟩;replace K := K.step k1;clear k1;(try clear ww);revert w2;intro ww K)|(go_at_call 103;(with_reducible refine (S1.out _).mono ?_);rintro e w2 ⟨rfl, k1⟩;replace K := K.step k1;clear k1;(try clear ww);revert w2;intro ww K)|(go_at_call 101;(with_reducible refine (D1.out _).mono ?_);rintro e w2 ⟨rfl, k1⟩;replace K := K.step k1;clear k1;(try clear ww);revert w2;intro ww K)|(go_at_call 104;(with_reducible refine (O1.out _).mono ?_);rintro e w2 ⟨rfl, k1⟩;replace K := K.step k1;clear k1;(try clear ww);revert w2;intro ww K)|(go_at_call 101;(with_reducible refine (D2.out _).mono ?_);rintro e w2 ⟨rfl, k1⟩;replace K := K.step k1;clear k1;(try clear ww);revert w2;intro ww K))
  go_ret
  exact ⟨rfl, K.below⟩
end Go.Proofs.Ytpejoaefnnbghaa
namespace Go.Proofs.Ytpejoaefnnbghaa
open Go.RowKit
attribute [local irreducible] wpHeld wpTree wpList
attribute [local go_sem] Oper.semAt_some
set_option linter.unusedVariables false
theorem wpIn_meetK {B : Nat} {w0 : World} {L : List Blk} {F : World → Prop} {f : Fence} {n : Nat} {P : Program} {c : Code} {Q : Exit → Act → World → Prop} {a : Act} {w : World} (K : St B w0 L F w) (L1 : List Blk) {A : Act} (h1 : c.wpIn f n P (Qn fun a' w' => a' = A ∧ St B w0 L1 F w') a w) (h2 : ∀ W, St B w0 L1 F W → Q .normal A W) : c.wpIn f n P Q a w :=
  wpIn_mono h1 fun e a' w' h => by
    cases e <;> first | exact (h : False).elim | skip
    obtain ⟨rfl, hS⟩ := h
    exact h2 _ hS
def varyV (p : Nat) (zs : List Int) : Value :=
  if isum zs = 0 then .tuple #[.agg #[.int .i64 0, .int .i64 0, .int .i64 0], .bool false]
  else .tuple #[.agg #[.int .i64 (vary15 (isum zs) (sm zs p 2 0) (sm zs p 1 0) (sm zs p 1 0)), .int .i64 (vary15 (isum zs) (sm zs p 1 1) (sm zs p 1 0) (sm zs p 0 1)), .int .i64 (vary15 (isum zs) (sm zs p 0 2) (sm zs p 0 1) (sm zs p 0 1))], .bool true]
set_option maxRecDepth 100000 in
set_option maxHeartbeats 4000000 in
theorem Vary15 (p q : Nat) (H X Y S : Int) (A : Option Addr) (n c : Nat) (zs : List Int) (w : World) (hG : Gr p q zs) (hl : zs.length = n) (h : Rd w A n (ints .i64 zs)) :
    Calls Try.prog 16 #[.agg #[.int .i64 p, .int .i64 H, .int .i64 X, .int .i64 Y, .int .i64 S, .slice A n c]] w fun e w' => e = .returned (varyV p zs) ∧ Below w.heap.size w w' := by
  obtain ⟨rv, hrv⟩ : ∃ rv, varyV p zs = rv := ⟨_, rfl⟩
  rw [hrv]
  have K := St.start w
  have HG := Lib.hid hG
  have HR := Lib.hid h
  have PG := fun b => places_gives b p H X Y S A n c zs hG.w0 hG.w1 hl (by have := hG.n2; omega)
  have PG := Lib.hid PG
  clear hl h hG
  refine calls_of_wp_marks Try.func16 rfl ?_; simp only [Try.ntmps16, List.size_toArray, List.length_cons, List.length_nil, Nat.reduceAdd, Nat.reduceSub, Array.replicate_succ, Array.replicate_zero, List.push_toArray, List.append_toArray, List.nil_append, List.cons_append]
  go_wp2_with (first|go_big_skip|((with_reducible refine at_load ?_);first|(refine wm_load (cs := ?_) (t := ?_) (n := ?_) K rfl _ _ rfl rfl ?_ ?_ ?_ ?_;rotate_left 2;(repeat (first|exact At.hd|refine At.tl ?_));rotate_left;(with_reducible first|exact row26|exact row34|exact row98);(solve|exact rfl|simp))|(refine wm_own (cs := ?_) (t := ?_) (v := ?_) K rfl _ _ rfl rfl ?_ ?_ ?_ ?_;rotate_left 2;(repeat (first|exact At.hd|refine At.tl ?_));rotate_left;(first|exact rfl|assumption);(with_reducible first|exact one2))|(refine wm_cell (v := ?_) rfl _ _ rfl rfl ?_ ?_ ?_;rotate_left;(first|assumption|exact (K.below.cell (by assumption)).trans (by assumption));(with_reducible first|exact one2)))|((with_reducible refine at_store ?_);(first|(refine wm_store (L' := ?_) (cs := ?_) (t := ?_) (n := ?_) K rfl _ _ _ rfl rfl rfl rfl ?_ ?_ ?_ ?_ ?_ ?_;rotate_left 3;(repeat (first|exact Put.hd|(refine Put.tl (L' := ?_) ?_;rotate_left)));rotate_left;(with_reducible first|exact row26|exact row34|exact row98);(solve|exact rfl|simp);(solve|exact rfl|simp);(solve|exact rfl|simp [Ones, Value.oneCell']))|(refine wm_put (L' := ?_) (cs := ?_) (new := ?_) (t := ?_) K rfl _ _ _ rfl rfl rfl rfl ?_ ?_ ?_ ?_ rfl rfl ?_;rotate_left 4;(repeat (first|exact Put.hd|(refine Put.tl (L' := ?_) ?_;rotate_left)));(solve|exact Nat.le_of_ble_eq_true rfl|decide|(simp only [List.size_toArray, nums_length];first|assumption|omega)|(simp only [List.size_toArray, nums_length, List.length_set];first|assumption|omega)|simp|omega|(simp only [List.size_toArray, nums_length];omega)|assumption);(solve|(simp only [List.setIfInBounds_toArray];exact rfl)|exact nums_set _ _ _ _|simp only [List.setIfInBounds_toArray, List.set_cons_zero]|simp only [List.setIfInBounds_toArray, List.set_cons_zero, List.set_cons_succ]|(simp only [List.setIfInBounds_toArray, List.set_cons_zero, List.set_cons_succ];exact rfl)|exact rfl);(with_reducible first|exact one2)));(try clear K);(try clear ww);intro ww K;(try simp [go_sem] at K))|((first|((with_reducible refine at_box ?_);refine wm_box K rfl _ _ rfl rfl rfl ?_)|((with_reducible refine at_alloc ?_);refine wm_alloc (v := ?_) (cs := ?_) K rfl _ rfl ?_ ?_ ?_;rotate_left;(with_reducible first|exact zero2|exact zero34|exact zero98);rotate_left;exact rfl));(try clear K);(try clear ww);(first|((fail_if_success (have _h := b1));intro b1 ww K)|((fail_if_success (have _h := b2));intro b2 ww K)|((fail_if_success (have _h := b4));intro b4 ww K)|((fail_if_success (have _h := b5));intro b5 ww K)|((fail_if_success (have _h := b6));intro b6 ww K)|((fail_if_success (have _h := b7));intro b7 ww K)|((fail_if_success (have _h := b8));intro b8 ww K)|((fail_if_success (have _h := b9));intro b9 ww K));(try simp [go_sem, Value.cells] at K))|(go_at_call 56;have zz := places15 K p H X Y S A n c;(with_reducible refine zz.mono ?_);clear zz;rintro e w2 ⟨bb, rfl, K2⟩;(try dsimp only);replace K := K2;clear K2;(try clear ww);revert w2;intro ww K))
  refine wm_range (α := Nat × Int) 9 rfl (enters_of Try.func100 (by kernel_rfl) rfl) (PG.out bb) (fun _ => rfl) (fun k V => St w.heap.size w [(bb, #[.int .i64 p, .int .i64 H, .int .i64 X, .int .i64 Y, .int .i64 S, .slice A n c], 26), (b9, #[.int .i64 (sumP zs k)], 2), (b8, #[.int .i64 (moP p 0 2 zs k)], 2), (b7, #[.int .i64 (moP p 1 1 zs k)], 2), (b6, #[.int .i64 (moP p 2 0 zs k)], 2), (b5, #[.int .i64 (moP p 0 1 zs k)], 2), (b4, #[.int .i64 (moP p 1 0 zs k)], 2), (b2, #[.int .i64 0, .int .i64 0, .int .i64 0], 34), (b1, #[.int .i64 p, .int .i64 H, .int .i64 X, .int .i64 Y, .int .i64 S, .slice A n c], 26)] Any V) (fun _ _ => False) (fun k => stable_st K.size firm_any) (fun _ => stable_false) (fun k V K => ⟨K.get .hd, HR.out.below K.below⟩) K ?round ?done ?stop
  case round =>
    intro lo0 k x V KK hlo hx K1 hK
    obtain ⟨z0, u0, v0⟩ := HG.out.pl_bd hx
    have ea := moP_snoc (p := p) (a := 1) (b := 0) hx
    have eb := moP_snoc (p := p) (a := 0) (b := 1) hx
    have ec := sumP_snoc hx
    have ed := moP_snoc (p := p) (a := 2) (b := 0) hx
    have ee := moP_snoc (p := p) (a := 1) (b := 1) hx
    have ef := moP_snoc (p := p) (a := 0) (b := 2) hx
    rw [mo10] at ea
    rw [mo01] at eb
    rw [mo20] at ed
    rw [mo11] at ee
    rw [mo02] at ef
    have a0 := HG.out.moP_bd (a := 1) (b := 0) (k := k) (by omega)
    have a1 := HG.out.moP_bd (a := 1) (b := 0) (k := k + 1) (by omega)
    have b0 := HG.out.moP_bd (a := 0) (b := 1) (k := k) (by omega)
    have b1' := HG.out.moP_bd (a := 0) (b := 1) (k := k + 1) (by omega)
    have c0 := HG.out.sumP_bd (k := k)
    have c1 := HG.out.sumP_bd (k := k + 1)
    have d0 := HG.out.moP_bd (a := 2) (b := 0) (k := k) (by omega)
    have d1 := HG.out.moP_bd (a := 2) (b := 0) (k := k + 1) (by omega)
    have g0 := HG.out.moP_bd (a := 1) (b := 1) (k := k) (by omega)
    have g1 := HG.out.moP_bd (a := 1) (b := 1) (k := k + 1) (by omega)
    have i0 := HG.out.moP_bd (a := 0) (b := 2) (k := k) (by omega)
    have i1 := HG.out.moP_bd (a := 0) (b := 2) (k := k + 1) (by omega)
    have hD := K.size
    generalize ww.heap.size = D at *
    clear K hx
    replace K := K1.keepsFrom D
    clear K1
    simp only [encP, List.zip_toArray, List.zip_cons_cons, List.zip_nil_right, List.size_toArray]
    generalize xv p x = u at *
    generalize yv p x = v at *
    generalize x.2 = z at *
    clear x
    obtain ⟨m1, hm1⟩ : ∃ m1, z * u = m1 := ⟨_, rfl⟩
    obtain ⟨m2, hm2⟩ : ∃ m2, z * v = m2 := ⟨_, rfl⟩
    rw [hm1] at ea ed ee
    rw [hm2] at eb ef
    obtain ⟨m3, hm3⟩ : ∃ m3, m1 * u = m3 := ⟨_, rfl⟩
    obtain ⟨m4, hm4⟩ : ∃ m4, m1 * v = m4 := ⟨_, rfl⟩
    obtain ⟨m5, hm5⟩ : ∃ m5, m2 * v = m5 := ⟨_, rfl⟩
    rw [hm3] at ed
    rw [hm4] at ee
    rw [hm5] at ef
    obtain ⟨f1, h1⟩ := wrapI hm1 (by omega) (by omega)
    obtain ⟨f2, h2⟩ := wrapI hm2 (by omega) (by omega)
    obtain ⟨f3, h3⟩ := wrapI ea.symm (by omega) (by omega)
    obtain ⟨f4, h4⟩ := wrapI eb.symm (by omega) (by omega)
    obtain ⟨f5, h5⟩ := wrapI ec.symm (by omega) (by omega)
    obtain ⟨f6, h6⟩ := wrapI hm3 (by omega) (by omega)
    obtain ⟨f7, h7⟩ := wrapI hm4 (by omega) (by omega)
    obtain ⟨f8, h8⟩ := wrapI hm5 (by omega) (by omega)
    obtain ⟨f9, h9⟩ := wrapI ed.symm (by omega) (by omega)
    obtain ⟨f10, h10⟩ := wrapI ee.symm (by omega) (by omega)
    obtain ⟨f11, h11⟩ := wrapI ef.symm (by omega) (by omega)
    clear ea eb ec ed ee ef a0 a1 b0 b1' c0 c1 d0 d1 g0 g1 i0 i1 hm1 hm2 hm3 hm4 hm5 z0 u0 v0
    gi_wp2_with ((refine rin_step (fun c e => by cases e) ?_;go_wp2_with (first|go_big_skip|((with_reducible refine at_load ?_);first|(refine wm_load (cs := ?_) (t := ?_) (n := ?_) K rfl _ _ rfl rfl ?_ ?_ ?_ ?_;rotate_left 2;(repeat (first|exact At.hd|refine At.tl ?_));rotate_left;(with_reducible first|exact row26|exact row34|exact row98);(solve|exact rfl|simp))|(refine wm_own (cs := ?_) (t := ?_) (v := ?_) K rfl _ _ rfl rfl ?_ ?_ ?_ ?_;rotate_left 2;(repeat (first|exact At.hd|refine At.tl ?_));rotate_left;(first|exact rfl|assumption);(with_reducible first|exact one2))|(refine wm_cell (v := ?_) rfl _ _ rfl rfl ?_ ?_ ?_;rotate_left;(first|assumption|exact (K.below.cell (by assumption)).trans (by assumption));(with_reducible first|exact one2)))|((with_reducible refine at_store ?_);(first|(refine wm_store (L' := ?_) (cs := ?_) (t := ?_) (n := ?_) K rfl _ _ _ rfl rfl rfl rfl ?_ ?_ ?_ ?_ ?_ ?_;rotate_left 3;(repeat (first|exact Put.hd|(refine Put.tl (L' := ?_) ?_;rotate_left)));rotate_left;(with_reducible first|exact row26|exact row34|exact row98);(solve|exact rfl|simp);(solve|exact rfl|simp);(solve|exact rfl|simp [Ones, Value.oneCell']))|(refine wm_put (L' := ?_) (cs := ?_) (new := ?_) (t := ?_) K rfl _ _ _ rfl rfl rfl rfl ?_ ?_ ?_ ?_ rfl rfl ?_;rotate_left 4;(repeat (first|exact Put.hd|(refine Put.tl (L' := ?_) ?_;rotate_left)));(solve|exact Nat.le_of_ble_eq_true rfl|decide|(simp only [List.size_toArray, nums_length];first|assumption|omega)|(simp only [List.size_toArray, nums_length, List.length_set];first|assumption|omega)|simp|omega|(simp only [List.size_toArray, nums_length];omega)|assumption);(solve|(simp only [List.setIfInBounds_toArray];exact rfl)|exact nums_set _ _ _ _|simp only [List.setIfInBounds_toArray, List.set_cons_zero]|simp only [List.setIfInBounds_toArray, List.set_cons_zero, List.set_cons_succ]|(simp only [List.setIfInBounds_toArray, List.set_cons_zero, List.set_cons_succ];exact rfl)|exact rfl);(with_reducible first|exact one2)));(try clear K);(try clear ww);intro ww K;(try simp [go_sem] at K))|((first|((with_reducible refine at_box ?_);refine wm_box K rfl _ _ rfl rfl rfl ?_)|((with_reducible refine at_alloc ?_);refine wm_alloc (v := ?_) (cs := ?_) K rfl _ rfl ?_ ?_ ?_;rotate_left;(with_reducible first|exact zero2|exact zero34|exact zero98);rotate_left;exact rfl));(try clear K);(try clear ww);((fail_if_success (have _h := b10));intro b10 ww K);(try simp [go_sem, Value.cells] at K))));refine qn_out ?_)
    refine hK _ _ K.fact.1 (fun W2 r o o' hr ho hc e => ?_); replace K := K.begun hD firm_any hr ho hc e; clear hr ho hc e hK
    gi_wp2_with fail
    apply wpIn_meetK K [(b10, #[.int .i64 u, .int .i64 v], 98), (bb, #[.int .i64 p, .int .i64 H, .int .i64 X, .int .i64 Y, .int .i64 S, .slice A n c], 26), (b9, #[.int .i64 (sumP zs (k + 1))], 2), (b8, #[.int .i64 (moP p 0 2 zs k)], 2), (b7, #[.int .i64 (moP p 1 1 zs k)], 2), (b6, #[.int .i64 (moP p 2 0 zs k)], 2), (b5, #[.int .i64 (moP p 0 1 zs (k + 1))], 2), (b4, #[.int .i64 (moP p 1 0 zs (k + 1))], 2), (b2, #[.int .i64 0, .int .i64 0, .int .i64 0], 34), (b1, #[.int .i64 p, .int .i64 H, .int .i64 X, .int .i64 Y, .int .i64 S, .slice A n c], 26)]
    · refine wm_treeIn _ (.take 1 (.take 2 (.take 3 (.take 4 (.take 7 (.take 8 (.take 9 (.take 10 (.take 13 (.alt 0 (.take 5 (.alt 6 (.take 11 (.alt 12 (.take 14 (.alt 15 (.alt 16 (.alt 17 .done .stop) .stop) .stop)) (.alt 15 (.alt 12 (.take 14 (.alt 16 (.alt 17 .done .stop) .stop)) (.alt 16 (.alt 12 (.take 14 (.alt 17 .done .stop)) .stop) .stop)) .stop))) (.alt 12 (.take 14 (.alt 6 (.take 11 (.alt 15 (.alt 16 (.alt 17 .done .stop) .stop) .stop)) (.alt 15 (.alt 6 (.take 11 (.alt 16 (.alt 17 .done .stop) .stop)) .stop) .stop))) (.alt 15 (.alt 6 (.take 11 (.alt 12 (.take 14 (.alt 16 (.alt 17 .done .stop) .stop)) (.alt 16 (.alt 12 (.take 14 (.alt 17 .done .stop)) .stop) .stop))) (.alt 12 (.take 14 (.alt 6 (.take 11 (.alt 16 (.alt 17 .done .stop) .stop)) .stop)) .stop)) .stop)))) (.alt 6 (.take 11 (.alt 0 (.take 5 (.alt 12 (.take 14 (.alt 15 (.alt 16 (.alt 17 .done .stop) .stop) .stop)) (.alt 15 (.alt 12 (.take 14 (.alt 16 (.alt 17 .done .stop) .stop)) (.alt 16 (.alt 12 (.take 14 (.alt 17 .done .stop)) .stop) .stop)) .stop))) (.alt 12 (.take 14 (.alt 0 (.take 5 (.alt 15 (.alt 16 (.alt 17 .done .stop) .stop) .stop)) .stop)) .stop))) (.alt 12 (.take 14 (.alt 0 (.take 5 (.alt 6 (.take 11 (.alt 15 (.alt 16 (.alt 17 .done .stop) .stop) .stop)) (.alt 15 (.alt 6 (.take 11 (.alt 16 (.alt 17 .done .stop) .stop)) .stop) .stop))) (.alt 6 (.take 11 (.alt 0 (.take 5 (.alt 15 (.alt 16 (.alt 17 .done .stop) .stop) .stop)) .stop)) .stop))) .stop)))))))))))) K sb2s (by kernel_rfl) (by kernel_rfl) (by kernel_rfl) (fun _ _ h => h) ?_; (try clear K); (try clear ww); intro ww K; (try simp [go_sem] at K)
      repeat' (first|exact tree_stop|(refine tm_own (cs := ?_) (t0 := ?_) (v := ?_) rfl rfl _ _ rfl rfl ?_ ?_ ?_ ?_;rotate_left 2;(repeat (first|exact At.hd|refine At.tl ?_));rotate_left;(first|exact rfl|assumption);(with_reducible first|exact one2))|(refine tree_take (fun K' hK' => ?_);simp only [opAt, List.getElem?_toArray, List.getElem?_cons_succ, List.getElem?_cons_zero, Option.getD_some];go_simp;first|(refine hK' _ ?_;clear hK' K')|(apply Exists.intro;refine ⟨?_, hK' _ ?_⟩;(intro _ _;rfl);clear hK' K'))|(refine tm_nowAt (cs := ?_) (t0 := ?_) (v := ?_) K rfl rfl _ _ rfl rfl ?_ ?_ ?_ (by apply via sb2s;first|exact K|exact K.tail|exact K.tail.tail|exact K.tail.tail.tail|exact K.weak wk1|exact K.tail.weak wk1|exact K.tail.tail.weak wk1|exact K.tail.tail.tail.weak wk1|exact K.weak wk2|exact K.tail.weak wk2|exact K.tail.tail.weak wk2|exact K.tail.tail.tail.weak wk2|exact K.weak wk3|exact K.tail.weak wk3|exact K.tail.tail.weak wk3|exact K.tail.tail.tail.weak wk3|exact K.weak wk4|exact K.tail.weak wk4|exact K.tail.tail.weak wk4|exact K.tail.tail.tail.weak wk4|exact K.weak wk5|exact K.tail.weak wk5|exact K.tail.tail.weak wk5|exact K.tail.tail.tail.weak wk5) ?_ ?_;rotate_left 2;(repeat (first|exact At.hd|refine At.tl ?_));rotate_left;(first|exact rfl|assumption);(with_reducible first|exact one2))|(refine tm_put (L' := ?_) (cs := ?_) (new := ?_) (t0 := ?_) K rfl rfl _ _ _ rfl rfl rfl rfl ?_ ?_ ?_ ?_ rfl rfl ?_ ?_;rotate_left 4;(repeat (first|exact Put.hd|(refine Put.tl (L' := ?_) ?_;rotate_left)));(solve|exact Nat.le_of_ble_eq_true rfl|decide|(simp only [List.size_toArray, nums_length];first|assumption|omega)|(simp only [List.size_toArray, nums_length, List.length_set];first|assumption|omega)|simp|omega|(simp only [List.size_toArray, nums_length];omega)|assumption);(solve|(simp only [List.setIfInBounds_toArray];exact rfl)|exact nums_set _ _ _ _|simp only [List.setIfInBounds_toArray, List.set_cons_zero]|simp only [List.setIfInBounds_toArray, List.set_cons_zero, List.set_cons_succ]|(simp only [List.setIfInBounds_toArray, List.set_cons_zero, List.set_cons_succ];exact rfl)|exact rfl);(with_reducible first|exact one2);intro ww2 K2;(try simp [go_sem] at K2);refine ⟨(by apply via sb2s;first|exact K2|exact K2.tail|exact K2.tail.tail|exact K2.tail.tail.tail|exact K2.weak wk1|exact K2.tail.weak wk1|exact K2.tail.tail.weak wk1|exact K2.tail.tail.tail.weak wk1|exact K2.weak wk2|exact K2.tail.weak wk2|exact K2.tail.tail.weak wk2|exact K2.tail.tail.tail.weak wk2|exact K2.weak wk3|exact K2.tail.weak wk3|exact K2.tail.tail.weak wk3|exact K2.tail.tail.tail.weak wk3|exact K2.weak wk4|exact K2.tail.weak wk4|exact K2.tail.tail.weak wk4|exact K2.tail.tail.tail.weak wk4|exact K2.weak wk5|exact K2.tail.weak wk5|exact K2.tail.tail.weak wk5|exact K2.tail.tail.tail.weak wk5), ?_⟩;replace K := K2;clear K2;(try clear ww);revert ww2;intro ww K))
      all_goals refine tree_done ?_
      all_goals (try simp only [opAt, List.getElem?_toArray, List.getElem?_cons_succ, List.getElem?_cons_zero, Option.getD_some])
      all_goals (try go_simp)
      all_goals exact ⟨rfl, K⟩
    clear K
    intro ww K
    gi_wp2_with fail
    refine wm_treeIn _ (.take 1 (.take 2 (.take 3 (.take 4 (.take 5 (.take 6 (.take 7 (.take 10 (.take 11 (.take 12 (.take 13 (.take 14 (.take 15 (.take 16 (.take 19 (.take 20 (.take 21 (.take 22 (.take 23 (.take 24 (.take 25 (.alt 0 (.take 8 (.alt 9 (.take 17 (.alt 18 (.take 26 (.alt 27 (.alt 28 (.alt 29 .done .stop) .stop) .stop)) (.alt 27 (.alt 18 (.take 26 (.alt 28 (.alt 29 .done .stop) .stop)) (.alt 28 (.alt 18 (.take 26 (.alt 29 .done .stop)) .stop) .stop)) .stop))) (.alt 18 (.take 26 (.alt 9 (.take 17 (.alt 27 (.alt 28 (.alt 29 .done .stop) .stop) .stop)) (.alt 27 (.alt 9 (.take 17 (.alt 28 (.alt 29 .done .stop) .stop)) .stop) .stop))) (.alt 27 (.alt 9 (.take 17 (.alt 18 (.take 26 (.alt 28 (.alt 29 .done .stop) .stop)) (.alt 28 (.alt 18 (.take 26 (.alt 29 .done .stop)) .stop) .stop))) (.alt 18 (.take 26 (.alt 9 (.take 17 (.alt 28 (.alt 29 .done .stop) .stop)) .stop)) .stop)) .stop)))) (.alt 9 (.take 17 (.alt 0 (.take 8 (.alt 18 (.take 26 (.alt 27 (.alt 28 (.alt 29 .done .stop) .stop) .stop)) (.alt 27 (.alt 18 (.take 26 (.alt 28 (.alt 29 .done .stop) .stop)) (.alt 28 (.alt 18 (.take 26 (.alt 29 .done .stop)) .stop) .stop)) .stop))) (.alt 18 (.take 26 (.alt 0 (.take 8 (.alt 27 (.alt 28 (.alt 29 .done .stop) .stop) .stop)) .stop)) .stop))) (.alt 18 (.take 26 (.alt 0 (.take 8 (.alt 9 (.take 17 (.alt 27 (.alt 28 (.alt 29 .done .stop) .stop) .stop)) (.alt 27 (.alt 9 (.take 17 (.alt 28 (.alt 29 .done .stop) .stop)) .stop) .stop))) (.alt 9 (.take 17 (.alt 0 (.take 8 (.alt 27 (.alt 28 (.alt 29 .done .stop) .stop) .stop)) .stop)) .stop))) .stop)))))))))))))))))))))))) K sb3s (by kernel_rfl) (by kernel_rfl) (by kernel_rfl) (fun _ _ h => h) ?_; (try clear K); (try clear ww); intro ww K; (try simp [go_sem] at K)
    repeat' (first|exact tree_stop|(refine tm_own (cs := ?_) (t0 := ?_) (v := ?_) rfl rfl _ _ rfl rfl ?_ ?_ ?_ ?_;rotate_left 2;(repeat (first|exact At.hd|refine At.tl ?_));rotate_left;(first|exact rfl|assumption);(with_reducible first|exact one2))|(refine tree_take (fun K' hK' => ?_);simp only [opAt, List.getElem?_toArray, List.getElem?_cons_succ, List.getElem?_cons_zero, Option.getD_some];go_simp;first|(refine hK' _ ?_;clear hK' K')|(apply Exists.intro;refine ⟨?_, hK' _ ?_⟩;(intro _ _;rfl);clear hK' K'))|(refine tm_nowAt (cs := ?_) (t0 := ?_) (v := ?_) K rfl rfl _ _ rfl rfl ?_ ?_ ?_ (by apply via sb3s;first|exact K|exact K.tail|exact K.tail.tail|exact K.tail.tail.tail|exact K.weak wk1|exact K.tail.weak wk1|exact K.tail.tail.weak wk1|exact K.tail.tail.tail.weak wk1|exact K.weak wk2|exact K.tail.weak wk2|exact K.tail.tail.weak wk2|exact K.tail.tail.tail.weak wk2|exact K.weak wk3|exact K.tail.weak wk3|exact K.tail.tail.weak wk3|exact K.tail.tail.tail.weak wk3|exact K.weak wk4|exact K.tail.weak wk4|exact K.tail.tail.weak wk4|exact K.tail.tail.tail.weak wk4|exact K.weak wk5|exact K.tail.weak wk5|exact K.tail.tail.weak wk5|exact K.tail.tail.tail.weak wk5) ?_ ?_;rotate_left 2;(repeat (first|exact At.hd|refine At.tl ?_));rotate_left;(first|exact rfl|assumption);(with_reducible first|exact one2))|(refine tm_put (L' := ?_) (cs := ?_) (new := ?_) (t0 := ?_) K rfl rfl _ _ _ rfl rfl rfl rfl ?_ ?_ ?_ ?_ rfl rfl ?_ ?_;rotate_left 4;(repeat (first|exact Put.hd|(refine Put.tl (L' := ?_) ?_;rotate_left)));(solve|exact Nat.le_of_ble_eq_true rfl|decide|(simp only [List.size_toArray, nums_length];first|assumption|omega)|(simp only [List.size_toArray, nums_length, List.length_set];first|assumption|omega)|simp|omega|(simp only [List.size_toArray, nums_length];omega)|assumption);(solve|(simp only [List.setIfInBounds_toArray];exact rfl)|exact nums_set _ _ _ _|simp only [List.setIfInBounds_toArray, List.set_cons_zero]|simp only [List.setIfInBounds_toArray, List.set_cons_zero, List.set_cons_succ]|(simp only [List.setIfInBounds_toArray, List.set_cons_zero, List.set_cons_succ];exact rfl)|exact rfl);(with_reducible first|exact one2);intro ww2 K2;(try simp [go_sem] at K2);refine ⟨(by apply via sb3s;first|exact K2|exact K2.tail|exact K2.tail.tail|exact K2.tail.tail.tail|exact K2.weak wk1|exact K2.tail.weak wk1|exact K2.tail.tail.weak wk1|exact K2.tail.tail.tail.weak wk1|exact K2.weak wk2|exact K2.tail.weak wk2|exact K2.tail.tail.weak wk2|exact K2.tail.tail.tail.weak wk2|exact K2.weak wk3|exact K2.tail.weak wk3|exact K2.tail.tail.weak wk3|exact K2.tail.tail.tail.weak wk3|exact K2.weak wk4|exact K2.tail.weak wk4|exact K2.tail.tail.weak wk4|exact K2.tail.tail.tail.weak wk4|exact K2.weak wk5|exact K2.tail.weak wk5|exact K2.tail.tail.weak wk5|exact K2.tail.tail.tail.weak wk5), ?_⟩;replace K := K2;clear K2;(try clear ww);revert ww2;intro ww K))
    all_goals refine tree_done ?_
    all_goals (try simp only [opAt, List.getElem?_toArray, List.getElem?_cons_succ, List.getElem?_cons_zero, Option.getD_some])
    all_goals (try go_simp)
    all_goals (try gi_wp2_with fail)
    all_goals exact ⟨K.fact.1, K.tail.weak fun _ h => h.2⟩
  case done =>
    intro D V hD K1 hk
    rw [HG.out.moP_end, HG.out.moP_end, HG.out.moP_end, HG.out.moP_end, HG.out.moP_end, HG.out.sumP_end] at K1
    have hB := Nat.le_trans K.size hD
    clear K hD
    have K := K1.mark hk
    clear K1 hk
    have hs0 := HG.out.s0
    have hs1 := HG.out.top
    have hp := HG.out.w1
    have hp0 := HG.out.w0
    have hq := HG.out.h1
    have hq0 := HG.out.h0
    have hx := HG.out.mean_x
    have hy := HG.out.mean_y
    have mx := Int.mul_le_mul_of_nonneg_right (show (p : Int) - 1 ≤ 63 by omega) hs0
    have my := Int.mul_le_mul_of_nonneg_right (show (q : Int) - 1 ≤ 63 by omega) hs0
    have h20 := HG.out.sm_bd (a := 2) (b := 0) (by omega)
    have h11 := HG.out.sm_bd (a := 1) (b := 1) (by omega)
    have h02 := HG.out.sm_bd (a := 0) (b := 2) (by omega)
    revert V
    intro ww K
    unfold varyV at hrv
    by_cases hz : isum zs = 0
    · have t0 : decide (isum zs = 0) = true := decide_eq_true hz
      rw [if_pos hz] at hrv
      subst hrv
      rw [hz] at K
      clear t0 hz hx hy mx my h20 h11 h02 hp hp0 hq hq0 hs0 hs1
      go_wp2_with (first|go_big_skip|((with_reducible refine at_load ?_);first|(refine wm_load (cs := ?_) (t := ?_) (n := ?_) K rfl _ _ rfl rfl ?_ ?_ ?_ ?_;rotate_left 2;(repeat (first|exact At.hd|refine At.tl ?_));rotate_left;(with_reducible first|exact row26|exact row34|exact row98);(solve|exact rfl|simp))|(refine wm_own (cs := ?_) (t := ?_) (v := ?_) K rfl _ _ rfl rfl ?_ ?_ ?_ ?_;rotate_left 2;(repeat (first|exact At.hd|refine At.tl ?_));rotate_left;(first|exact rfl|assumption);(with_reducible first|exact one2))|(refine wm_cell (v := ?_) rfl _ _ rfl rfl ?_ ?_ ?_;rotate_left;(first|assumption|exact (K.below.cell (by assumption)).trans (by assumption));(with_reducible first|exact one2)))|((with_reducible refine at_store ?_);(first|(refine wm_store (L' := ?_) (cs := ?_) (t := ?_) (n := ?_) K rfl _ _ _ rfl rfl rfl rfl ?_ ?_ ?_ ?_ ?_ ?_;rotate_left 3;(repeat (first|exact Put.hd|(refine Put.tl (L' := ?_) ?_;rotate_left)));rotate_left;(with_reducible first|exact row26|exact row34|exact row98);(solve|exact rfl|simp);(solve|exact rfl|simp);(solve|exact rfl|simp [Ones, Value.oneCell']))|(refine wm_put (L' := ?_) (cs := ?_) (new := ?_) (t := ?_) K rfl _ _ _ rfl rfl rfl rfl ?_ ?_ ?_ ?_ rfl rfl ?_;rotate_left 4;(repeat (first|exact Put.hd|(refine Put.tl (L' := ?_) ?_;rotate_left)));(solve|exact Nat.le_of_ble_eq_true rfl|decide|(simp only [List.size_toArray, nums_length];first|assumption|omega)|(simp only [List.size_toArray, nums_length, List.length_set];first|assumption|omega)|simp|omega|(simp only [List.size_toArray, nums_length];omega)|assumption);(solve|(simp only [List.setIfInBounds_toArray];exact rfl)|exact nums_set _ _ _ _|simp only [List.setIfInBounds_toArray, List.set_cons_zero]|simp only [List.setIfInBounds_toArray, List.set_cons_zero, List.set_cons_succ]|(simp only [List.setIfInBounds_toArray, List.set_cons_zero, List.set_cons_succ];exact rfl)|exact rfl);(with_reducible first|exact one2)));(try clear K);(try clear ww);intro ww K;(try simp [go_sem] at K)))
      exact retM1 (K.weak fun _ h => h.2) firm_any rfl hB K.fact.1 (fun w' K' => ⟨_, K'.res2 rfl _ rfl (.tl (.tl (.tl (.tl (.tl (.tl (.tl .hd))))))) (by (with_reducible first|exact row26|exact row34|exact row98)) (by (solve|exact rfl|simp)) rfl, rfl, K'.below⟩)
    · have t0 : decide (isum zs = 0) = false := decide_eq_false hz
      rw [if_neg hz] at hrv
      have hs : 0 < isum zs := by omega
      generalize sm zs p 1 0 = sx at *
      generalize sm zs p 0 1 = sy at *
      generalize sm zs p 2 0 = sxx at *
      generalize sm zs p 1 1 = sxy at *
      generalize sm zs p 0 2 = syy at *
      generalize isum zs = s at *
      have C1 := Lib.hid (fun w => cross15 s sxx sx sx w hs hs1 h20.1 h20.2 hx.1 (by omega) hx.1 (by omega))
      have C2 := Lib.hid (fun w => cross15 s sxy sx sy w hs hs1 h11.1 h11.2 hx.1 (by omega) hy.1 (by omega))
      have C3 := Lib.hid (fun w => cross15 s syy sy sy w hs hs1 h02.1 h02.2 hy.1 (by omega) hy.1 (by omega))
      generalize vary15 s sxx sx sx = r1 at *
      generalize vary15 s sxy sx sy = r2 at *
      generalize vary15 s syy sy sy = r3 at *
      subst hrv
      clear hx hy mx my h20 h11 h02 hp hp0 hq hq0 hs0 hs1 hs
      go_wp2_with (first|go_big_skip|((with_reducible refine at_load ?_);first|(refine wm_load (cs := ?_) (t := ?_) (n := ?_) K rfl _ _ rfl rfl ?_ ?_ ?_ ?_;rotate_left 2;(repeat (first|exact At.hd|refine At.tl ?_));rotate_left;(with_reducible first|exact row26|exact row34|exact row98);(solve|exact rfl|simp))|(refine wm_own (cs := ?_) (t := ?_) (v := ?_) K rfl _ _ rfl rfl ?_ ?_ ?_ ?_;rotate_left 2;(repeat (first|exact At.hd|refine At.tl ?_));rotate_left;(first|exact rfl|assumption);(with_reducible first|exact one2))|(refine wm_cell (v := ?_) rfl _ _ rfl rfl ?_ ?_ ?_;rotate_left;(first|assumption|exact (K.below.cell (by assumption)).trans (by assumption));(with_reducible first|exact one2)))|((with_reducible refine at_store ?_);(first|(refine wm_store (L' := ?_) (cs := ?_) (t := ?_) (n := ?_) K rfl _ _ _ rfl rfl rfl rfl ?_ ?_ ?_ ?_ ?_ ?_;rotate_left 3;(repeat (first|exact Put.hd|(refine Put.tl (L' := ?_) ?_;rotate_left)));rotate_left;(with_reducible first|exact row26|exact row34|exact row98);(solve|exact rfl|simp);(solve|exact rfl|simp);(solve|exact rfl|simp [Ones, Value.oneCell']))|(refine wm_put (L' := ?_) (cs := ?_) (new := ?_) (t := ?_) K rfl _ _ _ rfl rfl rfl rfl ?_ ?_ ?_ ?_ rfl rfl ?_;rotate_left 4;(repeat (first|exact Put.hd|(refine Put.tl (L' := ?_) ?_;rotate_left)));(solve|exact Nat.le_of_ble_eq_true rfl|decide|(simp only [List.size_toArray, nums_length];first|assumption|omega)|(simp only [List.size_toArray, nums_length, List.length_set];first|assumption|omega)|simp|omega|(simp only [List.size_toArray, nums_length];omega)|assumption);(solve|(simp only [List.setIfInBounds_toArray];exact rfl)|exact nums_set _ _ _ _|simp only [List.setIfInBounds_toArray, List.set_cons_zero]|simp only [List.setIfInBounds_toArray, List.set_cons_zero, List.set_cons_succ]|(simp only [List.setIfInBounds_toArray, List.set_cons_zero, List.set_cons_succ];exact rfl)|exact rfl);(with_reducible first|exact one2)));(try clear K);(try clear ww);intro ww K;(try simp [go_sem] at K)))
      refine wm_held _ [(true, 0), (true, 1), (true, 2), (true, 3), (true, 5), (true, 6), (true, 7), (true, 8), (true, 10), (true, 11), (true, 12), (true, 13), (false, 4), (false, 9), (false, 14), (true, 15), (false, 16), (true, 17)] K (List.Sublist.cons_cons _ (List.Sublist.cons_cons _ (List.Sublist.cons_cons _ (List.Sublist.cons_cons _ (List.Sublist.cons_cons _ (List.Sublist.cons_cons _ sbk1)))))) (by kernel_rfl) (by kernel_rfl) ?_; (try clear K); (try clear ww); intro ww K; (try simp [go_sem] at K); simp only [pick, List.getElem?_toArray, List.getElem?_cons_succ, List.getElem?_cons_zero]
      repeat (first|(((with_reducible refine ht_load ?_);first|(refine hm_load (cs := ?_) (t := ?_) (n := ?_) rfl _ _ rfl rfl ?_ ?_ ?_ ?_;rotate_left 2;(repeat (first|exact At.hd|refine At.tl ?_));rotate_left;(with_reducible first|exact row26|exact row34|exact row98);(solve|exact rfl|simp))|(refine hm_own (cs := ?_) (t := ?_) (v := ?_) rfl _ _ rfl rfl ?_ ?_ ?_ ?_;rotate_left 2;(repeat (first|exact At.hd|refine At.tl ?_));rotate_left;(first|exact rfl|assumption);(with_reducible first|exact one2))|(refine hm_cell (v := ?_) rfl _ _ rfl rfl (fun ww K => ?_) ?_ ?_;rotate_left;(first|assumption|exact (K.below.cell (by assumption)).trans (by assumption));(with_reducible first|exact one2)));(try simp only [Act.put]);(try go_simp))|(refine held_take (fun K' hK' => ?_);go_simp;first|(refine hK' _ ?_;clear hK' K')|(apply Exists.intro;refine ⟨?_, hK' _ ?_⟩;(intro _ _;rfl);clear hK' K'))|((with_reducible refine ht_store ?_);first|(refine hm_store (L' := ?_) (cs := ?_) (t := ?_) (n := ?_) K rfl _ _ _ rfl rfl rfl rfl ?_ ?_ ?_ ?_ ?_ ?_;rotate_left 3;(repeat (first|exact Put.hd|(refine Put.tl (L' := ?_) ?_;rotate_left)));rotate_left;(with_reducible first|exact row26|exact row34|exact row98);(solve|exact rfl|simp);(solve|exact rfl|simp);(solve|exact rfl|simp [Ones, Value.oneCell']);(try clear K);(try clear ww);intro ww K;(try simp [go_sem] at K);refine ⟨(by apply via (List.Sublist.cons_cons _ (List.Sublist.cons_cons _ (List.Sublist.cons_cons _ (List.Sublist.cons_cons _ (List.Sublist.cons_cons _ (List.Sublist.cons_cons _ sbk1))))));first|exact K|exact K.weak wk1|exact K.weak wk2|exact K.weak wk3|exact K.tail|exact K.tail.weak wk1|exact K.tail.weak wk2|exact K.tail.weak wk3), ?_⟩)|(refine hm_put (L' := ?_) (cs := ?_) (new := ?_) (t := ?_) K rfl _ _ _ rfl rfl rfl rfl ?_ ?_ ?_ ?_ rfl rfl ?_;rotate_left 4;(repeat (first|exact Put.hd|(refine Put.tl (L' := ?_) ?_;rotate_left)));(solve|exact Nat.le_of_ble_eq_true rfl|decide|(simp only [List.size_toArray, nums_length];first|assumption|omega)|(simp only [List.size_toArray, nums_length, List.length_set];first|assumption|omega)|simp|omega|(simp only [List.size_toArray, nums_length];omega)|assumption);(solve|(simp only [List.setIfInBounds_toArray];exact rfl)|exact nums_set _ _ _ _|simp only [List.setIfInBounds_toArray, List.set_cons_zero]|simp only [List.setIfInBounds_toArray, List.set_cons_zero, List.set_cons_succ]|(simp only [List.setIfInBounds_toArray, List.set_cons_zero, List.set_cons_succ];exact rfl)|exact rfl);(with_reducible first|exact one2);(try clear K);(try clear ww);intro ww K;(try simp [go_sem] at K);refine ⟨(by apply via (List.Sublist.cons_cons _ (List.Sublist.cons_cons _ (List.Sublist.cons_cons _ (List.Sublist.cons_cons _ (List.Sublist.cons_cons _ (List.Sublist.cons_cons _ sbk1))))));first|exact K|exact K.weak wk1|exact K.weak wk2|exact K.weak wk3|exact K.tail|exact K.tail.weak wk1|exact K.tail.weak wk2|exact K.tail.weak wk3), ?_⟩))|(refine held_do (fun K' hK' => ?_);go_simp;go_at_call 58;(with_reducible refine (C1.out _).mono ?_);rintro e w2 ⟨rfl, k1⟩;replace K := K.step k1;clear k1;(try clear ww);revert w2;intro ww K;(try dsimp only);refine hK' _ _ (by apply via (List.Sublist.cons_cons _ (List.Sublist.cons_cons _ (List.Sublist.cons_cons _ (List.Sublist.cons_cons _ (List.Sublist.cons_cons _ (List.Sublist.cons_cons _ sbk1))))));first|exact K|exact K.weak wk1|exact K.weak wk2|exact K.weak wk3|exact K.tail|exact K.tail.weak wk1|exact K.tail.weak wk2|exact K.tail.weak wk3) ?_;clear hK' K')|(refine held_do (fun K' hK' => ?_);go_simp;go_at_call 58;(with_reducible refine (C2.out _).mono ?_);rintro e w2 ⟨rfl, k1⟩;replace K := K.step k1;clear k1;(try clear ww);revert w2;intro ww K;(try dsimp only);refine hK' _ _ (by apply via (List.Sublist.cons_cons _ (List.Sublist.cons_cons _ (List.Sublist.cons_cons _ (List.Sublist.cons_cons _ (List.Sublist.cons_cons _ (List.Sublist.cons_cons _ sbk1))))));first|exact K|exact K.weak wk1|exact K.weak wk2|exact K.weak wk3|exact K.tail|exact K.tail.weak wk1|exact K.tail.weak wk2|exact K.tail.weak wk3) ?_;clear hK' K')|(refine held_do (fun K' hK' => ?_);go_simp;go_at_call 58;(with_reducible refine (C3.out _).mono ?_);rintro e w2 ⟨rfl, k1⟩;replace K := K.step k1;clear k1;(try clear ww);revert w2;intro ww K;(try dsimp only);refine hK' _ _ (by apply via (List.Sublist.cons_cons _ (List.Sublist.cons_cons _ (List.Sublist.cons_cons _ (List.Sublist.cons_cons _ (List.Sublist.cons_cons _ (List.Sublist.cons_cons _ sbk1))))));first|exact K|exact K.weak wk1|exact K.weak wk2|exact K.weak wk3|exact K.tail|exact K.tail.weak wk1|exact K.tail.weak wk2|exact K.tail.weak wk3) ?_;clear hK' K'))
      refine held_nil ?_
      go_wp2_with (first|go_big_skip|((with_reducible refine at_load ?_);first|(refine wm_load (cs := ?_) (t := ?_) (n := ?_) K rfl _ _ rfl rfl ?_ ?_ ?_ ?_;rotate_left 2;(repeat (first|exact At.hd|refine At.tl ?_));rotate_left;(with_reducible first|exact row26|exact row34|exact row98);(solve|exact rfl|simp))|(refine wm_own (cs := ?_) (t := ?_) (v := ?_) K rfl _ _ rfl rfl ?_ ?_ ?_ ?_;rotate_left 2;(repeat (first|exact At.hd|refine At.tl ?_));rotate_left;(first|exact rfl|assumption);(with_reducible first|exact one2))|(refine wm_cell (v := ?_) rfl _ _ rfl rfl ?_ ?_ ?_;rotate_left;(first|assumption|exact (K.below.cell (by assumption)).trans (by assumption));(with_reducible first|exact one2)))|((with_reducible refine at_store ?_);(first|(refine wm_store (L' := ?_) (cs := ?_) (t := ?_) (n := ?_) K rfl _ _ _ rfl rfl rfl rfl ?_ ?_ ?_ ?_ ?_ ?_;rotate_left 3;(repeat (first|exact Put.hd|(refine Put.tl (L' := ?_) ?_;rotate_left)));rotate_left;(with_reducible first|exact row26|exact row34|exact row98);(solve|exact rfl|simp);(solve|exact rfl|simp);(solve|exact rfl|simp [Ones, Value.oneCell']))|(refine wm_put (L' := ?_) (cs := ?_) (new := ?_) (t := ?_) K rfl _ _ _ rfl rfl rfl rfl ?_ ?_ ?_ ?_ rfl rfl ?_;rotate_left 4;(repeat (first|exact Put.hd|(refine Put.tl (L' := ?_) ?_;rotate_left)));(solve|exact Nat.le_of_ble_eq_true rfl|decide|(simp only [List.size_toArray, nums_length];first|assumption|omega)|(simp only [List.size_toArray, nums_length, List.length_set];first|assumption|omega)|simp|omega|(simp only [List.size_toArray, nums_length];omega)|assumption);(solve|(simp only [List.setIfInBounds_toArray];exact rfl)|exact nums_set _ _ _ _|simp only [List.setIfInBounds_toArray, List.set_cons_zero]|simp only [List.setIfInBounds_toArray, List.set_cons_zero, List.set_cons_succ]|(simp only [List.setIfInBounds_toArray, List.set_cons_zero, List.set_cons_succ];exact rfl)|exact rfl);(with_reducible first|exact one2)));(try clear K);(try clear ww);intro ww K;(try simp [go_sem] at K)))
      exact retM1 (K.weak fun _ h => h.2) firm_any rfl hB K.fact.1 (fun w' K' => ⟨_, K'.res2 rfl _ rfl (.tl (.tl (.tl (.tl (.tl (.tl (.tl .hd))))))) (by (with_reducible first|exact row26|exact row34|exact row98)) (by (solve|exact rfl|simp)) rfl, rfl, K'.below⟩)
  case stop =>
    intro D c W _ h _
    exact h.elim
end Go.Proofs.Ytpejoaefnnbghaa
namespace Go.Proofs.Ytpejoaefnnbghaa
open Go.RowKit
attribute [local irreducible] wpHeld wpTree wpList
set_option linter.unusedVariables false
def xx15 (zs : List Int) (p : Nat) : Int := vary15 (isum zs) (sm zs p 2 0) (sm zs p 1 0) (sm zs p 1 0)
def xy15 (zs : List Int) (p : Nat) : Int := vary15 (isum zs) (sm zs p 1 1) (sm zs p 1 0) (sm zs p 0 1)
def yy15 (zs : List Int) (p : Nat) : Int := vary15 (isum zs) (sm zs p 0 2) (sm zs p 0 1) (sm zs p 0 1)
theorem vary_top {n P a : Int} (h : 0 < n) (P1 : P ≤ 3969 * n) (a0 : 0 ≤ a) : vary15 n P a a ≤ 260112384 := by
  have h1 := (vary_is (P := P) (a := a) (b := a) h).1
  have h2 := Int.mul_nonneg a0 a0
  have h3 := Int.mul_le_mul_of_nonneg_left P1 (Int.le_of_lt h)
  have h4 : n * (3969 * n) = 3969 * (n * n) := by grind
  have h5 := Int.mul_pos h h
  rw [h4] at h3
  generalize vary15 n P a a = v at *
  generalize n * n = m at *
  have h6 : m * v ≤ m * 260112384 := by omega
  exact Int.le_of_mul_le_mul_left h6 h5
theorem Gr.xx_bd {p q : Nat} {zs : List Int} (G : Gr p q zs) (hs : 0 < isum zs) : 0 ≤ xx15 zs p ∧ xx15 zs p ≤ 260112384 :=
  ⟨vary_pos hs G.cau_x, vary_top hs (G.sm_bd (a := 2) (b := 0) (by omega)).2 G.mean_x.1⟩
theorem Gr.yy_bd {p q : Nat} {zs : List Int} (G : Gr p q zs) (hs : 0 < isum zs) : 0 ≤ yy15 zs p ∧ yy15 zs p ≤ 260112384 :=
  ⟨vary_pos hs G.cau_y, vary_top hs (G.sm_bd (a := 0) (b := 2) (by omega)).2 G.mean_y.1⟩
def und26 (xx yy S : Int) : Int := rq ((xx + yy) * (S * S)) 65536 1
def sureN (xx yy S : Int) : Nat := csq (und26 xx yy S).toNat
theorem z_bd {xx yy S : Int} (hx : 0 ≤ xx ∧ xx ≤ 260112384) (hy : 0 ≤ yy ∧ yy ≤ 260112384) (hS : 0 ≤ S ∧ S ≤ 4096) : (0 ≤ S * S ∧ S * S ≤ 16777216) ∧ 0 ≤ (xx + yy) * (S * S) ∧ (xx + yy) * (S * S) ≤ 8727923306070016 := by
  have h1 := Int.mul_nonneg hS.1 hS.1
  have h2 := Int.mul_le_mul hS.2 hS.2 hS.1 (by omega)
  have h3 := Int.mul_le_mul (show xx + yy ≤ 520224768 by omega) (show S * S ≤ 16777216 by omega) h1 (by omega)
  exact ⟨⟨h1, by omega⟩, Int.mul_nonneg (by omega) h1, by omega⟩
theorem und_bd {xx yy S : Int} (hx : 0 ≤ xx ∧ xx ≤ 260112384) (hy : 0 ≤ yy ∧ yy ≤ 260112384) (hS : 0 ≤ S ∧ S ≤ 4096) : 0 ≤ und26 xx yy S ∧ und26 xx yy S ≤ 133177541444 := by
  have h := (z_bd hx hy hS).2
  unfold und26
  rw [rq_up _ _ (by omega)]
  generalize (xx + yy) * (S * S) = z at *
  omega
theorem wrapN {r : Nat} (h : r ≤ 4611686018427387904) : wrap64 r = r ∧ IntKind.i64.wrap r = r := wrapI rfl (by omega) (by omega)
theorem wrapU {r : Nat} (h : r ≤ 4611686018427387904) : IntKind.u64.wrap (r : Int) = r := IntWalk.u64_in _ (by omega)
theorem csq_small {x : Nat} (hx : x < 1152921504606846976) : csq x ≤ 1073741824 := by
  have := isq_small hx
  unfold csq; split <;> omega
set_option maxRecDepth 100000 in
set_option maxHeartbeats 2000000 in
theorem Sure26 (p q : Nat) (H X Y S : Int) (A : Option Addr) (n c : Nat) (zs : List Int) (w : World) (hG : Gr p q zs) (hl : zs.length = n) (h : Rd w A n (ints .i64 zs)) (hs : 0 < isum zs) (hS : 0 ≤ S ∧ S ≤ 4096) :
    Calls Try.prog 45 #[.agg #[.int .i64 p, .int .i64 H, .int .i64 X, .int .i64 Y, .int .i64 S, .slice A n c]] w fun e w' => e = .returned (.tuple #[.int .i64 (sureN (xx15 zs p) (yy15 zs p) S), .bool true]) ∧ Below w.heap.size w w' := by
  have K := St.start w
  have VV : Hid (∀ (w : World), Rd w A n (ints .i64 zs) → Calls Try.prog 16 #[.agg #[.int .i64 p, .int .i64 H, .int .i64 X, .int .i64 Y, .int .i64 S, .slice A n c]] w fun e w' => e = .returned (.tuple #[.agg #[.int .i64 (xx15 zs p), .int .i64 (xy15 zs p), .int .i64 (yy15 zs p)], .bool true]) ∧ Below w.heap.size w w') := Lib.hid (fun w h => by
    have h := Vary15 p q H X Y S A n c zs w hG hl h
    unfold varyV at h
    rwa [if_neg (by omega)] at h)
  have HR := Lib.hid h
  have bx := hG.xx_bd hs
  have by' := hG.yy_bd hs
  have bz := z_bd bx by' hS
  have bu := und_bd bx by' hS
  have ss : sureN (xx15 zs p) (yy15 zs p) S = csq (und26 (xx15 zs p) (yy15 zs p) S).toNat := rfl
  generalize xx15 zs p = xx at *
  generalize xy15 zs p = xy at *
  generalize yy15 zs p = yy at *
  have MD : Hid (∀ w, Calls Try.prog 57 #[.int .i64 (xx + yy), .int .i64 (S * S), .int .i64 65536, .int .i64 1] w fun e w' => e = .returned (.tuple #[.int .i64 (und26 xx yy S), .int .i64 0]) ∧ Below w.heap.size w w') := Lib.hid (fun w => by
    have := MulDiv_any (xx + yy) (S * S) 65536 1 w (by omega) (by omega) (by omega) (by omega) (by omega) (by omega)
    rw [divM_fit (by decide) (by rw [fits64_iff]; unfold und26 at bu; omega)] at this
    exact this)
  obtain ⟨u, hu⟩ : ∃ u : Nat, und26 xx yy S = u := ⟨(und26 xx yy S).toNat, by omega⟩
  rw [hu] at MD bu ss
  rw [show ((u : Int)).toNat = u from rfl] at ss
  rw [ss]
  have hu2 : u < 1152921504606846976 := by omega
  have CC := Lib.hid (fun w => Ceil26 u w hu2)
  have hc := csq_small hu2
  generalize csq u = r at *
  obtain ⟨t, ht⟩ : ∃ t, xx + yy = t := ⟨_, rfl⟩
  obtain ⟨g, hg⟩ : ∃ g, S * S = g := ⟨_, rfl⟩
  rw [ht, hg] at MD
  rw [ht, hg] at bz
  obtain ⟨e1, f1⟩ := wrapI ht (by omega) (by omega)
  obtain ⟨e2, f2⟩ := wrapI hg (by omega) (by omega)
  have e3 : IntKind.u64.wrap (u : Int) = u := IntWalk.u64_in _ (by omega)
  obtain ⟨e4, f4⟩ := wrapI (a := (r : Int)) (b := r) rfl (by omega) (by omega)
  clear hG hl h hs hS bx by' bz bu ss hu hu2 hc ht hg
  go_enter Try.func45, Try.ntmps45
  go_wp2_with (first|go_big_skip|((with_reducible refine at_load ?_);first|(refine wm_load (cs := ?_) (t := ?_) (n := ?_) K rfl _ _ rfl rfl ?_ ?_ ?_ ?_;rotate_left 2;(repeat (first|exact At.hd|refine At.tl ?_));rotate_left;(with_reducible first|exact row26|exact row34);(solve|(with_reducible exact wI_size _)|(with_reducible exact numA_size _ _)|(with_reducible exact bitsA_size _)|(with_reducible exact numI_size _)|exact rfl|simp))|(refine wm_own (cs := ?_) (t := ?_) (v := ?_) K rfl _ _ rfl rfl ?_ ?_ ?_ ?_;rotate_left 2;(repeat (first|exact At.hd|refine At.tl ?_));rotate_left;(first|(with_reducible exact wI_hi _)|(with_reducible exact wI_lo _)|(with_reducible exact numA_sign _ _)|(with_reducible exact numA_get _ _ _ (by omega))|(with_reducible exact bitsA_get _ _ (by omega))|exact rfl|assumption);(with_reducible first|exact one2))|(refine wm_cell (v := ?_) rfl _ _ rfl rfl ?_ ?_ ?_;rotate_left;(first|assumption|exact (K.below.cell (by assumption)).trans (by assumption));(with_reducible first|exact one2)))|((with_reducible refine at_store ?_);(first|(refine wm_store (L' := ?_) (cs := ?_) (t := ?_) (n := ?_) K rfl _ _ _ rfl rfl rfl rfl ?_ ?_ ?_ ?_ ?_ ?_;rotate_left 3;(repeat (first|exact Put.hd|(refine Put.tl (L' := ?_) ?_;rotate_left)));rotate_left;(with_reducible first|exact row26|exact row34);(solve|(with_reducible exact wI_size _)|(with_reducible exact numA_size _ _)|(with_reducible exact bitsA_size _)|(with_reducible exact numI_size _)|exact rfl|simp);(solve|(with_reducible exact wI_size _)|(with_reducible exact numA_size _ _)|(with_reducible exact bitsA_size _)|(with_reducible exact numI_size _)|exact rfl|simp);(solve|(with_reducible exact wI_ones _)|(with_reducible exact nOnes _ _)|(with_reducible exact bOnes _)|(with_reducible exact iOnes _)|exact rfl|simp [Ones, Value.oneCell']))|(refine wm_put (L' := ?_) (cs := ?_) (new := ?_) (t := ?_) K rfl _ _ _ rfl rfl rfl rfl ?_ ?_ ?_ ?_ rfl rfl ?_;rotate_left 4;(repeat (first|exact Put.hd|(refine Put.tl (L' := ?_) ?_;rotate_left)));(solve|exact Nat.le_of_ble_eq_true rfl|(rw [numA_size];omega)|(rw [bitsA_size];omega)|(rw [Array.size_setIfInBounds, numA_size];omega)|decide|(simp only [List.size_toArray, nums_length];first|assumption|omega)|(simp only [List.size_toArray, nums_length, List.length_set];first|assumption|omega)|simp|omega|(simp only [List.size_toArray, nums_length];omega)|assumption);(solve|(simp only [List.setIfInBounds_toArray];exact rfl)|exact numA_setSign _ _ _|exact bset_zero _ _ _|exact bset_one|exact qset _ _ (by omega)|exact nums_set _ _ _ _|simp only [List.setIfInBounds_toArray, List.set_cons_zero]|simp only [List.setIfInBounds_toArray, List.set_cons_zero, List.set_cons_succ]|(simp only [List.setIfInBounds_toArray, List.set_cons_zero, List.set_cons_succ];exact rfl)|exact rfl);(with_reducible first|exact one2)));(try clear K);(try clear ww);intro ww K;(try simp [go_sem] at K))|((first|((with_reducible refine at_box ?_);refine wm_box K rfl _ _ rfl rfl rfl ?_)|((with_reducible refine at_alloc ?_);refine wm_alloc (v := ?_) (cs := ?_) K rfl _ rfl ?_ ?_ ?_;rotate_left;(with_reducible first|(with_reducible exact z0N)|(with_reducible exact z0B)|exact zero34);rotate_left;exact rfl));(try clear K);(try clear ww);(first|((fail_if_success (have _h := b1));intro b1 ww K)|((fail_if_success (have _h := b4));intro b4 ww K));(try simp [go_sem, Value.cells] at K))|(go_at_call 16;(with_reducible refine (VV.out _ (HR.out.below K.below)).mono ?_);rintro e w2 ⟨rfl, k1⟩;replace K := K.step k1;clear k1;(try clear ww);revert w2;intro ww K)|(go_at_call 57;(with_reducible refine (MD.out _).mono ?_);rintro e w2 ⟨rfl, k1⟩;replace K := K.step k1;clear k1;(try clear ww);revert w2;intro ww K)|(go_at_call 87;(with_reducible refine (CC.out _).mono ?_);rintro e w2 ⟨rfl, k1⟩;replace K := K.step k1;clear k1;(try clear ww);revert w2;intro ww K))
  go_ret2
  exact ⟨rfl, K.below⟩
set_option maxRecDepth 100000 in
set_option maxHeartbeats 2000000 in
theorem RSure26 (xx yy S : Int) (w : World) (bx : 0 ≤ xx ∧ xx ≤ 260112384) (by' : 0 ≤ yy ∧ yy ≤ 260112384) (hS : 0 ≤ S ∧ S ≤ 4096) :
    Calls Try.prog 46 #[.int .i64 xx, .int .i64 yy, .int .i64 S] w fun e w' => e = .returned (.int .i64 (sureN xx yy S)) ∧ Below w.heap.size w w' := by
  have K := St.start w
  have bz := z_bd bx by' hS
  have bu := und_bd bx by' hS
  have ss : sureN xx yy S = csq (und26 xx yy S).toNat := rfl
  have MM := Lib.hid (fun w => Mul_any (xx + yy) (S * S) w (by omega) (by omega) (by omega) (by omega))
  have DD : Hid (∀ w, Calls Try.prog 88 #[.agg (numI ((xx + yy) * (S * S))), .int .i64 65536, .int .i64 1] w fun e w' => e = .returned (.tuple #[.int .i64 (und26 xx yy S), .int .i64 0]) ∧ Below w.heap.size w w') := Lib.hid (fun w => by
    have := RDiv_any ((xx + yy) * (S * S)) 65536 1 w (by omega) (by omega) (by omega)
    rw [divM_fit (by decide) (by rw [fits64_iff]; unfold und26 at bu; omega)] at this
    exact this)
  obtain ⟨u, hu⟩ : ∃ u : Nat, und26 xx yy S = u := ⟨(und26 xx yy S).toNat, by omega⟩
  rw [hu] at DD bu ss
  rw [show ((u : Int)).toNat = u from rfl] at ss
  obtain ⟨rv, hrv⟩ : ∃ rv, sureN xx yy S = rv := ⟨_, rfl⟩
  rw [hrv]
  rw [hrv] at ss
  have hu2 : u < 1152921504606846976 := by omega
  have FF := Lib.hid (fun w => RFloor26 u w hu2)
  have hr := isq_small hu2
  unfold csq at ss
  generalize isq u = r at *
  have e4 := wrapN (Nat.le_trans (Nat.le_of_lt hr) (by decide))
  have e7 := wrapN (Nat.le_trans (show r + 1 ≤ 1073741824 from hr) (by decide))
  have e3 := wrapU (Nat.le_trans (Nat.le_of_lt hu2) (by decide))
  have e6 : IntKind.u64.wrap ((r : Int) + 1) = ((r + 1 : Nat) : Int) := wrapU (Nat.le_trans (show r + 1 ≤ 1073741824 from hr) (by decide))
  have e5 : IntKind.u64.wrap ((r : Int) * r) = ((r * r : Nat) : Int) := wrapU (Nat.le_trans (Nat.mul_le_mul (Nat.le_of_lt hr) (Nat.le_of_lt hr)) (by decide))
  generalize (xx + yy) * (S * S) = zz at *
  obtain ⟨t, ht⟩ : ∃ t, xx + yy = t := ⟨_, rfl⟩
  obtain ⟨g, hg⟩ : ∃ g, S * S = g := ⟨_, rfl⟩
  rw [ht, hg] at MM
  rw [hg] at bz
  obtain ⟨e1, f1⟩ := wrapI ht (by clear e3 e4 e5 e6 e7; omega) (by clear e3 e4 e5 e6 e7; omega)
  obtain ⟨e2, f2⟩ := wrapI hg (by clear e1 f1 e3 e4 e5 e6 e7; omega) (by clear e1 f1 e3 e4 e5 e6 e7; omega)
  obtain ⟨sq, hsq2⟩ : ∃ sq, r * r = sq := ⟨_, rfl⟩
  rw [hsq2] at e5 ss
  obtain ⟨e4, f4⟩ := e4
  obtain ⟨e7, f7⟩ := e7
  clear hS bx by' bz bu hu hu2 hr ht hg hsq2 hrv
  by_cases h : sq < u
  · rw [if_pos h] at ss
    have t1 : decide ((sq : Int) < u) = true := decide_eq_true (Int.ofNat_lt.2 h)
    have t1b : decide (sq < u) = true := decide_eq_true h
    subst ss
    generalize r + 1 = r2 at *
    go_enter Try.func46, Try.ntmps46
    go_wp2_with (first|go_big_skip|((with_reducible refine at_load ?_);first|(refine wm_load (cs := ?_) (t := ?_) (n := ?_) K rfl _ _ rfl rfl ?_ ?_ ?_ ?_;rotate_left 2;(repeat (first|exact At.hd|refine At.tl ?_));rotate_left;(with_reducible first|exact row26|exact row34);(solve|(with_reducible exact wI_size _)|(with_reducible exact numA_size _ _)|(with_reducible exact bitsA_size _)|(with_reducible exact numI_size _)|exact rfl|simp))|(refine wm_own (cs := ?_) (t := ?_) (v := ?_) K rfl _ _ rfl rfl ?_ ?_ ?_ ?_;rotate_left 2;(repeat (first|exact At.hd|refine At.tl ?_));rotate_left;(first|(with_reducible exact wI_hi _)|(with_reducible exact wI_lo _)|(with_reducible exact numA_sign _ _)|(with_reducible exact numA_get _ _ _ (by omega))|(with_reducible exact bitsA_get _ _ (by omega))|exact rfl|assumption);(with_reducible first|exact one2))|(refine wm_cell (v := ?_) rfl _ _ rfl rfl ?_ ?_ ?_;rotate_left;(first|assumption|exact (K.below.cell (by assumption)).trans (by assumption));(with_reducible first|exact one2)))|((with_reducible refine at_store ?_);(first|(refine wm_store (L' := ?_) (cs := ?_) (t := ?_) (n := ?_) K rfl _ _ _ rfl rfl rfl rfl ?_ ?_ ?_ ?_ ?_ ?_;rotate_left 3;(repeat (first|exact Put.hd|(refine Put.tl (L' := ?_) ?_;rotate_left)));rotate_left;(with_reducible first|exact row26|exact row34);(solve|(with_reducible exact wI_size _)|(with_reducible exact numA_size _ _)|(with_reducible exact bitsA_size _)|(with_reducible exact numI_size _)|exact rfl|simp);(solve|(with_reducible exact wI_size _)|(with_reducible exact numA_size _ _)|(with_reducible exact bitsA_size _)|(with_reducible exact numI_size _)|exact rfl|simp);(solve|(with_reducible exact wI_ones _)|(with_reducible exact nOnes _ _)|(with_reducible exact bOnes _)|(with_reducible exact iOnes _)|exact rfl|simp [Ones, Value.oneCell']))|(refine wm_put (L' := ?_) (cs := ?_) (new := ?_) (t := ?_) K rfl _ _ _ rfl rfl rfl rfl ?_ ?_ ?_ ?_ rfl rfl ?_;rotate_left 4;(repeat (first|exact Put.hd|(refine Put.tl (L' := ?_) ?_;rotate_left)));(solve|exact Nat.le_of_ble_eq_true rfl|(rw [numA_size];omega)|(rw [bitsA_size];omega)|(rw [Array.size_setIfInBounds, numA_size];omega)|decide|(simp only [List.size_toArray, nums_length];first|assumption|omega)|(simp only [List.size_toArray, nums_length, List.length_set];first|assumption|omega)|simp|omega|(simp only [List.size_toArray, nums_length];omega)|assumption);(solve|(simp only [List.setIfInBounds_toArray];exact rfl)|exact numA_setSign _ _ _|exact bset_zero _ _ _|exact bset_one|exact qset _ _ (by omega)|exact nums_set _ _ _ _|simp only [List.setIfInBounds_toArray, List.set_cons_zero]|simp only [List.setIfInBounds_toArray, List.set_cons_zero, List.set_cons_succ]|(simp only [List.setIfInBounds_toArray, List.set_cons_zero, List.set_cons_succ];exact rfl)|exact rfl);(with_reducible first|exact one2)));(try clear K);(try clear ww);intro ww K;(try simp [go_sem] at K))|((first|((with_reducible refine at_box ?_);refine wm_box K rfl _ _ rfl rfl rfl ?_)|((with_reducible refine at_alloc ?_);refine wm_alloc (v := ?_) (cs := ?_) K rfl _ rfl ?_ ?_ ?_;rotate_left;(with_reducible first|(with_reducible exact z0N)|(with_reducible exact z0B)|exact zero34);rotate_left;exact rfl));(try clear K);(try clear ww);((fail_if_success (have _h := b9));intro b9 ww K);(try simp [go_sem, Value.cells] at K))|(go_at_call 31;(with_reducible refine (MM.out _).mono ?_);rintro e w2 ⟨rfl, k1⟩;replace K := K.step k1;clear k1;(try clear ww);revert w2;intro ww K)|(go_at_call 88;(with_reducible refine (DD.out _).mono ?_);rintro e w2 ⟨rfl, k1⟩;replace K := K.step k1;clear k1;(try clear ww);revert w2;intro ww K)|(go_at_call 89;(with_reducible refine (FF.out _).mono ?_);rintro e w2 ⟨rfl, k1⟩;replace K := K.step k1;clear k1;(try clear ww);revert w2;intro ww K))
    go_ret
    exact ⟨rfl, K.below⟩
  · rw [if_neg h] at ss
    have t1 : decide ((sq : Int) < u) = false := decide_eq_false fun h2 => h (Int.ofNat_lt.1 h2)
    have t1b : decide (sq < u) = false := decide_eq_false h
    subst ss
    go_enter Try.func46, Try.ntmps46
    go_wp2_with (first|go_big_skip|((with_reducible refine at_load ?_);first|(refine wm_load (cs := ?_) (t := ?_) (n := ?_) K rfl _ _ rfl rfl ?_ ?_ ?_ ?_;rotate_left 2;(repeat (first|exact At.hd|refine At.tl ?_));rotate_left;(with_reducible first|exact row26|exact row34);(solve|(with_reducible exact wI_size _)|(with_reducible exact numA_size _ _)|(with_reducible exact bitsA_size _)|(with_reducible exact numI_size _)|exact rfl|simp))|(refine wm_own (cs := ?_) (t := ?_) (v := ?_) K rfl _ _ rfl rfl ?_ ?_ ?_ ?_;rotate_left 2;(repeat (first|exact At.hd|refine At.tl ?_));rotate_left;(first|(with_reducible exact wI_hi _)|(with_reducible exact wI_lo _)|(with_reducible exact numA_sign _ _)|(with_reducible exact numA_get _ _ _ (by omega))|(with_reducible exact bitsA_get _ _ (by omega))|exact rfl|assumption);(with_reducible first|exact one2))|(refine wm_cell (v := ?_) rfl _ _ rfl rfl ?_ ?_ ?_;rotate_left;(first|assumption|exact (K.below.cell (by assumption)).trans (by assumption));(with_reducible first|exact one2)))|((with_reducible refine at_store ?_);(first|(refine wm_store (L' := ?_) (cs := ?_) (t := ?_) (n := ?_) K rfl _ _ _ rfl rfl rfl rfl ?_ ?_ ?_ ?_ ?_ ?_;rotate_left 3;(repeat (first|exact Put.hd|(refine Put.tl (L' := ?_) ?_;rotate_left)));rotate_left;(with_reducible first|exact row26|exact row34);(solve|(with_reducible exact wI_size _)|(with_reducible exact numA_size _ _)|(with_reducible exact bitsA_size _)|(with_reducible exact numI_size _)|exact rfl|simp);(solve|(with_reducible exact wI_size _)|(with_reducible exact numA_size _ _)|(with_reducible exact bitsA_size _)|(with_reducible exact numI_size _)|exact rfl|simp);(solve|(with_reducible exact wI_ones _)|(with_reducible exact nOnes _ _)|(with_reducible exact bOnes _)|(with_reducible exact iOnes _)|exact rfl|simp [Ones, Value.oneCell']))|(refine wm_put (L' := ?_) (cs := ?_) (new := ?_) (t := ?_) K rfl _ _ _ rfl rfl rfl rfl ?_ ?_ ?_ ?_ rfl rfl ?_;rotate_left 4;(repeat (first|exact Put.hd|(refine Put.tl (L' := ?_) ?_;rotate_left)));(solve|exact Nat.le_of_ble_eq_true rfl|(rw [numA_size];omega)|(rw [bitsA_size];omega)|(rw [Array.size_setIfInBounds, numA_size];omega)|decide|(simp only [List.size_toArray, nums_length];first|assumption|omega)|(simp only [List.size_toArray, nums_length, List.length_set];first|assumption|omega)|simp|omega|(simp only [List.size_toArray, nums_length];omega)|assumption);(solve|(simp only [List.setIfInBounds_toArray];exact rfl)|exact numA_setSign _ _ _|exact bset_zero _ _ _|exact bset_one|exact qset _ _ (by omega)|exact nums_set _ _ _ _|simp only [List.setIfInBounds_toArray, List.set_cons_zero]|simp only [List.setIfInBounds_toArray, List.set_cons_zero, List.set_cons_succ]|(simp only [List.setIfInBounds_toArray, List.set_cons_zero, List.set_cons_succ];exact rfl)|exact rfl);(with_reducible first|exact one2)));(try clear K);(try clear ww);intro ww K;(try simp [go_sem] at K))|((first|((with_reducible refine at_box ?_);refine wm_box K rfl _ _ rfl rfl rfl ?_)|((with_reducible refine at_alloc ?_);refine wm_alloc (v := ?_) (cs := ?_) K rfl _ rfl ?_ ?_ ?_;rotate_left;(with_reducible first|(with_reducible exact z0N)|(with_reducible exact z0B)|exact zero34);rotate_left;exact rfl));(try clear K);(try clear ww);((fail_if_success (have _h := b9));intro b9 ww K);(try simp [go_sem, Value.cells] at K))|(go_at_call 31;(with_reducible refine (MM.out _).mono ?_);rintro e w2 ⟨rfl, k1⟩;replace K := K.step k1;clear k1;(try clear ww);revert w2;intro ww K)|(go_at_call 88;(with_reducible refine (DD.out _).mono ?_);rintro e w2 ⟨rfl, k1⟩;replace K := K.step k1;clear k1;(try clear ww);revert w2;intro ww K)|(go_at_call 89;(with_reducible refine (FF.out _).mono ?_);rintro e w2 ⟨rfl, k1⟩;replace K := K.step k1;clear k1;(try clear ww);revert w2;intro ww K))
    go_ret
    exact ⟨rfl, K.below⟩
end Go.Proofs.Ytpejoaefnnbghaa
