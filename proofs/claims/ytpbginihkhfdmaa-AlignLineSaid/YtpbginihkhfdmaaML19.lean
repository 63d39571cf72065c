/-
  Lemmas and walks of this claim (the texts Lf35 Lb35 Ll35 of the work; what no proof here uses is left out). No claim of their own.
-/
import Derived.Test.YtpbginihkhfdmaaML18
import Derived.Test.YtpbginihkhfdmaaML5
import Derived.ProofKit
import Derived.Deep.Slices
import Derived.Deep.Fields
import Derived.ChangeSame
import Derived.ChangeOld
set_option linter.all false
set_option linter.unusedSimpArgs false
set_option linter.unusedVariables false
namespace Go.Proofs.Ytpbginihkhfdmaa
open Go.RowKit
attribute [local irreducible] wpHeld wpTree wpList
set_option linter.unusedVariables false
theorem wf_u32p {a : Int} (h : (Lit.int .u32 a).wf = true) : 0 ≤ a ∧ a < 4294967296 := by
  unfold Lit.wf at h
  simp [IntKind.min, IntKind.max, IntKind.bits, IntKind.signed] at h
  omega
section
variable {B : Nat} {w0 w w' : World} {F : World → Prop}
end
end Go.Proofs.Ytpbginihkhfdmaa
namespace Go.Proofs.Ytpbginihkhfdmaa
open Go.RowKit
attribute [local irreducible] wpHeld wpTree wpList
set_option linter.unusedVariables false
theorem rq_zero (d : Int) : rq 0 d 2 = 0 := by
  unfold rq qMag
  simp [upB, wv]
theorem at_self {l : List Pt} {hold : Int} {i : Nat} (hr : Rise l) (h0 : 0 ≤ hold) (hi : i < l.length) : at35 l hold (ptAt l i).1 = ((ptAt l i).2, 0) := by
  have hle : (ptAt l 0).1 ≤ (ptAt l i).1 := by
    by_cases e : i = 0
    · rw [e]; exact Int.le_refl _
    · exact Int.le_of_lt (hr.up 0 i (by omega) hi)
  by_cases e : i = l.length - 1
  · unfold at35
    rw [if_neg (by omega), ← e, if_pos (Int.le_refl _), if_neg (by omega)]
  · have hlast := hr.up i (l.length - 1) (by omega) (by omega)
    have hnext := hr.up i (i + 1) (by omega) (by omega)
    rw [(at_mid (k := i + 1) hle (by omega) (fun j hj => by
      by_cases e : j = i
      · rw [e]; exact Int.le_refl _
      · exact Int.le_of_lt (hr.up j i (by omega) hi)) hnext hlast).1, prev_succ]
    unfold mid35
    have h1 := hr.ok i hi
    have h2 := hr.ok (i + 1) (by omega)
    obtain ⟨_, _, a1, a2⟩ := h1
    obtain ⟨_, _, b1, b2⟩ := h2
    rw [divM_part (by omega) (by omega) (by omega) (by omega) (by omega), Int.sub_self, Int.mul_zero, rq_zero, Int.add_zero]
end Go.Proofs.Ytpbginihkhfdmaa
namespace Go.Proofs.Ytpbginihkhfdmaa
open Go.RowKit
attribute [local irreducible] wpHeld wpTree wpList
set_option linter.unusedVariables false
theorem add_all {P : Pt → Prop} {l : List Pt} {p : Pt} (h : ∀ i, i < l.length → P (ptAt l i)) (hp : P p) : ∀ i, i < (add35 l p).length → P (ptAt (add35 l p) i) := by
  unfold add35
  by_cases hm : may35 l p = true
  · rw [if_pos hm]
    have key : ∀ (q : List Pt), (∀ i, i < q.length → P (ptAt q i)) → ∀ i, i < (q ++ [p]).length → P (ptAt (q ++ [p]) i) := fun q hq i hi => by
      have e : (q ++ [p]).length = q.length + 1 := by simp
      by_cases hz : i < q.length
      · rw [ptAt_app hz]; exact hq i hz
      · obtain rfl : i = q.length := by omega
        rw [ptAt_last]; exact hp
    split
    · exact key l h
    · exact key _ fun i hi => by
        have e : (l.drop 1).length = l.length - 1 := List.length_drop
        rw [ptAt_drop]; exact h _ (by omega)
  · rw [if_neg hm]; exact h
theorem mk_all {P : Pt → Prop} {ps : List Pt} (h : ∀ i, i < ps.length → P (ptAt ps i)) : ∀ k, k ≤ ps.length → ∀ i, i < (mk35 ps k).length → P (ptAt (mk35 ps k) i)
  | 0, _ => fun i hi => by simp [mk35] at hi
  | k + 1, hk => add_all (mk_all h k (by omega)) (h k (by omega))
theorem rq_exact {q d : Int} (d0 : 0 < d) : rq (q * d) d 2 = q := by
  have hd : 0 < d.natAbs := by omega
  have e1 : qMag (q * d) d 2 = q.natAbs := by
    unfold qMag
    rw [Int.natAbs_mul, Nat.mul_div_cancel _ hd, Nat.mul_mod_left]
    simp [upB]
  unfold rq
  rw [e1, decide_eq_false (p := d < 0) (by omega)]
  unfold wv
  by_cases hq : q < 0
  · rw [decide_eq_true (p := q * d < 0) (Int.mul_neg_of_neg_of_pos hq d0)]
    simp; omega
  · rw [decide_eq_false (p := q * d < 0) (by have := Int.mul_nonneg (a := q) (b := d) (by omega) (by omega); omega)]
    simp; omega
theorem divM_exact {q d : Int} (d0 : 0 < d) (q0 : -9223372036854775808 ≤ q) (q1 : q ≤ 9223372036854775807) : (divM (q * d) d 2).1 = q := by
  rw [divM_fit (by unfold badB; simp; omega) ((fits64_iff _).2 (by rw [rq_exact d0]; exact ⟨q0, q1⟩)), rq_exact d0]
def OnL (x s : Int) (p : Pt) : Prop := p.2 = x + s * p.1 ∧ 0 ≤ p.1 ∧ p.1 ≤ 4000000
theorem mid_line {x s t : Int} {a p : Pt} (ha : OnL x s a) (hp : OnL x s p) (h : a.1 < p.1) (h1 : a.1 ≤ t) (h2 : t ≤ p.1) (s0 : -32768 ≤ s) (s1 : s ≤ 32767) : mid35 a p t = x + s * t := by
  unfold mid35
  rw [ha.1, hp.1]
  have e : (x + s * p.1 - (x + s * a.1)) * (t - a.1) = (s * (t - a.1)) * (p.1 - a.1) := by
    have : x + s * p.1 - (x + s * a.1) = s * (p.1 - a.1) := by rw [Int.mul_sub]; omega
    rw [this, Int.mul_assoc, Int.mul_assoc, Int.mul_comm (p.1 - a.1)]
  obtain ⟨_, a0, a1⟩ := ha
  obtain ⟨_, p0, p1⟩ := hp
  have hb : -131072000000 ≤ s * (t - a.1) ∧ s * (t - a.1) ≤ 131072000000 := by
    have hk : 0 ≤ t - a.1 := by omega
    have hk2 : t - a.1 ≤ 4000000 := by omega
    generalize t - a.1 = k at *
    constructor
    · have := Int.mul_le_mul_of_nonneg_right s0 hk; omega
    · have := Int.mul_le_mul_of_nonneg_right s1 hk; omega
  rw [e, divM_exact (by omega) (by omega) (by omega), Int.mul_sub]
  omega
theorem at_line {x s hold t : Int} {l : List Pt} (hr : Rise l) (hl : ∀ i, i < l.length → OnL x s (ptAt l i)) (h0 : 0 ≤ hold) (hn : 0 < l.length) (h1 : (ptAt l 0).1 ≤ t) (h2 : t ≤ (ptAt l (l.length - 1)).1) (s0 : -32768 ≤ s) (s1 : s ≤ 32767) : at35 l hold t = (x + s * t, 0) := by
  by_cases e : t = (ptAt l (l.length - 1)).1
  · have := at_self hr h0 (i := l.length - 1) (by omega)
    rw [← e] at this
    rw [this, (hl (l.length - 1) (by omega)).1, ← e]
  · have hlast : t < (ptAt l (l.length - 1)).1 := by omega
    obtain ⟨k1, k2, k3⟩ := kof_spec h1 l.length hn (Nat.le_refl _) (fun j h1 h2 => by omega)
    obtain ⟨k, hk⟩ : ∃ k, kof l t l.length = k := ⟨_, rfl⟩
    rw [hk] at k1 k2 k3
    have hk2 : k + 1 < l.length := by
      rcases Nat.lt_or_ge (k + 1) l.length with h | h
      · exact h
      · have e : k = l.length - 1 := by omega
        rw [e] at k2
        omega
    rw [(at_mid (hold := hold) (k := k + 1) h1 hk2 (fun j hj => by
      by_cases e : j = k
      · rw [e]; exact k2
      · have := hr.up j k (by omega) (by omega); omega) (k3 _ (by omega) hk2) hlast).1, prev_succ]
    rw [mid_line (hl k (by omega)) (hl (k + 1) hk2) (hr.up k (k + 1) (by omega) hk2) k2 (Int.le_of_lt (k3 _ (by omega) hk2)) s0 s1]
theorem rate_line {x s : Int} {l : List Pt} (hr : Rise l) (hl : ∀ i, i < l.length → OnL x s (ptAt l i)) (hn : 2 ≤ l.length) (s0 : -32768 ≤ s) (s1 : s ≤ 32767) : rate35 l = (1000 * s, 0) := by
  unfold rate35
  rw [if_neg (by omega), (hl 0 (by omega)).1, (hl (l.length - 1) (by omega)).1]
  have hu := hr.up 0 (l.length - 1) (by omega) (by omega)
  generalize (ptAt l 0).1 = a at *
  generalize (ptAt l (l.length - 1)).1 = b at *
  have e : (x + s * b - (x + s * a)) * 1000 = (1000 * s) * (b - a) := by
    have : x + s * b - (x + s * a) = s * (b - a) := by rw [Int.mul_sub]; omega
    rw [this, Int.mul_comm (s * (b - a)), Int.mul_assoc]
  rw [e, divM_exact (by omega) (by omega) (by omega)]
theorem wf_i32p {a : Int} (h : (Lit.int .i32 a).wf = true) : -2147483648 ≤ a ∧ a ≤ 2147483647 := by
  unfold Lit.wf at h
  simp [IntKind.min, IntKind.max, IntKind.bits, IntKind.signed] at h
  omega
theorem wf_i16p {a : Int} (h : (Lit.int .i16 a).wf = true) : -32768 ≤ a ∧ a ≤ 32767 := by
  unfold Lit.wf at h
  simp [IntKind.min, IntKind.max, IntKind.bits, IntKind.signed] at h
  omega
theorem wf_u16p {a : Int} (h : (Lit.int .u16 a).wf = true) : 0 ≤ a ∧ a ≤ 65535 := by
  unfold Lit.wf at h
  simp [IntKind.min, IntKind.max, IntKind.bits, IntKind.signed] at h
  omega
theorem getD_memP {l : List Int} {i : Nat} (h : i < l.length) : l.getD i 0 ∈ l := by
  have e : l[i]? = some (l.getD i 0) := by simp [List.getD, h]
  exact List.mem_of_getElem? e
set_option maxRecDepth 100000 in
set_option maxHeartbeats 4000000 in
theorem walk_AlignLine (x s : Int) (A : Option Addr) (n c : Nat) (zs0 : List Int) (t : Int) (w : World) (w0 : (Lit.int .i32 x).wf = true) (w1 : (Lit.int .i16 s).wf = true) (w2 : IsRow .u16 w A n c zs0) (w3 : (Lit.int .u32 t).wf = true) :
    Calls Try.prog 5 #[.int .i32 x, .int .i16 s, .slice A n c, .int .u32 t] w fun e w' => e = .returned (.bool true) ∧ Below w.heap.size w w' := by
  have K := St.start w
  have hx := wf_i32p w0
  have hs := wf_i16p w1
  have ht := wf_u32p w3
  obtain ⟨zs, hz, hr, hln⟩ := w2.rdI
  have hzs : ∀ z ∈ zs, 0 ≤ z ∧ z ≤ 65535 := fun z hm => wf_u16p (hz z hm)
  have WK := Lib.hid works35_any
  clear w0 w1 w2 w3 hz
  by_cases c0 : 60 < n
  · have t0 : decide (60 < (n : Int)) = true := decide_eq_true (by omega)
    have t0n : decide (60 < n) = true := decide_eq_true c0
    clear hr hzs
    go_enter Try.func5, Try.ntmps5
    go_wp2_with (first | (go_at_call 7; (with_reducible refine (WK.out _).mono ?_); rintro e w2 ⟨rfl, k1⟩; replace K := K.step k1; clear k1; (try clear ww); revert w2; intro ww K))
    go_ret
    exact ⟨rfl, K.below⟩
  have t0 : decide (60 < (n : Int)) = false := decide_eq_false (by omega)
  have t0n : decide (60 < n) = false := decide_eq_false c0
  have HR := Lib.hid hr
  have HZ := Lib.hid hzs
  have hzl : zs.length = n := by rw [← hr.1, ints_len]
  clear hr hzs
  go_enter Try.func5, Try.ntmps5
  go_wp2_with (fail)
  go_loopw [9, 10, 11] (fun v u i wr => ∃ (k : Nat) (Lo : List Blk) (ps : List Pt) (T : Int), k ≤ n ∧ i = .int .i64 k ∧ u = .int .u32 T ∧ Hid ((0 ≤ T ∧ T ≤ k * 65536) ∧ ps.length = k ∧ ∀ i, i < ps.length → OnL x s (ptAt ps i)) ∧ OwnP v 33 k (ptsV ps) Lo ∧ St w.heap.size w Lo Any wr) (fun _ _ i _ => n - (intOf i).toNat)
  case atStart => exact ⟨0, [], [], 0, Nat.zero_le _, rfl, rfl, Lib.hid ⟨by omega, rfl, fun i hi => by simp at hi⟩, OwnP.nil _, K⟩
  case round =>
    clear K
    obtain ⟨i, Lo, ps, T, hi, rfl, rfl, HI, hO, K⟩ := hrel
    obtain ⟨A1, c1, hv⟩ := hO.val
    by_cases hlt : i < n
    · have ht1 : decide ((i : Int) < n) = true := decide_eq_true (by omega)
      have ht2 : decide (i < n) = true := decide_eq_true hlt
      obtain ⟨b, off, rfl, hb, hc⟩ := HR.out.get hlt
      have hv1 := hc i _ (ints_get .u16 zs i (by omega))
      have hzi := HZ.out _ (getD_memP (l := zs) (i := i) (by omega))
      generalize zs.getD i 0 = z at *
      obtain ⟨⟨T0, T1⟩, hpl, hon⟩ := HI.out
      obtain ⟨T2, hT2⟩ : ∃ T2, T + z + 1 = T2 := ⟨_, rfl⟩
      have hT3 : 0 ≤ T2 ∧ T2 ≤ 4000000 := by omega
      obtain ⟨m, hm⟩ : ∃ m, s * T2 = m := ⟨_, rfl⟩
      have hmb : -131072000000 ≤ m ∧ m ≤ 131072000000 := by
        rw [← hm]
        constructor
        · have := Int.mul_le_mul_of_nonneg_right hs.1 hT3.1; omega
        · have := Int.mul_le_mul_of_nonneg_right hs.2 hT3.1; omega
      have HI2 : Hid ((0 ≤ T2 ∧ T2 ≤ (i + 1 : Nat) * 65536) ∧ (ps ++ [(T2, x + m)]).length = i + 1 ∧ ∀ j, j < (ps ++ [(T2, x + m)]).length → OnL x s (ptAt (ps ++ [(T2, x + m)]) j)) := Lib.hid ⟨by omega, by simp [hpl], fun j hj => by
        by_cases hq : j < ps.length
        · rw [ptAt_app hq]; exact hon j hq
        · obtain rfl : j = ps.length := by simp at hj; omega
          rw [ptAt_last]; exact ⟨by rw [hm], hT3⟩⟩
      have HS := Lib.hid (ptsV_snoc ps (T2, x + m))
      have b1h : Hid (IntKind.u32.wrap (T + z) = T + z) := Lib.hid (IntWalk.u32_in _ (by omega))
      have b2h : Hid (IntKind.u32.wrap (T + z + 1) = T2) := Lib.hid ((IntWalk.u32_in _ (by omega)).trans hT2)
      have b3h : Hid (IntKind.i64.wrap x = x) := Lib.hid (IntWalk.i64_in _ (by omega))
      have b4h : Hid (IntKind.i64.wrap s = s) := Lib.hid (IntWalk.i64_in _ (by omega))
      have b5h : Hid (IntKind.i64.wrap T2 = T2) := Lib.hid (IntWalk.i64_in _ (by omega))
      have b6h : Hid (IntKind.i64.wrap (s * T2) = m) := Lib.hid ((IntWalk.i64_in _ (by omega)).trans hm)
      have b7h : Hid (IntKind.i64.wrap (x + m) = x + m) := Lib.hid (IntWalk.i64_in _ (by omega))
      have b8h : Hid (IntKind.u32.wrap z = z) := Lib.hid (IntWalk.u32_in _ (by omega))
      clear T0 T1 hpl hon hT2 hT3 hm hmb hzi hc hx hs ht
      have b1 := b1h.out
      have b2 := b2h.out
      have b3 := b3h.out
      have b4 := b4h.out
      have b5 := b5h.out
      have b6 := b6h.out
      have b7 := b7h.out
      have b8 := b8h.out
      subst hv
      go_wp2_with (first|((with_reducible refine at_load ?_);first|(refine wm_own (cs := ?_) (t := ?_) (v := ?_) K rfl _ _ rfl rfl ?_ ?_ ?_ ?_;rotate_left 2;(repeat (first|exact At.hd|refine At.tl ?_));rotate_left;(first|exact rfl|assumption);(with_reducible first|exact one22|exact one55))|(refine wm_cell (v := ?_) rfl _ _ rfl rfl ?_ ?_ ?_;rotate_left;(first|assumption|exact (K.below.cell (by assumption)).trans (by assumption));(with_reducible first|exact one22|exact one55)))|((with_reducible refine at_bsl ?_);refine wm_oneP K rfl _ _ rfl Try.underlying23 infoPt rfl rfl ?_;(try clear K);(try clear ww);intro bb ww K;(try simp [go_sem] at K))|((with_reducible refine at_app ?_);refine wm_appP K .nil rfl _ _ _ rfl Try.underlying23 infoPt rfl rfl hO rfl rfl rfl (by omega) (by unfold maxLen;omega) ?_;(try clear K hO);(try clear ww);intro v ww LL hO K))
      exact ⟨⟨i + 1, _, _, T2, by omega, by go_num, rfl, HI2, by rw [HS.out]; exact hO, K⟩, by simp [intOf]; omega⟩
    · obtain rfl : n = i := by omega
      have ht1 : decide ((n : Int) < n) = false := decide_eq_false (by omega)
      have ht2 : decide (n < n) = false := decide_eq_false (by omega)
      obtain ⟨⟨T0, T1⟩, hpl, hon⟩ := HI.out
      obtain ⟨A2, c2, rfl, hA0, K2⟩ := OwnP.fix (L0 := []) K hO
      clear K hO hv
      have K := K2
      clear K2 T0 T1 HI
      go_wp2_with (fail)
      have hp : ∀ i, i < ps.length → 0 ≤ (ptAt ps i).1 ∧ (ptAt ps i).1 < 4294967296 := fun i hi => by have := hon i hi; exact ⟨this.2.1, by have := this.2.2; omega⟩
      (with_reducible refine (made35 A2 n c2 ps 0 _ K.fact.1 hp (by decide) (by omega)).mono ?_)
      rintro e W ⟨g, A', n', c', cs, fr, nn, rfl, hn', hR, hT, hg, ⟨hxx, hA⟩, hbel⟩
      have hBW := below_step K.below hbel K.size
      have hSW := Nat.le_trans K.size hbel.size
      have HQ := mk_rise hp n (by omega)
      have HO := mk_all (P := OnL x s) hon n (by omega)
      have h16 := HQ.len
      clear K hbel hA hg hp hon hA0
      have K := St.start W
      have hl' : n' ≤ 16 := by omega
      have HT := Lib.hid hT
      have HX := Lib.hid hxx
      by_cases h2 : n' < 2
      · have t1 : decide ((n' : Int) < 2) = true := decide_eq_true (by omega)
        have t1n : decide (n' < 2) = true := decide_eq_true h2
        clear hn' hR hxx hT HQ HO h16
        go_wp2_with (first|((with_reducible refine at_load ?_);first|(refine wm_own (cs := ?_) (t := ?_) (v := ?_) K rfl _ _ rfl rfl ?_ ?_ ?_ ?_;rotate_left 2;(repeat (first|exact At.hd|refine At.tl ?_));rotate_left;(first|exact rfl|assumption);(with_reducible first|exact one22|exact one55))|(refine wm_cell (v := ?_) rfl _ _ rfl rfl ?_ ?_ ?_;rotate_left;(first|assumption|exact (K.below.cell (by assumption)).trans (by assumption));(with_reducible first|exact one22|exact one55)))|(go_at_call 7;(with_reducible refine (WK.out _).mono ?_);rintro e w2 ⟨rfl, k1⟩;replace K := K.step k1;clear k1;(try clear ww);revert w2;intro ww K))
        go_ret
        exact ⟨rfl, below_step hBW K.below hSW⟩
      have t1 : decide ((n' : Int) < 2) = false := decide_eq_false (by omega)
      have t1n : decide (n' < 2) = false := decide_eq_false h2
      obtain ⟨i, hi2⟩ : ∃ i, n' - 1 = i := ⟨_, rfl⟩
      have hii : (mk35 ps n).length - 1 = i := by omega
      have hn0 : 0 < n' := by omega
      have hn0I : (0 : Int) < n' := by omega
      have hin : i < n' := by omega
      have hinI : (i : Int) < n' := by omega
      obtain ⟨T0, hT0⟩ : ∃ T0, (ptAt (mk35 ps n) 0).1 = T0 := ⟨_, rfl⟩
      obtain ⟨T1, hT1⟩ : ∃ T1, (ptAt (mk35 ps n) i).1 = T1 := ⟨_, rfl⟩
      obtain ⟨b, off, rfl, hb, hw1, -, -⟩ := RdP HX.out hn0 hT0 rfl
      have hv1 : W.cell? ⟨b, off, none⟩ = some (.int .u32 T0) := by simpa using hw1
      obtain ⟨b3, off3, hA3, -, hw3, -, -⟩ := RdP HX.out hin hT1 rfl
      cases hA3
      have o0 := HO 0 (by omega)
      have o1 := HO i (by omega)
      have hup := HQ.up 0 i (by omega) (by omega)
      rw [hT0, hT1] at hup
      have p1 := o0.2.1
      have p2 := o0.2.2
      have q1 := o1.2.1
      have q2 := o1.2.2
      rw [hT0] at p1 p2
      rw [hT1] at q1 q2
      obtain ⟨d, hd⟩ : ∃ d, T1 - T0 = d := ⟨_, rfl⟩
      obtain ⟨e, he⟩ : ∃ e, d + 1 = e := ⟨_, rfl⟩
      obtain ⟨r, hrr⟩ : ∃ r, t.tmod e = r := ⟨_, rfl⟩
      have hr1 : 0 ≤ r ∧ r ≤ d := by
        have h1 : t.tmod e = t % e := Int.tmod_eq_emod_of_nonneg ht.1
        have h2 := Int.emod_nonneg t (b := e) (by omega)
        have h3 := Int.emod_lt_of_pos t (b := e) (by omega)
        omega
      obtain ⟨q, hq⟩ : ∃ q, T0 + r = q := ⟨_, rfl⟩
      have hqb : 0 ≤ q ∧ q ≤ 4000000 := by omega
      obtain ⟨m, hm⟩ : ∃ m, s * q = m := ⟨_, rfl⟩
      have hmb : -131072000000 ≤ m ∧ m ≤ 131072000000 := by
        rw [← hm]
        constructor
        · have := Int.mul_le_mul_of_nonneg_right hs.1 hqb.1; omega
        · have := Int.mul_le_mul_of_nonneg_right hs.2 hqb.1; omega
      have AT := Lib.hid (fun (w : World) (h : Trk w g (trkA cs fr nn 0)) => At35 g cs _ fr nn 0 q w h hR HQ (by omega) (by omega) (by decide) (by decide))
      rw [at_line (x := x) (s := s) HQ HO (by decide) (by omega) (by rw [hT0]; omega) (by rw [hii, hT1]; omega) hs.1 hs.2, hm] at AT
      have RT := Lib.hid (fun (w : World) (h : Trk w g (trkA cs fr nn 0)) => Rate35 g cs _ fr nn 0 w h hR HQ)
      rw [rate_line (x := x) (s := s) HQ HO (by omega) hs.1 hs.2] at RT
      obtain ⟨m2, hm2⟩ : ∃ m2, 1000 * s = m2 := ⟨_, rfl⟩
      rw [hm2] at RT
      have a1h : Hid (IntKind.i64.wrap ((n' : Int) - 1) = (i : Int)) := Lib.hid ((IntWalk.i64_in _ (by omega)).trans (by omega))
      have a2h : Hid (IntKind.u32.wrap (T1 - T0) = d) := Lib.hid ((IntWalk.u32_in _ (by omega)).trans hd)
      have a3h : Hid (IntKind.u32.wrap (d + 1) = e) := Lib.hid ((IntWalk.u32_in _ (by omega)).trans he)
      have a4h : Hid (t.tmod e = r) := Lib.hid hrr
      have a5h : Hid (IntKind.u32.wrap r = r) := Lib.hid (IntWalk.u32_in _ (by omega))
      have a6h : Hid (IntKind.u32.wrap (T0 + r) = q) := Lib.hid ((IntWalk.u32_in _ (by omega)).trans hq)
      have b3h : Hid (IntKind.i64.wrap x = x) := Lib.hid (IntWalk.i64_in _ (by omega))
      have b4h : Hid (IntKind.i64.wrap s = s) := Lib.hid (IntWalk.i64_in _ (by omega))
      have b5h : Hid (IntKind.i64.wrap q = q) := Lib.hid (IntWalk.i64_in _ (by omega))
      have b6h : Hid (IntKind.i64.wrap (s * q) = m) := Lib.hid ((IntWalk.i64_in _ (by omega)).trans hm)
      have b7h : Hid (IntKind.i64.wrap (x + m) = x + m) := Lib.hid (IntWalk.i64_in _ (by omega))
      have b8h : Hid (IntKind.i64.wrap (1000 * s) = m2) := Lib.hid ((IntWalk.i64_in _ (by omega)).trans hm2)
      have e0 : e ≠ 0 := by omega
      have e0b : (e == 0) = false := by simp; omega
      have e0d : decide (e = 0) = false := decide_eq_false e0
      clear hn' hR hxx hT HQ HO h16 h2 hi2 hii hT0 hT1 hw1 o0 o1 hup p1 p2 q1 q2 hd he hrr hr1 hq hqb hm hmb hm2 ht hx hs
      have a1 := a1h.out
      have a2 := a2h.out
      have a3 := a3h.out
      have a4 := a4h.out
      have a5 := a5h.out
      have a6 := a6h.out
      have b3 := b3h.out
      have b4 := b4h.out
      have b5 := b5h.out
      have b6 := b6h.out
      have b7 := b7h.out
      have b8 := b8h.out
      go_wp2_with (first|((with_reducible refine at_load ?_);first|(refine wm_own (cs := ?_) (t := ?_) (v := ?_) K rfl _ _ rfl rfl ?_ ?_ ?_ ?_;rotate_left 2;(repeat (first|exact At.hd|refine At.tl ?_));rotate_left;(first|exact rfl|assumption);(with_reducible first|exact one22|exact one55))|(refine wm_cell (v := ?_) rfl _ _ rfl rfl ?_ ?_ ?_;rotate_left;(first|assumption|exact (K.below.cell (by assumption)).trans (by assumption));(with_reducible first|exact one22|exact one55))))
      refine wm_held _ [(true, 0), (true, 1), (true, 2), (true, 3), (true, 4), (true, 5), (true, 6), (true, 7), (true, 8), (true, 9), (true, 10), (true, 11), (true, 12), (true, 13), (true, 14), (true, 15), (true, 16), (true, 17), (true, 18), (true, 19)] K sbr (by kernel_rfl) (by kernel_rfl) ?_; (try clear K); (try clear ww); intro ww K; (try simp [go_sem] at K); simp only [pick, List.getElem?_toArray, List.getElem?_cons_succ, List.getElem?_cons_zero]
      repeat (first|((with_reducible refine ht_load ?_);first|(refine hm_own (cs := ?_) (t := ?_) (v := ?_) rfl _ _ rfl rfl ?_ ?_ ?_ ?_;rotate_left 2;(repeat (first|exact At.hd|refine At.tl ?_));rotate_left;(first|exact rfl|assumption);(with_reducible first|exact one22|exact one55))|(refine hm_cell (v := ?_) rfl _ _ rfl rfl (fun ww K => ?_) ?_ ?_;rotate_left;(first|assumption|exact (K.below.cell (by assumption)).trans (by assumption));(with_reducible first|exact one22|exact one55)))|(refine held_take (fun K' hK' => ?_);go_simp;first|(refine hK' _ ?_;clear hK' K')|(apply Exists.intro;refine ⟨?_, hK' _ ?_⟩;(intro _ _;rfl);clear hK' K'))|((with_reducible refine ht_store ?_);first|(refine hm_put (L' := ?_) (cs := ?_) (new := ?_) (t := ?_) K rfl _ _ _ rfl rfl rfl rfl ?_ ?_ ?_ ?_ rfl rfl ?_;rotate_left 4;(repeat (first|exact Put.hd|(refine Put.tl (L' := ?_) ?_;rotate_left)));(solve|exact Nat.le_of_ble_eq_true rfl|decide|(simp only [List.size_toArray, nums_length];first|assumption|omega)|(simp only [List.size_toArray, nums_length, List.length_set];first|assumption|omega)|simp|omega|(simp only [List.size_toArray, nums_length];omega)|assumption);(solve|(simp only [List.setIfInBounds_toArray];exact rfl)|exact nums_set _ _ _ _|simp only [List.setIfInBounds_toArray, List.set_cons_zero]|simp only [List.setIfInBounds_toArray, List.set_cons_zero, List.set_cons_succ]|(simp only [List.setIfInBounds_toArray, List.set_cons_zero, List.set_cons_succ];exact rfl)|exact rfl);(with_reducible first|exact one22|exact one55);(try clear K);(try clear ww);intro ww K;(try simp [go_sem] at K);refine ⟨(by apply via sbr;first|exact K|exact K.weak wk1|exact K.weak wk2|exact K.weak wk3|exact K.weak wk4|exact K.weak wk5|exact K.tail|exact K.tail.weak wk1|exact K.tail.weak wk2|exact K.tail.weak wk3|exact K.tail.weak wk4|exact K.tail.weak wk5), ?_⟩)))
      refine held_nil ?_
      go_wp2_with (first|((with_reducible refine at_load ?_);first|(refine wm_own (cs := ?_) (t := ?_) (v := ?_) K rfl _ _ rfl rfl ?_ ?_ ?_ ?_;rotate_left 2;(repeat (first|exact At.hd|refine At.tl ?_));rotate_left;(first|exact rfl|assumption);(with_reducible first|exact one22|exact one55))|(refine wm_cell (v := ?_) rfl _ _ rfl rfl ?_ ?_ ?_;rotate_left;(first|assumption|exact (K.below.cell (by assumption)).trans (by assumption));(with_reducible first|exact one22|exact one55)))|(go_at_call 13;(with_reducible refine (AT.out _ (HT.out.below K.below)).mono ?_);rintro e w2 ⟨rfl, k1⟩;replace K := K.step k1;clear k1;(try clear ww);revert w2;intro ww K)|(go_at_call 15;(with_reducible refine (RT.out _ (HT.out.below K.below)).mono ?_);rintro e w2 ⟨rfl, k1⟩;replace K := K.step k1;clear k1;(try clear ww);revert w2;intro ww K)|(go_at_call 7;(with_reducible refine (WK.out _).mono ?_);rintro e w2 ⟨rfl, k1⟩;replace K := K.step k1;clear k1;(try clear ww);revert w2;intro ww K))
      go_ret
      exact ⟨rfl, below_step hBW K.below hSW⟩
end Go.Proofs.Ytpbginihkhfdmaa
