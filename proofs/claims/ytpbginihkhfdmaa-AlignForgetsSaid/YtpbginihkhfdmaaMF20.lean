/-
  Lemmas and walks of this claim (the texts Lf35 of the work; what no proof here uses is left out). No claim of their own.
-/
import Derived.Test.YtpbginihkhfdmaaMF19
import Derived.Test.YtpbginihkhfdmaaMF11
set_option linter.all false
set_option linter.unusedSimpArgs false
set_option linter.unusedVariables false
namespace Go.Proofs.Ytpbginihkhfdmaa
open Go.RowKit
attribute [local irreducible] wpHeld wpTree wpList
set_option linter.unusedVariables false
theorem wf_u32p {a : Int} (h : (Lit.int .u32 a).wf = true) : 0 ≤ a ∧ a < 4294967296 := by
  unfold Lit.wf at h
  simp [IntKind.min, IntKind.max, IntKind.bits, IntKind.signed] at h
  omega
theorem recs_pts {w : World} {A : Option Addr} {n cap : Nat} (h : IsRecs [fInt .u32, fInt .i64] w A n cap) : ∃ ps : List Pt, ps.length = n ∧ Rd w A (n * 2) (ptsV ps) ∧ ∀ i, i < ps.length → 0 ≤ (ptAt ps i).1 ∧ (ptAt ps i).1 < 4294967296 := by
  have key : ∀ i, ∃ p : Pt, i < n → (0 ≤ p.1 ∧ p.1 < 4294967296) ∧ ∃ b off, A = some ⟨b, off, none⟩ ∧ b < w.heap.size ∧ w.cell? ⟨b, off + i * 2, none⟩ = some (.int .u32 p.1) ∧ w.cell? ⟨b, off + i * 2 + 1, none⟩ = some (.int .i64 p.2) := fun i => by
    by_cases hi : i < n
    · obtain ⟨b, off, hA, hb, v0, v1, ⟨c0, T, rfl, hT⟩, ⟨c1, X, rfl, hX⟩⟩ := h.get2 hi
      exact ⟨(T, X), fun _ => ⟨wf_u32p hT, b, off, hA, hb, c0, c1⟩⟩
    · exact ⟨(0, 0), fun h => absurd h hi⟩
  obtain ⟨f, hf⟩ : ∃ f : Nat → Pt, ∀ i, i < n → (0 ≤ (f i).1 ∧ (f i).1 < 4294967296) ∧ ∃ b off, A = some ⟨b, off, none⟩ ∧ b < w.heap.size ∧ w.cell? ⟨b, off + i * 2, none⟩ = some (.int .u32 (f i).1) ∧ w.cell? ⟨b, off + i * 2 + 1, none⟩ = some (.int .i64 (f i).2) :=
    ⟨fun i => Classical.choose (key i), fun i => Classical.choose_spec (key i)⟩
  have hl : ((List.range n).map f).length = n := by simp
  have hg : ∀ i, i < n → ptAt ((List.range n).map f) i = f i := fun i hi => by
    unfold ptAt
    simp [List.getD, hi]
  refine ⟨(List.range n).map f, hl, ⟨by rw [ptsV_len, hl, Nat.mul_comm], fun h0 => ?_⟩, fun i hi => by rw [hl] at hi; rw [hg i hi]; exact (hf i hi).1⟩
  have hn : 0 < n := by omega
  obtain ⟨_, b, off, hA, hb, _⟩ := hf 0 hn
  refine ⟨b, off, hA, hb, fun j u hu => ?_⟩
  have hj : j < n * 2 := by
    have := (List.getElem?_eq_some_iff.1 hu).1
    rw [ptsV_len, hl] at this
    omega
  obtain ⟨i, hi, hji⟩ : ∃ i, i < n ∧ (j = i * 2 ∨ j = i * 2 + 1) := ⟨j / 2, by omega, by omega⟩
  obtain ⟨_, b2, off2, hA2, _, c0, c1⟩ := hf i hi
  rw [hA] at hA2
  injection hA2 with hA2
  injection hA2 with e1 e2
  subst e1 e2
  have hv := ptsV_get ((List.range n).map f) i (by rw [hl]; exact hi)
  rw [hg i hi, Nat.mul_comm] at hv
  rcases hji with rfl | rfl
  · rw [hv.1] at hu; rw [← Option.some.inj hu]; exact c0
  · rw [hv.2] at hu; rw [← Option.some.inj hu, ← Nat.add_assoc]; exact c1
theorem mk_take {qs : List Pt} (h : Rise qs) : ∀ k, k ≤ qs.length → mk35 qs k = qs.take k
  | 0, _ => by simp [mk35]
  | k + 1, hk => by
    have ih := mk_take h k (by omega)
    have h16 := h.len
    have hlt : (qs.take k).length = k := by rw [List.length_take]; omega
    have hm : may35 (qs.take k) (ptAt qs k) = true := by
      have ok := h.ok k (by omega)
      refine may_iff.2 ⟨⟨ok.x0, ok.x1⟩, ?_⟩
      rw [hlt]
      by_cases hz : k = 0
      · exact .inl hz
      · right
        have e : ptAt (qs.take k) (k - 1) = ptAt qs (k - 1) := by
          unfold ptAt
          rw [List.getD_eq_getElem?_getD, List.getD_eq_getElem?_getD, List.getElem?_take_of_lt (by omega)]
        rw [e]
        exact h.up (k - 1) k (by omega) (by omega)
    show add35 (mk35 qs k) (ptAt qs k) = _
    rw [ih, take_snocP (by omega)]
    unfold add35
    rw [if_pos hm, if_pos (by rw [hlt]; omega)]
theorem mk_self {qs : List Pt} (h : Rise qs) {n : Nat} (hn : n = qs.length) : mk35 qs n = qs := by
  subst hn
  rw [mk_take h qs.length (Nat.le_refl _), List.take_length]
section
variable {B : Nat} {w0 w w' : World} {F : World → Prop}
theorem St.addTrk (K : St B w0 [] F w) {g : Nat} {cs : Array Value} (h : Trk w g cs) : St B w0 [] (fun w => Trk w g cs ∧ F w) w :=
  K.add fun w'' h1 h2 => ⟨Nat.lt_of_lt_of_le h.1 h1, fun j v hv => by
    have := h2 g h.1 (by simp)
    have e : w''.cell? ⟨g, j, none⟩ = w.cell? ⟨g, j, none⟩ := by unfold World.cell?; rw [this]
    rw [e]; exact h.2 j v hv⟩
end
set_option maxRecDepth 100000 in
set_option maxHeartbeats 4000000 in
theorem walk_AlignForgets (hold : Int) (A : Option Addr) (n c : Nat) (t : Int) (w : World) (w0 : (Lit.int .u32 hold).wf = true) (w1 : IsRecs [fInt .u32, fInt .i64] w A n c) (w2 : (Lit.int .u32 t).wf = true) :
    Calls Try.prog 6 #[.int .u32 hold, .slice A n c, .int .u32 t] w fun e w' => e = .returned (.bool true) ∧ Below w.heap.size w w' := by
  have K := St.start w
  have hh := wf_u32p w0
  have ht := wf_u32p w2
  obtain ⟨ps, hl, hr, hp⟩ := recs_pts w1
  have WK := Lib.hid works35_any
  clear w0 w1 w2
  by_cases c0 : 100 < n
  · have t0 : decide (100 < (n : Int)) = true := decide_eq_true (by omega)
    have t0n : decide (100 < n) = true := decide_eq_true c0
    clear hr hp
    go_enter Try.func6, Try.ntmps6
    go_wp2_with (first | (go_at_call 7; (with_reducible refine (WK.out _).mono ?_); rintro e w2 ⟨rfl, k1⟩; replace K := K.step k1; clear k1; (try clear ww); revert w2; intro ww K))
    go_ret
    exact ⟨rfl, K.below⟩
  have t0 : decide (100 < (n : Int)) = false := decide_eq_false (by omega)
  have t0n : decide (100 < n) = false := decide_eq_false c0
  by_cases c1 : 1048576 < hold
  · have t1 : decide (1048576 < hold) = true := decide_eq_true c1
    clear hr hp
    go_enter Try.func6, Try.ntmps6
    go_wp2_with (first | (go_at_call 7; (with_reducible refine (WK.out _).mono ?_); rintro e w2 ⟨rfl, k1⟩; replace K := K.step k1; clear k1; (try clear ww); revert w2; intro ww K))
    go_ret
    exact ⟨rfl, K.below⟩
  have t1 : decide (1048576 < hold) = false := decide_eq_false c1
  have HQ := mk_rise hp n (by omega)
  have HR := Lib.hid hr
  have HP := Lib.hid hp
  have HRise := Lib.hid HQ
  have h16 := HQ.len
  have HS := Lib.hid (fun (n' : Nat) (h : n' = (mk35 ps n).length) => mk_self HQ h)
  clear hr hp HQ
  go_enter Try.func6, Try.ntmps6
  go_wp2_with (fail)
  (with_reducible refine (made35 A n c ps hold _ (HR.out.below K.below) HP.out (by omega) (by omega)).mono ?_)
  rintro e w2 ⟨g, A', n', c', cs, fr, nn, rfl, hn', hR, hT, hg, ⟨hx, hA⟩, hbel⟩
  replace K := (K.madeRd hbel hx hA).addTrk hT
  clear hx hA hbel hT
  have HN := Lib.hid hn'
  have HG := Lib.hid hR
  have hle : n' ≤ 16 := by omega
  clear hn' hR
  generalize mk35 ps n = qs at *
  clear HP
  revert w2
  intro ww K
  go_wp2_with (fail)
  (with_reducible refine (made35 A' n' c' qs hold _ K.fact.2.1 (fun i hi => by have := HRise.out.ok i hi; exact ⟨this.t0, this.t1⟩) (by omega) (by omega)).mono ?_)
  rintro e w2 ⟨g2, A2, n2, c2, cs2, fr2, nn2, rfl, hn2, hR2, hT2, hg2, ⟨hx, hA⟩, hbel⟩
  rw [HS.out n' HN.out] at hn2 hR2 hx
  replace K := ((K.madeRd hbel hx hA).addTrk hT2).weak (G := fun w => Trk w g2 (trkA cs2 fr2 nn2 hold) ∧ Trk w g (trkA cs fr nn hold)) (fun w h => ⟨h.1, h.2.2.1⟩)
  clear hx hA hbel hT2
  have HG2 := Lib.hid hR2
  have hnn : nn = n' := by rw [HN.out]; exact HG.out.ln.symm
  have hnn2 : nn2 = n' := by rw [HN.out]; exact hR2.ln.symm
  have hn22 : n2 = n' := by rw [HN.out]; exact hn2
  subst hnn hnn2 hn22
  clear hn2 hR2
  have AT1 := Lib.hid (fun (w : World) (h : Trk w g (trkA cs fr n2 hold)) => At35 g cs qs fr n2 hold t w h HG.out HRise.out ht.1 ht.2 hh.1 (by omega))
  have AT2 := Lib.hid (fun (w : World) (h : Trk w g2 (trkA cs2 fr2 n2 hold)) => At35 g2 cs2 qs fr2 n2 hold t w h HG2.out HRise.out ht.1 ht.2 hh.1 (by omega))
  generalize (at35 qs hold t).1 = v1 at *
  generalize (at35 qs hold t).2 = v2 at *
  have LN1 := Lib.hid (fun (w : World) (h : Trk w g (trkA cs fr n2 hold)) => Len35 g cs fr n2 hold w h HG.out.len)
  have LN2 := Lib.hid (fun (w : World) (h : Trk w g2 (trkA cs2 fr2 n2 hold)) => Len35 g2 cs2 fr2 n2 hold w h HG2.out.len)
  have t5 : decide ((n2 : Int) ≤ 16) = true := decide_eq_true (by omega)
  have t5n : decide (n2 ≤ 16) = true := decide_eq_true hle
  revert w2
  intro ww K
  go_wp2_with (first|(go_at_call 13;(with_reducible refine (AT1.out _ K.fact.2).mono ?_);rintro e w2 ⟨rfl, k1⟩;replace K := K.step k1;clear k1;(try clear ww);revert w2;intro ww K)|(go_at_call 13;(with_reducible refine (AT2.out _ K.fact.1).mono ?_);rintro e w2 ⟨rfl, k1⟩;replace K := K.step k1;clear k1;(try clear ww);revert w2;intro ww K)|(go_at_call 12;(with_reducible refine (LN1.out _ K.fact.2).mono ?_);rintro e w2 ⟨rfl, k1⟩;replace K := K.step k1;clear k1;(try clear ww);revert w2;intro ww K)|(go_at_call 12;(with_reducible refine (LN2.out _ K.fact.1).mono ?_);rintro e w2 ⟨rfl, k1⟩;replace K := K.step k1;clear k1;(try clear ww);revert w2;intro ww K)|(go_at_call 7;(with_reducible refine (WK.out _).mono ?_);rintro e w2 ⟨rfl, k1⟩;replace K := K.step k1;clear k1;(try clear ww);revert w2;intro ww K))
  go_ret
  exact ⟨rfl, K.below⟩
end Go.Proofs.Ytpbginihkhfdmaa
