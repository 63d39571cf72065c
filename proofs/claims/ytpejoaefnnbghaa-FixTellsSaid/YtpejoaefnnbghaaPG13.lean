/-
  Lemmas and walks of this claim (the texts Ag26 of the work; what no proof here uses is left out). No claim of their own.
-/
import Derived.Test.YtpejoaefnnbghaaPG8
import Derived.ProofKit
import Derived.OpenShut
import Derived.ChangeSame
import Derived.Lib.SmallJoins
set_option linter.all false
set_option linter.unusedSimpArgs false
set_option linter.unusedVariables false
namespace Go.Proofs.Ytpejoaefnnbghaa
open Go.ChangeShapes Go.WideShapes Go.ChangeAt Go.RowKit Go.Joins Go.Deep
set_option linter.unusedVariables false
section
variable {H : Type} {enc : TypeId × Value → H} {P : Program} {w : World} {base : Nat} {spare : Nat → Bool} {held : Bool}
theorem open_agg6 {r : Reach} {b0 : Nat} {t : TypeId} {f0 f1 f2 f3 f4 f5 : Field} {v : Value} {d : DataW H} {p : List MemPlace} (hs : P.underlying t = some (.struct #[f0, f1, f2, f3, f4, f5])) (hone : oneCellFields P #[f0, f1, f2, f3, f4, f5] = true) (hC : P.cellsOf t = 6)
    (hv : Value.okWide P w r b0 t v) (h : DataW.Trod enc P w base spare held t v d p) :
    ∃ (v0 v1 v2 v3 v4 v5 : Value) (y0 y1 y2 y3 y4 y5 : DataW H × List MemPlace) (n : Nat), v = .agg #[v0, v1, v2, v3, v4, v5] ∧ d = .agg [y0.1, y1.1, y2.1, y3.1, y4.1, y5.1] ∧ p = y0.2 ++ (y1.2 ++ (y2.2 ++ (y3.2 ++ (y4.2 ++ (y5.2))))) ∧
      DataW.trod enc P w base spare held n f0.type [v0] = some y0 ∧ DataW.trod enc P w base spare held n f1.type [v1] = some y1 ∧ DataW.trod enc P w base spare held n f2.type [v2] = some y2 ∧ DataW.trod enc P w base spare held n f3.type [v3] = some y3 ∧ DataW.trod enc P w base spare held n f4.type [v4] = some y4 ∧ DataW.trod enc P w base spare held n f5.type [v5] = some y5 := by
  obtain ⟨cs, rfl, hsz⟩ := okWide_struct hs hv
  obtain ⟨l⟩ := cs
  have hl6 : l.length = 6 := by simpa using hsz.trans hC
  obtain ⟨fuel, hf⟩ := h
  obtain ⟨xs, n, _, hx, hl, hlen, hff⟩ := DataW.trod_struct hs hf
  obtain ⟨o0, k0⟩ := hone_of hone 0 f0 rfl
  obtain ⟨o1, k1⟩ := hone_of hone 1 f1 rfl
  obtain ⟨o2, k2⟩ := hone_of hone 2 f2 rfl
  obtain ⟨o3, k3⟩ := hone_of hone 3 f3 rfl
  obtain ⟨o4, k4⟩ := hone_of hone 4 f4 rfl
  obtain ⟨o5, k5⟩ := hone_of hone 5 f5 rfl
  match l, hl6, xs, hlen with
  | [c0, c1, c2, c3, c4, c5], _, [y0, y1, y2, y3, y4, y5], _ =>
    simp only [Prod.mk.injEq] at hx
    exact ⟨c0, c1, c2, c3, c4, c5, y0, y1, y2, y3, y4, y5, n, rfl, by simpa using hx.1, by simpa using hx.2, by simpa [Value.cells, o0, k0] using hff 0 f0 rfl, by simpa [Value.cells, o1, k1] using hff 1 f1 rfl, by simpa [Value.cells, o2, k2] using hff 2 f2 rfl, by simpa [Value.cells, o3, k3] using hff 3 f3 rfl, by simpa [Value.cells, o4, k4] using hff 4 f4 rfl, by simpa [Value.cells, o5, k5] using hff 5 f5 rfl⟩
theorem shut_agg6 {t : TypeId} {f0 f1 f2 f3 f4 f5 : Field} {v0 v1 v2 v3 v4 v5 : Value} {y0 y1 y2 y3 y4 y5 : DataW H × List MemPlace} (hs : P.underlying t = some (.struct #[f0, f1, f2, f3, f4, f5])) (hone : oneCellFields P #[f0, f1, f2, f3, f4, f5] = true) (hC : P.cellsOf t = 6)
    (n : Nat) (t0 : DataW.trod enc P w base spare held n f0.type [v0] = some y0) (t1 : DataW.trod enc P w base spare held n f1.type [v1] = some y1) (t2 : DataW.trod enc P w base spare held n f2.type [v2] = some y2) (t3 : DataW.trod enc P w base spare held n f3.type [v3] = some y3) (t4 : DataW.trod enc P w base spare held n f4.type [v4] = some y4) (t5 : DataW.trod enc P w base spare held n f5.type [v5] = some y5) :
    DataW.Trod enc P w base spare held t (.agg #[v0, v1, v2, v3, v4, v5]) (.agg [y0.1, y1.1, y2.1, y3.1, y4.1, y5.1]) (y0.2 ++ (y1.2 ++ (y2.2 ++ (y3.2 ++ (y4.2 ++ (y5.2)))))) := by
  obtain ⟨o0, k0⟩ := hone_of hone 0 f0 rfl
  obtain ⟨o1, k1⟩ := hone_of hone 1 f1 rfl
  obtain ⟨o2, k2⟩ := hone_of hone 2 f2 rfl
  obtain ⟨o3, k3⟩ := hone_of hone 3 f3 rfl
  obtain ⟨o4, k4⟩ := hone_of hone 4 f4 rfl
  obtain ⟨o5, k5⟩ := hone_of hone 5 f5 rfl
  have s0 : DataW.trod enc P w base spare held n f0.type (([v0, v1, v2, v3, v4, v5] : List Value).drop f0.offset |>.take (P.cellsOf f0.type)) = some y0 := by simpa [o0, k0] using t0
  have s1 : DataW.trod enc P w base spare held n f1.type (([v0, v1, v2, v3, v4, v5] : List Value).drop f1.offset |>.take (P.cellsOf f1.type)) = some y1 := by simpa [o1, k1] using t1
  have s2 : DataW.trod enc P w base spare held n f2.type (([v0, v1, v2, v3, v4, v5] : List Value).drop f2.offset |>.take (P.cellsOf f2.type)) = some y2 := by simpa [o2, k2] using t2
  have s3 : DataW.trod enc P w base spare held n f3.type (([v0, v1, v2, v3, v4, v5] : List Value).drop f3.offset |>.take (P.cellsOf f3.type)) = some y3 := by simpa [o3, k3] using t3
  have s4 : DataW.trod enc P w base spare held n f4.type (([v0, v1, v2, v3, v4, v5] : List Value).drop f4.offset |>.take (P.cellsOf f4.type)) = some y4 := by simpa [o4, k4] using t4
  have s5 : DataW.trod enc P w base spare held n f5.type (([v0, v1, v2, v3, v4, v5] : List Value).drop f5.offset |>.take (P.cellsOf f5.type)) = some y5 := by simpa [o5, k5] using t5
  have ts := trod_struct_mk (enc := enc) (w := w) (base := base) (spare := spare) (held := held) (n := n) (cs := [v0, v1, v2, v3, v4, v5]) (xs := [y0, y1, y2, y3, y4, y5]) hs (by simp [hC]) (by simp [s0, s1, s2, s3, s4, s5])
  exact ⟨n + 1, by simpa [Value.cells] using ts⟩
end
section
variable {H : Type} {enc : TypeId × Value → H} {w : World} {base : Nat} {spare : Nat → Bool} {held : Bool}
set_option maxRecDepth 100000 in
theorem cellsFrm : Try.prog.cellsOf 76 = 6 := by kernel_rfl
set_option maxRecDepth 100000 in
theorem open_frm {r : Reach} {b0 : Nat} {v : Value} {d : DataW H} {p : List MemPlace} (hv : Value.okWide Try.prog w r b0 76 v) (h : DataW.Trod enc Try.prog w base spare held 76 v d p) :
    ∃ a0 a1 a2 a3 a4 a5 : Int, v = .agg #[.int .i64 a0, .int .u16 a1, .int .u32 a2, .int .i32 a3, .int .i32 a4, .int .i32 a5] ∧ d = .agg [.lit (.int .i64 a0), .lit (.int .u16 a1), .lit (.int .u32 a2), .lit (.int .i32 a3), .lit (.int .i32 a4), .lit (.int .i32 a5)] ∧ p = [] ∧ (Lit.int .i64 a0).wf = true ∧ (Lit.int .u16 a1).wf = true ∧ (Lit.int .u32 a2).wf = true ∧ (Lit.int .i32 a3).wf = true ∧ (Lit.int .i32 a4).wf = true ∧ (Lit.int .i32 a5).wf = true := by
  obtain ⟨c0, c1, c2, c3, c4, c5, y0, y1, y2, y3, y4, y5, m, rfl, rfl, rfl, hy0, hy1, hy2, hy3, hy4, hy5⟩ := open_agg6 Try.underlying76 (by kernel_rfl) cellsFrm hv h
  obtain ⟨a0, e0, rfl, w0⟩ := DataW.trod_int Try.underlying3 hy0
  obtain ⟨a1, e1, rfl, w1⟩ := DataW.trod_int Try.underlying72 hy1
  obtain ⟨a2, e2, rfl, w2⟩ := DataW.trod_int Try.underlying73 hy2
  obtain ⟨a3, e3, rfl, w3⟩ := DataW.trod_int Try.underlying21 hy3
  obtain ⟨a4, e4, rfl, w4⟩ := DataW.trod_int Try.underlying21 hy4
  obtain ⟨a5, e5, rfl, w5⟩ := DataW.trod_int Try.underlying21 hy5
  simp at e0 e1 e2 e3 e4 e5
  subst e0 e1 e2 e3 e4 e5
  exact ⟨a0, a1, a2, a3, a4, a5, rfl, rfl, rfl, w0, w1, w2, w3, w4, w5⟩
set_option maxRecDepth 100000 in
theorem shut_frm {a0 a1 a2 a3 a4 a5 : Int} (w0 : (Lit.int .i64 a0).wf = true) (w1 : (Lit.int .u16 a1).wf = true) (w2 : (Lit.int .u32 a2).wf = true) (w3 : (Lit.int .i32 a3).wf = true) (w4 : (Lit.int .i32 a4).wf = true) (w5 : (Lit.int .i32 a5).wf = true) : DataW.Trod enc Try.prog w base spare held 76 (.agg #[.int .i64 a0, .int .u16 a1, .int .u32 a2, .int .i32 a3, .int .i32 a4, .int .i32 a5]) (.agg [.lit (.int .i64 a0), .lit (.int .u16 a1), .lit (.int .u32 a2), .lit (.int .i32 a3), .lit (.int .i32 a4), .lit (.int .i32 a5)]) [] :=
  shut_agg6 (y0 := (.lit (.int .i64 a0), [])) (y1 := (.lit (.int .u16 a1), [])) (y2 := (.lit (.int .u32 a2), [])) (y3 := (.lit (.int .i32 a3), [])) (y4 := (.lit (.int .i32 a4), [])) (y5 := (.lit (.int .i32 a5), [])) Try.underlying76 (by kernel_rfl) cellsFrm 1 (by simp [DataW.trod, Try.underlying3, w0]) (by simp [DataW.trod, Try.underlying72, w1]) (by simp [DataW.trod, Try.underlying73, w2]) (by simp [DataW.trod, Try.underlying21, w3]) (by simp [DataW.trod, Try.underlying21, w4]) (by simp [DataW.trod, Try.underlying21, w5])
set_option maxRecDepth 100000 in
theorem cellsBs : Try.prog.cellsOf 88 = 5 := by kernel_rfl
set_option maxRecDepth 100000 in
theorem cellsB1 : Try.prog.cellsOf 4 = 1 := by kernel_rfl
set_option maxRecDepth 100000 in
theorem open_bools {r : Reach} {b0 : Nat} {v : Value} {d : DataW H} {p : List MemPlace} (hv : Value.okWide Try.prog w r b0 88 v) (h : DataW.Trod enc Try.prog w base spare held 88 v d p) :
    ∃ l0 l1 l2 l3 l4 : Bool, v = .agg #[.bool l0, .bool l1, .bool l2, .bool l3, .bool l4] ∧ d = .agg [.lit (.bool l0), .lit (.bool l1), .lit (.bool l2), .lit (.bool l3), .lit (.bool l4)] ∧ p = [] := by
  obtain ⟨cs, rfl, hsz, _⟩ : ∃ cs, v = .agg cs ∧ cs.size = Try.prog.cellsOf 88 ∧ Row.okWide Try.prog w r b0 88 cs := by simpa [Value.okWide, Try.underlying88] using hv
  rw [cellsBs] at hsz
  obtain ⟨l⟩ := cs
  have hl5 : l.length = 5 := by simpa using hsz
  obtain ⟨fuel, hf⟩ := h
  obtain ⟨xs, m, _, hx, _, hlen, hff⟩ := DataW.trod_array Try.underlying88 hf
  rw [cellsB1] at hff
  match l, hl5, xs, hlen with
  | [c0, c1, c2, c3, c4], _, [y0, y1, y2, y3, y4], _ =>
    simp only [Prod.mk.injEq] at hx
    have h0 : DataW.trod enc Try.prog w base spare held m 4 [c0] = some y0 := by simpa [Value.cells] using hff 0 (by omega)
    have h1 : DataW.trod enc Try.prog w base spare held m 4 [c1] = some y1 := by simpa [Value.cells] using hff 1 (by omega)
    have h2 : DataW.trod enc Try.prog w base spare held m 4 [c2] = some y2 := by simpa [Value.cells] using hff 2 (by omega)
    have h3 : DataW.trod enc Try.prog w base spare held m 4 [c3] = some y3 := by simpa [Value.cells] using hff 3 (by omega)
    have h4 : DataW.trod enc Try.prog w base spare held m 4 [c4] = some y4 := by simpa [Value.cells] using hff 4 (by omega)
    obtain ⟨l0, e0, rfl⟩ := DataW.trod_bool Try.underlying4 h0
    obtain ⟨l1, e1, rfl⟩ := DataW.trod_bool Try.underlying4 h1
    obtain ⟨l2, e2, rfl⟩ := DataW.trod_bool Try.underlying4 h2
    obtain ⟨l3, e3, rfl⟩ := DataW.trod_bool Try.underlying4 h3
    obtain ⟨l4, e4, rfl⟩ := DataW.trod_bool Try.underlying4 h4
    simp at e0 e1 e2 e3 e4
    subst e0 e1 e2 e3 e4
    exact ⟨l0, l1, l2, l3, l4, rfl, by simpa using hx.1, by simpa using hx.2⟩
set_option maxRecDepth 100000 in
theorem shut_bools {l0 l1 l2 l3 l4 : Bool} : DataW.Trod enc Try.prog w base spare held 88 (.agg #[.bool l0, .bool l1, .bool l2, .bool l3, .bool l4]) (.agg [.lit (.bool l0), .lit (.bool l1), .lit (.bool l2), .lit (.bool l3), .lit (.bool l4)]) [] :=
  ⟨2, by simp [DataW.trod, Value.cells, Try.underlying88, Try.underlying4, cellsBs, cellsB1, show List.range 5 = [0, 1, 2, 3, 4] from rfl]⟩
end
end Go.Proofs.Ytpejoaefnnbghaa
