/-
  Lemmas and walks of this claim (the texts Tn35 of the work; what no proof here uses is left out). No claim of their own.
-/
import Derived.Test.YtpbginihkhfdmaaMT8
import Derived.Test.YtpbginihkhfdmaaMT17
set_option linter.all false
set_option linter.unusedSimpArgs false
set_option linter.unusedVariables false
namespace Go.Proofs.Ytpbginihkhfdmaa
open Go.RowKit
attribute [local irreducible] wpHeld wpTree wpList
attribute [local go_sem] Oper.semAt_some
set_option linter.unusedVariables false
section
variable {B : Nat} {w0 w : World} {F : World → Prop} {L : List Blk}
set_option maxRecDepth 100000 in
theorem each35 (K : St B w0 L F w) (g : Nat) :
    Calls Try.prog 23 #[.pointer (some ⟨g, 0, none⟩)] w fun e w' => ∃ b, e = .returned (.func (.func 27) #[] #[.pointer (some ⟨b, 0, none⟩)]) ∧ St B w0 ((b, #[.pointer (some ⟨g, 0, none⟩)], 67) :: L) F w' := by
  revert w
  intro ww K
  go_enter Try.func23, Try.ntmps23
  go_wp2_with (first|go_big_skip|((with_reducible refine at_load ?_);fail)|((with_reducible refine at_store ?_);fail)|((first|((with_reducible refine at_box ?_);refine wm_box K rfl _ _ rfl rfl rfl ?_)|((with_reducible refine at_alloc ?_);refine wm_alloc (v := ?_) (cs := ?_) K rfl _ rfl ?_ ?_ ?_;rotate_left;(with_reducible first|fail);rotate_left;exact rfl));(try clear K);(try clear ww);((fail_if_success (have _h := bb));intro bb ww K);(try simp [go_sem, Value.cells] at K)))
  go_ret
  exact ⟨bb, rfl, K⟩
set_option maxRecDepth 100000 in
theorem All35 (K : St B w0 L F w) (g : Nat) :
    Calls Try.prog 19 #[.pointer (some ⟨g, 0, none⟩)] w fun e w' => ∃ b, e = .returned (.func (.func 27) #[] #[.pointer (some ⟨b, 0, none⟩)]) ∧ St B w0 ((b, #[.pointer (some ⟨g, 0, none⟩)], 67) :: L) F w' := by
  revert w
  intro ww K
  go_enter Try.func19, Try.ntmps19
  go_wp2_with (first|(go_at_call 23;have zz := each35 K g;(with_reducible refine zz.mono ?_);clear zz;rintro e w2 ⟨bb, rfl, K2⟩;(try dsimp only);replace K := K2;clear K2;(try clear ww);revert w2;intro ww K))
  go_ret
  exact ⟨bb, rfl, K⟩
end
def numd (l : List Pt) : List (Nat × Pt) := (List.range l.length).map fun k => (k, ptAt l k)
theorem numd_len (l : List Pt) : (numd l).length = l.length := by simp [numd]
theorem numd_get {l : List Pt} {k : Nat} (h : k < l.length) : (numd l)[k]? = some (k, ptAt l k) := by simp [numd, h]
theorem numd_some {l : List Pt} {k : Nat} {x : Nat × Pt} (h : (numd l)[k]? = some x) : k < l.length ∧ x = (k, ptAt l k) := by
  have hk : k < l.length := by
    have := (List.getElem?_eq_some_iff.1 h).1
    rwa [numd_len] at this
  rw [numd_get hk] at h
  exact ⟨hk, (Option.some.inj h).symm⟩
def numE (x : Nat × Pt) : Array Value := #[.int .i64 x.1, .agg #[.int .u32 x.2.1, .int .i64 x.2.2]]
def EachR (g b : Nat) (cs : List Pt) (fr n : Nat) (hold : Int) (W : World) : Prop := Trk W g (trkA cs fr n hold) ∧ Trk W b #[.pointer (some ⟨g, 0, none⟩)]
set_option maxRecDepth 100000 in
set_option maxHeartbeats 2000000 in
theorem each_gives (g b : Nat) (cs l : List Pt) (fr n : Nat) (hold : Int) (hR : Ring cs fr n l) :
    Gives 8 Try.prog 27 #[.pointer (some ⟨b, 0, none⟩)] numE (numd l) (EachR g b cs fr n hold) := by
  intro lo J Jx W hJ hJx hJR hY h0
  have hl := hR.len
  have hf := hR.fr16
  have hln := hR.ln
  have hn16 := hR.n16
  have hv1 := (hJR 0 W h0).1.2 33 _ (trkA_n hl)
  have hv0 := (hJR 0 W h0).2.2 0 _ rfl
  refine callsIn_of_wp Try.func27 rfl trivial ?_
  simp only [Try.ntmps27, List.size_toArray, List.length_cons, List.length_nil, Nat.reduceAdd, Nat.reduceSub, Array.replicate_succ, Array.replicate_zero, List.push_toArray, List.append_toArray, List.nil_append, List.cons_append]
  gi_wp2
  gi_loopw [8] (fun i wr => ∃ k : Nat, k ≤ n ∧ i = .int .i64 k ∧ J k wr) (fun i _ => n - (intOf i).toNat)
  case atStart => exact ⟨0, Nat.zero_le _, rfl, h0⟩
  case round =>
    obtain ⟨k, hk, rfl, hJk⟩ := hrel
    by_cases hlt : k < n
    · have ht : decide ((k : Int) < n) = true := decide_eq_true (by omega)
      have hv2 := (hJR k wr hJk).2.2 0 _ rfl
      have GT := get35 g cs fr n k _ hold wr (hJR k wr hJk).1 hl hf (by omega) rfl
      rw [hR.get k hlt] at GT
      unfold ptV at GT
      gi_wp2
      refine ⟨trivial, (callsIn_wide.2 GT).mono ?_⟩
      rintro e w2 ⟨rfl, hb2⟩
      have hJ2 := hJ k _ _ hJk hb2
      obtain ⟨fn, tmps, assign, body, hy, hRd⟩ := hY k (k, ptAt l k) w2 (numd_get (by omega)) hJ2
      dsimp only [numE] at hy
      clear GT hv2 hb2 hJk
      gi_wp2
      refine hRd.mono ?_
      rintro e W3 (⟨rfl, hJ3⟩ | ⟨rfl, hJx3⟩)
      · gi_wp2
        go_roundw
        case rel => exact ⟨k + 1, by omega, by simp, hJ3⟩
        case measure => simp [intOf]; omega
      · gi_wp2
        refine bodyPost_ret (results_none rfl _ _ _) rfl ?_
        exact ⟨⟨_, rfl⟩, .inr hJx3⟩
    · obtain rfl : n = k := by omega
      gi_wp2
      go_end0
      exact ⟨⟨_, rfl⟩, .inl (by rw [numd_len, hln]; exact hJk)⟩
end Go.Proofs.Ytpbginihkhfdmaa
