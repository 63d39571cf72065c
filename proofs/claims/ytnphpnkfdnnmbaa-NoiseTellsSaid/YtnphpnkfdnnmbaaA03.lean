/-
  The walk of the reference's sum of two numbers from 0 on.
-/
import Derived.Test.YtnphpnkfdnnmbaaM03
namespace Go.Proofs.Ytnphpnkfdnnmbaa
open Go.RowKit
set_option linter.unusedVariables false

def AddPost03 (v : Array Value) (ok : Bool) (w : World) (e : Ending) (w' : World) : Prop := e = .returned (.tuple #[.agg v, .bool ok]) ∧ Below w.heap.size w w'
set_option maxHeartbeats 4000000 in
set_option maxRecDepth 100000 in
/-- The sum of two numbers from 0 on. -/
theorem Add_pos (a b : Nat) (w : World) (ha : a + b < 2 ^ 127) :
    Calls Try.prog 20 #[.agg (numA false a), .agg (numA false b)] w (AddPost03 (numA false (a + b)) true w) := by
  have hzN := zeroN
  have H := Lib.hid ha
  have es : Hid ((a + b) % top = a + b) := Lib.hid (Nat.mod_eq_of_lt (by unfold top; omega))
  have hroom : Hid (room 127 ((a + b : Nat) : Int) = true) := Lib.hid (by
    unfold room; rw [decide_eq_true (by omega), decide_eq_true (by omega)]; rfl)
  have enum : Hid (numI ((a + b : Nat) : Int) = numA false (a + b)) := Lib.hid (by unfold numI; rw [decide_eq_false (by omega), Int.natAbs_natCast])
  have g2 := (((Has.new w (numA false a) 33).alloc (.cells (numA false b) 33)).alloc (.cells (numA false 0) 33)).alloc (.cells (numA false 0) 33)
  have g3 := ((Has.new (w.alloc (.cells (numA false a) 33)) (numA false b) 33).alloc (.cells (numA false 0) 33)).alloc (.cells (numA false 0) 33)
  have g4 := (Has.new ((w.alloc (.cells (numA false a) 33)).alloc (.cells (numA false b) 33)) (numA false 0) 33).alloc (.cells (numA false 0) 33)
  have g6 := Has.new (((w.alloc (.cells (numA false a) 33)).alloc (.cells (numA false b) 33)).alloc (.cells (numA false 0) 33)) (numA false 0) 33
  simp only [World.size_alloc] at g3 g4 g6
  have hb0 : Below w.heap.size w ((((w.alloc (.cells (numA false a) 33)).alloc (.cells (numA false b) 33)).alloc (.cells (numA false 0) 33)).alloc (.cells (numA false 0) 33)) := by repeat' (first | exact Below.refl _ _ | refine Below.alloc ?_ ?_ _ | exact Nat.le_refl _ | (simp only [World.size_alloc]; omega))
  have c2 := g2.cell (numA_sign false a)
  have c3 := g3.cell (numA_sign false b)
  have c2' : ((((w.alloc (.cells (numA false a) 33)).alloc (.cells (numA false b) 33)).alloc (.cells (numA false 0) 33))).cell? ⟨w.heap.size, 0, none⟩ = some (.bool false) := (((Has.new w (numA false a) 33).alloc (.cells (numA false b) 33)).alloc (.cells (numA false 0) 33)).cell (numA_sign false a)
  clear ha
  go_enter Try.func20, Try.ntmps20
  go_wp2_with (first | ((with_reducible refine wl_at_build 33 ?_); refine wl_build rfl 33 _ rfl rfl (builtN _) ?_) | ((with_reducible refine wl_at_store 33 ?_); refine wl_store_new rfl 33 _ _ rfl _ _ rfl rfl (by first | (with_reducible exact rfl) | simp only [World.size_alloc]) infoN (numA_size _ _) (numA_size _ _) (numA_ones _ _) rfl ?_) | ((with_reducible refine wl_at_load 31 ?_); refine wl_loadPart rfl 31 _ rfl _ 1 rfl g2 (bitsA _) (numA_part _ _) Try.underlying31 rfl infoB (bitsA_size _) ?_) | ((with_reducible refine wl_at_load 31 ?_); refine wl_loadPart rfl 31 _ rfl _ 1 rfl g3 (bitsA _) (numA_part _ _) Try.underlying31 rfl infoB (bitsA_size _) ?_))
  refine (addBits_any a b _).mono ?_
  rintro e w1 ⟨rfl, hb⟩
  dsimp only
  rw [es.out]
  replace hb0 := below_step hb0 hb (by simp only [World.size_alloc]; omega)
  replace g2 := g2.below hb; replace g3 := g3.below hb; replace g4 := g4.below hb; replace g6 := g6.below hb
  clear hb c2 c3 c2' es
  have G4 := Has.cellsKeep (g := w.heap.size + 1 + 1 + 1) (by omega) (bitsA (a + b)).toList 1 g4
  have G6 := g6.cells (bitsA (a + b)).toList 1
  rw [numA_over] at G6
  replace hb0 := below_setCells (g := w.heap.size + 1 + 1 + 1) (by omega) (bitsA (a + b)).toList 1 hb0
  clear g2 g3 g4
  generalize a + b = c at *
  go_wp2_with (first | ((with_reducible refine wl_at_store 31 ?_); refine wl_storePart rfl 31 _ _ rfl _ 1 _ rfl rfl g6 infoB (bitsA_size _) (by rw [numA_size]; omega) (bitsA_ones _) rfl ?_) | ((with_reducible refine wl_at_load 33 ?_); refine wl_load rfl 33 _ rfl _ rfl G6 Try.underlying33 rfl infoN (numA_size _ _) ?_))
  clear g6
  refine (zero_any false c _ (by have := H.out; omega)).mono ?_
  rintro e w2 ⟨rfl, hb⟩
  dsimp only
  replace hb0 := below_step hb0 hb (by have := G4.lt; omega)
  replace G4 := G4.below hb; replace G6 := G6.below hb
  clear hb
  generalize decide (c = 0) = z at *
  cases z
  · go_upto_region 10 with (fail)
    refine wp_region_held (S := fun w' => (∃ cs, Has w' (w.heap.size + 1 + 1) cs 33 ∧ cs.size = 130) ∧ Has w' (w.heap.size + 1 + 1 + 1) (numA false c) 33 ∧ Below w.heap.size w w') (by kernel_rfl) ?_
    have S0 : (∃ cs, Has (World.drew _) (w.heap.size + 1 + 1) cs 33 ∧ cs.size = 130) ∧ Has (World.drew _) (w.heap.size + 1 + 1 + 1) (numA false c) 33 ∧ Below w.heap.size w (World.drew _) := ⟨⟨numA false 0, G4.drew, numA_size false 0⟩, G6.drew, hb0.drew⟩
    refine held_load 0 rfl (by kernel_rfl) (by kernel_rfl) (by kernel_rfl) rfl 33 _ rfl (w.heap.size + 1 + 1 + 1) rfl (fun w' h => h.2.1) Try.underlying33 rfl infoN (numA_size _ _) (fun _ _ _ h => h) S0 ?_
    refine held_load 1 rfl (by kernel_rfl) (by kernel_rfl) (by kernel_rfl) rfl 33 _ rfl (w.heap.size + 1 + 1 + 1) rfl (fun w' h => h.2.1) Try.underlying33 rfl infoN (numA_size _ _) (fun _ _ _ h => h) S0 ?_
    refine held_step 2 rfl (by kernel_rfl) rfl (fun K hK => ?_)
    go_step
    rw [← enum.out]
    refine (fits_any (c : Int) 127 _ (by have := H.out; omega) (by omega)).mono ?_
    rintro e w3 ⟨rfl, k3⟩
    dsimp only
    rw [hroom.out, enum.out]
    have S1 : (∃ cs, Has w3 (w.heap.size + 1 + 1) cs 33 ∧ cs.size = 130) ∧ Has w3 (w.heap.size + 1 + 1 + 1) (numA false c) 33 ∧ Below w.heap.size w w3 := ⟨⟨_, G4.drew.below k3, numA_size false 0⟩, G6.drew.below k3, below_step hb0.drew k3 hb0.size⟩
    refine hK _ _ S1 ?_
    clear hK K S0
    have G4' := G4.drew.below k3
    refine held_step 3 rfl (by kernel_rfl) rfl (fun K hK => ?_)
    refine wp_store_row 33 _ _ rfl (w.heap.size + 1 + 1) (numA false c) rfl rfl 33 (numA false 0) G4' (by rw [numA_size]; exact infoN) (by rw [numA_size, numA_size]) (numA_ones _ _) ?_
    have G4'' := G4'.row (numA false c)
    have hb4 := below_setRow S1.2.2 (g := w.heap.size + 1 + 1) (by omega) (numA false c)
    have S2 : (∃ cs, Has (w3.setRow (w.heap.size + 1 + 1) (numA false c)) (w.heap.size + 1 + 1) cs 33 ∧ cs.size = 130) ∧ Has (w3.setRow (w.heap.size + 1 + 1) (numA false c)) (w.heap.size + 1 + 1 + 1) (numA false c) 33 ∧ Below w.heap.size w (w3.setRow (w.heap.size + 1 + 1) (numA false c)) := ⟨⟨_, G4'', numA_size false c⟩, S1.2.1.rowKeep (by omega) _, hb4⟩
    refine hK _ _ S2 ?_
    refine held_pure 4 rfl (by kernel_rfl) (by kernel_rfl) (by kernel_rfl) rfl (.bool true) (fun w' _ => by simp [execOp, go_sem]) (fun _ _ _ h => h) S2 ?_
    refine wpAnyH_done (by kernel_rfl) ?_ _
    clear hK K
    go_wp2
    refine bodyPost_ret (results_has2 rfl _ rfl G4'' Try.underlying33 rfl infoN (numA_size _ _)) rfl ⟨rfl, hb4⟩
  · have c6 := G6.cell (numA_sign false c)
    have f6 := G6.free 0
    have G6' := G6.set 0 (.bool false)
    rw [numA_setSign] at G6'
    replace G4 := G4.keep (a := ⟨w.heap.size + 1 + 1 + 1, 0, none⟩) (by simp only []; omega) (.bool false)
    replace hb0 := hb0.setCell (p := ⟨w.heap.size + 1 + 1 + 1, 0, none⟩) (by simp only []; omega) (.bool false)
    clear G6
    have G6 := G6'
    clear G6'
    go_upto_region 10 with (fail)
    clear c6 f6
    refine wp_region_held (S := fun w' => (∃ cs, Has w' (w.heap.size + 1 + 1) cs 33 ∧ cs.size = 130) ∧ Has w' (w.heap.size + 1 + 1 + 1) (numA false c) 33 ∧ Below w.heap.size w w') (by kernel_rfl) ?_
    have S0 : (∃ cs, Has (World.drew _) (w.heap.size + 1 + 1) cs 33 ∧ cs.size = 130) ∧ Has (World.drew _) (w.heap.size + 1 + 1 + 1) (numA false c) 33 ∧ Below w.heap.size w (World.drew _) := ⟨⟨numA false 0, G4.drew, numA_size false 0⟩, G6.drew, hb0.drew⟩
    refine held_load 0 rfl (by kernel_rfl) (by kernel_rfl) (by kernel_rfl) rfl 33 _ rfl (w.heap.size + 1 + 1 + 1) rfl (fun w' h => h.2.1) Try.underlying33 rfl infoN (numA_size _ _) (fun _ _ _ h => h) S0 ?_
    refine held_load 1 rfl (by kernel_rfl) (by kernel_rfl) (by kernel_rfl) rfl 33 _ rfl (w.heap.size + 1 + 1 + 1) rfl (fun w' h => h.2.1) Try.underlying33 rfl infoN (numA_size _ _) (fun _ _ _ h => h) S0 ?_
    refine held_step 2 rfl (by kernel_rfl) rfl (fun K hK => ?_)
    go_step
    rw [← enum.out]
    refine (fits_any (c : Int) 127 _ (by have := H.out; omega) (by omega)).mono ?_
    rintro e w3 ⟨rfl, k3⟩
    dsimp only
    rw [hroom.out, enum.out]
    have S1 : (∃ cs, Has w3 (w.heap.size + 1 + 1) cs 33 ∧ cs.size = 130) ∧ Has w3 (w.heap.size + 1 + 1 + 1) (numA false c) 33 ∧ Below w.heap.size w w3 := ⟨⟨_, G4.drew.below k3, numA_size false 0⟩, G6.drew.below k3, below_step hb0.drew k3 hb0.size⟩
    refine hK _ _ S1 ?_
    clear hK K S0
    have G4' := G4.drew.below k3
    refine held_step 3 rfl (by kernel_rfl) rfl (fun K hK => ?_)
    refine wp_store_row 33 _ _ rfl (w.heap.size + 1 + 1) (numA false c) rfl rfl 33 (numA false 0) G4' (by rw [numA_size]; exact infoN) (by rw [numA_size, numA_size]) (numA_ones _ _) ?_
    have G4'' := G4'.row (numA false c)
    have hb4 := below_setRow S1.2.2 (g := w.heap.size + 1 + 1) (by omega) (numA false c)
    have S2 : (∃ cs, Has (w3.setRow (w.heap.size + 1 + 1) (numA false c)) (w.heap.size + 1 + 1) cs 33 ∧ cs.size = 130) ∧ Has (w3.setRow (w.heap.size + 1 + 1) (numA false c)) (w.heap.size + 1 + 1 + 1) (numA false c) 33 ∧ Below w.heap.size w (w3.setRow (w.heap.size + 1 + 1) (numA false c)) := ⟨⟨_, G4'', numA_size false c⟩, S1.2.1.rowKeep (by omega) _, hb4⟩
    refine hK _ _ S2 ?_
    refine held_pure 4 rfl (by kernel_rfl) (by kernel_rfl) (by kernel_rfl) rfl (.bool true) (fun w' _ => by simp [execOp, go_sem]) (fun _ _ _ h => h) S2 ?_
    refine wpAnyH_done (by kernel_rfl) ?_ _
    clear hK K
    go_wp2
    refine bodyPost_ret (results_has2 rfl _ rfl G4'' Try.underlying33 rfl infoN (numA_size _ _)) rfl ⟨rfl, hb4⟩
end Go.Proofs.Ytnphpnkfdnnmbaa
