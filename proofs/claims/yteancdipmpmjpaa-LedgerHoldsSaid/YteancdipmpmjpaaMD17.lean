/-
  Lemmas and walks of this claim (the texts N16 O16 of the work; what no proof here uses is left out). No claim of their own.
-/
import Derived.Test.YteancdipmpmjpaaMD6
import Derived.Test.YteancdipmpmjpaaMD7
import Derived.Test.YteancdipmpmjpaaProg
import Derived.Deep.QuietTactic
import Derived.BigQuiet
import Derived.Deep.Cut
import Derived.Deep.LoopGhost
import Derived.WalkLawsBesides
import Derived.WalkSpells
set_option linter.all false
set_option linter.unusedSimpArgs false
set_option linter.unusedVariables false
namespace Go.Proofs.Yteancdipmpmjpaa
open Go.RowKit
set_option maxRecDepth 100000
set_option linter.unusedVariables false

theorem infoT : (Try.prog.info? 108).map (·.size) = some 1 := by kernel_rfl

theorem infoU : (Try.prog.info? 24).map (fun i => (i.zero, i.size, i.bytes)) = some (some (.int .u32 0), 1, 4) := by kernel_rfl

theorem part_any (A : Option Addr) (n c X i : Nat) (w : World) (h : Nt w A n c X) (hi : i < 4611686018427387904) :
    Calls Try.prog 118 #[.agg #[.slice A n c], .int .i64 i] w fun e w' => e = .returned (.int .u32 (X / 4294967296 ^ i % 4294967296 : Nat)) ∧ Below w.heap.size w w' := by
  have hd := digs_get (b := 4294967296) (by omega) X i
  have hl := h.len
  have hbl := (Below.refl w.heap.size w).alloc (Nat.le_refl _) (.cells #[.slice A n c] 108)
  by_cases hk : i < n
  · obtain ⟨b, off, rfl, hb, hc⟩ := h.1.rd.get hk
    have hv := hc i _ (nums_get .u32 _ i (by omega))
    rw [hd] at hv
    have hx : ∀ o, (w.alloc o).cell? ⟨b, off + i, none⟩ = some (.int .u32 (X / 4294967296 ^ i % 4294967296 : Nat)) := fun o => (World.cell?_alloc_lt w o _ hb).trans hv
    obtain ⟨d, hdd⟩ : ∃ d, d = X / 4294967296 ^ i % 4294967296 := ⟨_, rfl⟩
    rw [← hdd] at hx hv ⊢
    clear hd hdd hl hc h
    clear hx
    have ht : decide (i < n) = true := decide_eq_true hk
    go_enter Try.func118, Try.ntmps118
    go_wp2
    go_ret
    exact ⟨rfl, hbl⟩
  · have e : X / 4294967296 ^ i % 4294967296 = 0 := by
      rw [← hd, List.getD, List.getElem?_eq_none (by omega)]; rfl
    rw [e]
    clear hd hl h e
    have ht : decide (i < n) = false := decide_eq_false hk
    go_enter Try.func118, Try.ntmps118
    go_wp2
    go_ret
    exact ⟨rfl, hbl⟩

theorem Zero_any (A : Option Addr) (n c X : Nat) (w : World) (h : Nt w A n c X) :
    Calls Try.prog 74 #[.agg #[.slice A n c]] w fun e w' => e = .returned (.bool (decide (X = 0))) ∧ Below w.heap.size w w' := by
  have hl := h.len
  have hbl := (Below.refl w.heap.size w).alloc (Nat.le_refl _) (.cells #[.slice A n c] 108)
  have e : (decide (X = 0)) = decide ((n : Int) = 0) := by
    have := digs_ne (b := 4294967296) (n := X) (by omega)
    rw [← List.length_eq_zero_iff, ← hl] at this
    rcases Nat.eq_zero_or_pos n with h0 | h0
    · rw [decide_eq_true (this.1 h0), decide_eq_true (by omega)]
    · rw [decide_eq_false (by omega), decide_eq_false (by omega)]
  rw [e]
  clear e hl h
  go_enter Try.func74, Try.ntmps74
  go_wp2
  go_ret
  exact ⟨rfl, hbl⟩

theorem take_step (l : List Nat) (k : Nat) (hk : k < l.length) (h0 : l.getD k 0 = 0) : val 4294967296 (l.take k) = val 4294967296 (l.take (k + 1)) := by
  rw [List.take_succ_eq_append_getElem hk, val_append]
  have : l[k] = 0 := by simpa [List.getD, hk] using h0
  simp [val, this]
theorem take_last (l : List Nat) (k : Nat) (hk : k < l.length) (h0 : l.getD k 0 ≠ 0) (hl : ∀ x ∈ l, x < 4294967296) : digs 4294967296 (val 4294967296 (l.take (k + 1))) = l.take (k + 1) := by
  apply digs_val (by omega) _ fun x hx => hl x (List.mem_of_mem_take hx)
  intro hne
  rw [List.getLast_eq_getElem]
  have e : (l.take (k + 1)).length = k + 1 := by rw [List.length_take]; omega
  simp only [e, List.getElem_take, Nat.add_sub_cancel]
  simpa [List.getD, hk] using h0

set_option maxHeartbeats 1000000 in
theorem trim_any (A : Option Addr) (n c : Nat) (l : List Nat) (w : World) (h : Sl w 24 A n (nums .u32 l)) (hl : ∀ x ∈ l, x < 4294967296) (hn : n ≤ c) (hc : c ≤ 9223372036854775807) :
    Calls Try.prog 113 #[.slice A n c] w fun e w' => ∃ k, e = .returned (.agg #[.slice A k k]) ∧ Nt w' A k k (val 4294967296 l) ∧ Below w.heap.size w w' := by
  have hz : (zeroValue 108).run Try.prog w = .ok (.agg #[.slice none 0 0]) w := by kernel_rfl
  have H := Lib.hid h
  have HL := Lib.hid hl
  have hlen : l.length = n := by rw [← h.1, nums_length]
  have HN := Lib.hid hlen
  clear h hl hlen
  go_enter Try.func113, Try.ntmps113
  go_wp2
  go_loopw [3] (fun i wr => ∃ k : Nat, k ≤ n ∧ i = .int .i64 k ∧ Hid (val 4294967296 (l.take k) = val 4294967296 l) ∧ Has wr w.heap.size #[.slice none 0 0] 108 ∧ Below w.heap.size w wr) (fun i _ => (intOf i).toNat)
  case atStart => exact ⟨n, Nat.le_refl _, rfl, Lib.hid (by rw [List.take_of_length_le (by rw [HN.out]; omega)]), Has.new _ _ _, (Below.refl _ _).alloc (Nat.le_refl _) _⟩
  case round =>
    obtain ⟨k, hk, rfl, hv, hb, g⟩ := hrel
    rcases k with _ | k
    · have G := Lib.hid g
      clear g
      go_wp2_with ((with_reducible refine wl_at_store 108 ?_); refine wl_store rfl 108 _ _ rfl _ _ rfl rfl hb infoT rfl rfl (by simp [Ones, Value.oneCell']) rfl ?_)
      refine bodyPost_ret (results_has rfl _ rfl (hb.row _) Try.underlying108 rfl infoT rfl) rfl ⟨0, rfl, ?_, ?_⟩
      · have : val 4294967296 l = 0 := by rw [← hv.out]; simp [val]
        rw [this]
        exact Nt.zero _ _ _ (by omega)
      · exact below_setRow G.out (Nat.le_refl _) _
    · obtain ⟨b, off, rfl, hbb, hcc⟩ := H.out.rd.get (k := k) (by omega)
      have hd := g.cell (p := ⟨b, off + k, none⟩) hbb
      rw [hcc k _ (nums_get .u32 l k (by rw [HN.out]; omega))] at hd
      clear hcc
      by_cases h0 : l.getD k 0 = 0
      · rw [h0] at hd
        have E := Lib.hid (take_step l k (by rw [HN.out]; omega) h0)
        have G := Lib.hid g
        clear g h0
        go_wp2
        exact ⟨⟨k, by omega, rfl, Lib.hid (E.out.trans hv.out), hb, G.out⟩, by simp [intOf]⟩
      · have E := Lib.hid (take_last l k (by rw [HN.out]; omega) h0 HL.out)
        generalize l.getD k 0 = d at *
        have h1 : (((d : Nat) : Int) == 0) = false := by simp; omega
        have G := Lib.hid g
        clear g
        go_wp2_with ((with_reducible refine wl_at_store 108 ?_); refine wl_store rfl 108 _ _ rfl _ _ rfl rfl hb infoT rfl rfl (by simp [Ones, Value.oneCell']) rfl ?_)
        refine bodyPost_ret (results_has rfl _ rfl (hb.row _) Try.underlying108 rfl infoT rfl) rfl ⟨k + 1, rfl, ⟨?_, Nat.le_refl _, by omega⟩, ?_⟩
        · have S := H.out.take hk
          rw [nums_take, ← E.out, hv.out] at S
          refine (S.below ((Below.refl _ _).trans ?_))
          exact below_setRow G.out (Nat.le_refl _) _
        · exact below_setRow G.out (Nat.le_refl _) _

theorem Of_nat (x : Nat) (w : World) (hx : x ≤ 18446744073709551615) :
    Calls Try.prog 65 #[.int .u64 x] w fun e w' => ∃ A k, e = .returned (.agg #[.slice A k k]) ∧ Nt w' A k k x ∧ Nw w.heap.size A ∧ Below w.heap.size w w' := by
  have hz : (zeroValue 108).run Try.prog w = .ok (.agg #[.slice none 0 0]) w := by kernel_rfl
  obtain ⟨a, ha⟩ : ∃ a, a = x % 4294967296 := ⟨_, rfl⟩
  obtain ⟨b, hb⟩ : ∃ b, b = x / 4294967296 := ⟨_, rfl⟩
  have ea : Hid ((x : Int) % 4294967296 = (a : Int)) := Lib.hid (by omega)
  have eb : Hid ((x : Int) / 4294967296 = (b : Int)) := Lib.hid (by omega)
  have ev : Hid (val 4294967296 [a, b] = x) := Lib.hid (by simp only [val]; omega)
  have hl : Hid (∀ y ∈ [a, b], y < 4294967296) := Lib.hid (by intro y hy; simp at hy; rcases hy with rfl | rfl <;> omega)
  clear ha hb
  have g := ((Below.refl w.heap.size w).alloc (Nat.le_refl _) (.cells #[.slice none 0 0] 108)).alloc (by simp) (.cells #[.int .u32 a, .int .u32 b] 24)
  go_enter Try.func65, Try.ntmps65
  go_wp2_with fail
  rw [ea.out, eb.out]
  have S := Sl.of_has (Has.new (w.alloc (.cells #[.slice none 0 0] 108)) #[.int .u32 a, .int .u32 b] 24)
  refine (trim_any _ 2 2 [a, b] _ (by simpa [nums] using S) hl.out (Nat.le_refl _) (by omega)).mono ?_
  rintro e w1 ⟨k, rfl, hn, g1⟩
  have hb := (((Has.new w #[.slice none 0 0] 108).alloc (.cells #[.int .u32 a, .int .u32 b] 24)).below g1)
  rw [ev.out] at hn
  replace g := below_step g g1 g.size
  dsimp only
  clear S g1
  go_wp2_with ((with_reducible refine wl_at_store 108 ?_); refine wl_store rfl 108 _ _ rfl _ _ rfl rfl hb infoT rfl rfl (by simp [Ones, Value.oneCell']) rfl ?_)
  refine bodyPost_ret (results_has rfl _ rfl (hb.row _) Try.underlying108 rfl infoT rfl) rfl ⟨_, k, rfl, hn.row hb _, Nw.mk _ _ _ (by simp), below_setRow g (Nat.le_refl _) _⟩

def SumAt (b X Y N k : Nat) (o : List Nat) (cy : Nat) : Prop := o.length = N ∧ (∀ x ∈ o, x < b) ∧ (∀ i, k ≤ i → o.getD i 0 = 0) ∧ cy ≤ 1 ∧ val b o + b ^ k * cy = X % b ^ k + Y % b ^ k
theorem SumAt.start (b X Y N : Nat) (hb : 0 < b) : SumAt b X Y N 0 (List.replicate N 0) 0 := by
  refine ⟨by simp, fun x hx => by rw [(List.mem_replicate.1 hx).2]; exact hb, fun i _ => ?_, by omega, ?_⟩
  · simp only [List.getD, List.getElem?_replicate]; split <;> rfl
  · rw [val_replicate]; simp [Nat.mod_one]
theorem SumAt.step {b X Y N k cy : Nat} {o : List Nat} (hb : 2 ≤ b) (h : SumAt b X Y N k o cy) (hk : k < N) :
    SumAt b X Y N (k + 1) (o.set k ((cy + (X / b ^ k % b + Y / b ^ k % b)) % b)) ((cy + (X / b ^ k % b + Y / b ^ k % b)) / b) := by
  obtain ⟨h1, h2, h3, h4, h5⟩ := h
  have x1 := Nat.mod_lt (X / b ^ k) (show 0 < b by omega)
  have y1 := Nat.mod_lt (Y / b ^ k) (show 0 < b by omega)
  have ex := mod_pow_step b X k
  have ey := mod_pow_step b Y k
  generalize X / b ^ k % b = x at *
  generalize Y / b ^ k % b = y at *
  refine ⟨by simp [h1], fun u hu => ?_, fun i hi => ?_, ?_, ?_⟩
  · rcases List.mem_or_eq_of_mem_set hu with hu | rfl
    · exact h2 u hu
    · exact Nat.mod_lt _ (by omega)
  · have := h3 i (by omega)
    simp only [List.getD] at this ⊢
    rw [List.getElem?_set_ne (by omega)]
    exact this
  · have : (cy + (x + y)) / b < 2 := Nat.div_lt_of_lt_mul (by omega)
    omega
  · have hs := val_set b o k ((cy + (x + y)) % b) (by omega)
    rw [h3 k (Nat.le_refl _), Nat.mul_zero, Nat.add_zero] at hs
    have hm := Nat.mod_add_div (cy + (x + y)) b
    rw [hs, ex, ey, Nat.pow_succ, Nat.mul_assoc, Nat.add_assoc, ← Nat.mul_add, hm, Nat.mul_add, Nat.mul_add]
    omega
theorem SumAt.done {b X Y N cy : Nat} {o : List Nat} (h : SumAt b X Y N N o cy) (hx : X + Y < b ^ N) : val b o = X + Y := by
  obtain ⟨h1, h2, h3, h4, h5⟩ := h
  rw [Nat.mod_eq_of_lt (by omega), Nat.mod_eq_of_lt (by omega)] at h5
  rcases Nat.eq_zero_or_pos cy with h0 | h0
  · subst h0; omega
  · have : cy = 1 := by omega
    subst this; omega

set_option maxHeartbeats 2000000 in
theorem Add_nat (A B : Option Addr) (n c m d X Y : Nat) (w : World) (hx : Nt w A n c X) (hy : Nt w B m d Y) (h1 : n ≤ 1000000) (h2 : m ≤ 1000000) :
    Calls Try.prog 75 #[.agg #[.slice A n c], .agg #[.slice B m d]] w fun e w' => ∃ A k, e = .returned (.agg #[.slice A k k]) ∧ Nt w' A k k (X + Y) ∧ Nw w.heap.size A ∧ Below w.heap.size w w' := by
  have hz : (zeroValue 108).run Try.prog w = .ok (.agg #[.slice none 0 0]) w := by kernel_rfl
  obtain ⟨N, hN⟩ : ∃ N, max n m + 1 = N := ⟨_, rfl⟩
  have hlim : X + Y < 4294967296 ^ N := by
    have a1 := digs_le (b := 4294967296) (by omega) X
    have a2 := digs_le (b := 4294967296) (by omega) Y
    rw [← hx.len] at a1
    rw [← hy.len] at a2
    have a3 : 4294967296 ^ n ≤ 4294967296 ^ max n m := Nat.pow_le_pow_right (by omega) (by omega)
    have a4 : 4294967296 ^ m ≤ 4294967296 ^ max n m := Nat.pow_le_pow_right (by omega) (by omega)
    rw [← hN, Nat.pow_succ]
    omega
  have HL := Lib.hid hlim
  clear hlim
  go_enter Try.func75, Try.ntmps75
  go_wp2_with ((with_reducible refine wl_at_make 106 ?_); refine wl_make rfl _ _ 106 rfl 24 Try.underlying106 infoU N rfl rfl (by omega) (by omega) (by omega) (by omega) ?_)
  all_goals
    go_loopw [6, 7, 19] (fun cy _ i wr => ∃ (k cz : Nat) (o : List Nat), k ≤ N ∧ i = .int .i64 k ∧ cy = .int .u64 cz ∧ Hid (SumAt 4294967296 X Y N k o cz) ∧ Has wr w.heap.size #[.slice A n c] 108 ∧ Has wr (w.heap.size + 1) #[.slice B m d] 108 ∧ Has wr (w.heap.size + 1 + 1) #[.slice none 0 0] 108 ∧ Has wr (w.heap.size + 1 + 1 + 1) (nums .u32 o).toArray 24 ∧ Below w.heap.size w wr) (fun _ _ i _ => N - (intOf i).toNat)
    case atStart =>
      have a1 := Has.new w #[.slice A n c] 108
      have a2 := Has.new (w.alloc (.cells #[.slice A n c] 108)) #[.slice B m d] 108
      have a3 := Has.new ((w.alloc (.cells #[.slice A n c] 108)).alloc (.cells #[.slice B m d] 108)) #[.slice none 0 0] 108
      have a4 := Has.new (((w.alloc (.cells #[.slice A n c] 108)).alloc (.cells #[.slice B m d] 108)).alloc (.cells #[.slice none 0 0] 108)) (nums .u32 (List.replicate N 0)).toArray 24
      simp only [World.size_alloc] at a2 a3 a4
      exact ⟨0, 0, _, Nat.zero_le _, rfl, rfl, Lib.hid (SumAt.start _ _ _ _ (by omega)), ((a1.alloc _).alloc _).alloc _, (a2.alloc _).alloc _, a3.alloc _, a4, by repeat' (first|exact Below.refl _ _|refine Below.alloc ?_ ?_ _|exact Nat.le_refl _|(simp only [World.size_alloc];omega))⟩
    case round =>
      obtain ⟨k, cz, o, hk, rfl, rfl, hs, b1, b2, b3, b4, g⟩ := hrel
      by_cases hlt : k < N
      · have ht : decide (k < N) = true := decide_eq_true hlt
        have K0 := Keeps.cons b1 (Keeps.cons b2 (Keeps.cons b3 (Keeps.cons b4 (Keeps.nil g g.size))))
        have st := hs.out.step (by omega) hlt
        have PX : ∀ w', Nt w' A n c X → _ := fun w' h => part_any A n c X k w' h (by omega)
        have PY : ∀ w', Nt w' B m d Y → _ := fun w' h => part_any B m d Y k w' h (by omega)
        have x1 := Nat.mod_lt (X / 4294967296 ^ k) (show 0 < 4294967296 by omega)
        have y1 := Nat.mod_lt (Y / 4294967296 ^ k) (show 0 < 4294967296 by omega)
        generalize X / 4294967296 ^ k % 4294967296 = x at *
        generalize Y / 4294967296 ^ k % 4294967296 = y at *
        have c1 := hs.out.2.2.2.1
        have ol := hs.out.1
        obtain ⟨s, hsm⟩ : ∃ s, s = cz + (x + y) := ⟨_, rfl⟩
        have es : Hid (IntKind.u64.wrap ((cz : Int) + IntKind.u64.wrap (IntKind.u64.wrap (x : Int) + IntKind.u64.wrap (y : Int))) = (s : Int)) := Lib.hid (by simp only [IntKind.wrap_u64]; omega)
        rw [← hsm] at st
        have sb : s ≤ 8589934592 := by omega
        have ST := Lib.hid st
        have PX' := Lib.hid PX
        have PY' := Lib.hid PY
        have OL := Lib.hid ol
        clear b1 b2 b3 b4 g st PX PY ol hsm
        go_wp2_with fail
        refine wp_region_keeps (by kernel_rfl) (by kernel_rfl) K0 ?_
        quiet_step ((intro _; rfl))
        ((with_reducible refine wq_at_load 108 ?_); refine wq_load rfl 108 _ rfl _ rfl (fun w h => h.has0) Try.underlying108 rfl infoT rfl ?_)
        quiet_step ((intro _; rfl))
        quiet_step ((intro s; refine (PX'.out _ (hx.below (s.1))).mono ?_; rintro e w2 ⟨rfl, k1⟩; exact ⟨rfl, s.below k1⟩))
        quiet_step ((intro _; rfl))
        ((with_reducible refine wq_at_load 108 ?_); refine wq_load rfl 108 _ rfl _ rfl (fun w h => h.tail.has0) Try.underlying108 rfl infoT rfl ?_)
        quiet_step ((intro _; rfl))
        quiet_step ((intro s; refine (PY'.out _ (hy.below (s.1))).mono ?_; rintro e w2 ⟨rfl, k1⟩; exact ⟨rfl, s.below k1⟩))
        quiet_step ((intro _; rfl))
        quiet_step ((intro _; rfl))
        quiet_step ((intro _; rfl))
        quiet_step ((intro _; rfl))
        refine wpQuiet_nil ?_
        intro w2 K1
        rw [es.out]
        clear es x1 y1 PX' PY' K0
        have b4 := K1.tail.tail.tail.has0
        have hcell := b4.cell (i := k) (v := .int .u32 (o.getD k 0 : Nat)) (by simpa using nums_get .u32 o k (by rw [OL.out]; exact hlt))
        have hfree := b4.free k
        have H4 := Lib.hid b4
        clear b4
        go_wp2
        have H5 := H4.out.set k (.int .u32 ((s % 4294967296 : Nat) : Int))
        rw [nums_set] at H5
        refine ⟨⟨k + 1, s / 4294967296, o.set k (s % 4294967296), by omega, by go_num, by go_num, ST, K1.has0.keep (by simp only; omega) _, K1.tail.has0.keep (by simp only; omega) _, K1.tail.tail.has0.keep (by simp only; omega) _, H5, K1.1.setCell (by simp only; omega) _⟩, by simp [intOf]; omega⟩
      · have hkN : k = N := by omega
        subst hkN
        have hv := Lib.hid (hs.out.done HL.out)
        have hl := Lib.hid hs.out.2.1
        have S := Sl.of_has b4
        have hlen : o.length = k := hs.out.1
        simp only [List.size_toArray, nums_length, hlen] at S
        have S' := Lib.hid S
        clear S hlen hs
        go_wp2_with fail
        refine (trim_any _ k k o _ (by simpa using S'.out) hl.out (Nat.le_refl _) (by omega)).mono ?_
        rintro e w1 ⟨k1, rfl, hn, g1⟩
        rw [hv.out] at hn
        have hb3 := b3.below g1
        replace g := below_step g g1 g.size
        dsimp only
        clear S' g1 b1 b2 b3 b4
        go_wp2_with ((with_reducible refine wl_at_store 108 ?_); refine wl_store rfl 108 _ _ rfl _ _ rfl rfl hb3 infoT rfl rfl (by simp [Ones, Value.oneCell']) rfl ?_)
        refine bodyPost_ret (results_has rfl _ rfl (hb3.row _) Try.underlying108 rfl infoT rfl) rfl ⟨_, k1, rfl, hn.row hb3 _, Nw.mk _ _ _ (by omega), below_setRow g (by omega) _⟩
end Go.Proofs.Yteancdipmpmjpaa
namespace Go.Proofs.Yteancdipmpmjpaa
open Go.RowKit
set_option maxRecDepth 100000
set_option linter.unusedVariables false

def cmpN (X Y : Nat) : Int := if X < Y then -1 else if Y < X then 1 else 0
theorem cmp_lt (b X Y j : Nat) (hb : 2 ≤ b) (h : X / b ^ (j + 1) = Y / b ^ (j + 1)) (hlt : X / b ^ j % b < Y / b ^ j % b) : X < Y := by
  rw [Nat.pow_succ, ← Nat.div_div_eq_div_mul, ← Nat.div_div_eq_div_mul] at h
  have h1 := Nat.mod_add_div (X / b ^ j) b
  have h2 := Nat.mod_add_div (Y / b ^ j) b
  rw [h] at h1
  have h3 : X / b ^ j < Y / b ^ j := by omega
  have h4 : ¬ Y ≤ X := fun h => by have := Nat.div_le_div_right (c := b ^ j) h; omega
  omega
theorem cmp_eq (b X Y j : Nat) (hb : 2 ≤ b) (h : X / b ^ (j + 1) = Y / b ^ (j + 1)) (he : X / b ^ j % b = Y / b ^ j % b) : X / b ^ j = Y / b ^ j := by
  rw [Nat.pow_succ, ← Nat.div_div_eq_div_mul, ← Nat.div_div_eq_div_mul] at h
  have h1 := Nat.mod_add_div (X / b ^ j) b
  have h2 := Nat.mod_add_div (Y / b ^ j) b
  rw [h] at h1
  omega

set_option maxHeartbeats 2000000 in
theorem Cmp_nat (A B : Option Addr) (n c m d X Y : Nat) (w : World) (hx : Nt w A n c X) (hy : Nt w B m d Y) (h1 : n ≤ 1000000) (h2 : m ≤ 1000000) :
    Calls Try.prog 79 #[.agg #[.slice A n c], .agg #[.slice B m d]] w fun e w' => e = .returned (.int .i64 (cmpN X Y)) ∧ Below w.heap.size w w' := by
  obtain ⟨N, hN⟩ : ∃ N, max n m = N := ⟨_, rfl⟩
  have hlx : X < 4294967296 ^ N := by
    have a1 := digs_le (b := 4294967296) (by omega) X
    rw [← hx.len] at a1
    have a3 : 4294967296 ^ n ≤ 4294967296 ^ N := Nat.pow_le_pow_right (by omega) (by omega)
    omega
  have hly : Y < 4294967296 ^ N := by
    have a1 := digs_le (b := 4294967296) (by omega) Y
    rw [← hy.len] at a1
    have a3 : 4294967296 ^ m ≤ 4294967296 ^ N := Nat.pow_le_pow_right (by omega) (by omega)
    omega
  have hE : Hid (X / 4294967296 ^ N = Y / 4294967296 ^ N) := Lib.hid (by rw [Nat.div_eq_of_lt hlx, Nat.div_eq_of_lt hly])
  clear hlx hly
  have a1 := Has.new w #[.slice A n c] 108
  have a2 := Has.new (w.alloc (.cells #[.slice A n c] 108)) #[.slice B m d] 108
  simp only [World.size_alloc] at a2
  have hb0 : Below w.heap.size w ((w.alloc (.cells #[.slice A n c] 108)).alloc (.cells #[.slice B m d] 108)) := by repeat' (first|exact Below.refl _ _|refine Below.alloc ?_ ?_ _|exact Nat.le_refl _|(simp only [World.size_alloc];omega))
  have hN1 : N ≤ 1000000 := by omega
  go_enter Try.func79, Try.ntmps79
  go_wp2
  all_goals
    go_loopw [5, 6, 7] (fun i _ _ wr => ∃ (j : Nat) (z : Int), j ≤ N ∧ z = (j : Int) - 1 ∧ i = .int .i64 z ∧ Hid (X / 4294967296 ^ j = Y / 4294967296 ^ j) ∧ Has wr w.heap.size #[.slice A n c] 108 ∧ Has wr (w.heap.size + 1) #[.slice B m d] 108 ∧ Below w.heap.size w wr) (fun i _ _ _ => (intOf i + 1).toNat)
    case atStart => exact ⟨N, _, Nat.le_refl _, rfl, by go_num, hE, a1.alloc _, a2, hb0⟩
    case round =>
      obtain ⟨j, z, hj, hz, rfl, he, b1, b2, g⟩ := hrel
      rcases j with _ | k
      · have ht : decide ((0 : Int) ≤ z) = false := decide_eq_false (by omega)
        have e : X = Y := by have := he.out; simpa using this
        have ec : cmpN X Y = 0 := by unfold cmpN; rw [if_neg (by omega), if_neg (by omega)]
        have EC := Lib.hid ec
        clear ec e he hz
        go_wp2
        go_ret
        exact ⟨by rw [EC.out]; rfl, g⟩
      · have hzk : z = (k : Int) := by omega
        subst hzk
        have K0 := Keeps.cons b1 (Keeps.cons b2 (Keeps.nil g g.size))
        have PX : ∀ w', Nt w' A n c X → _ := fun w' h => part_any A n c X k w' h (by omega)
        have PY : ∀ w', Nt w' B m d Y → _ := fun w' h => part_any B m d Y k w' h (by omega)
        have L1 := Lib.hid (cmp_lt 4294967296 X Y k (by omega) he.out)
        have L2 := Lib.hid (cmp_lt 4294967296 Y X k (by omega) he.out.symm)
        have L3 := Lib.hid (cmp_eq 4294967296 X Y k (by omega) he.out)
        have x1 := Nat.mod_lt (X / 4294967296 ^ k) (show 0 < 4294967296 by omega)
        have y1 := Nat.mod_lt (Y / 4294967296 ^ k) (show 0 < 4294967296 by omega)
        generalize X / 4294967296 ^ k % 4294967296 = x at *
        generalize Y / 4294967296 ^ k % 4294967296 = y at *
        have PX' := Lib.hid PX
        have PY' := Lib.hid PY
        clear b1 b2 g PX PY he hz hE a1 a2 hb0
        go_wp2_with fail
        refine wp_region_keeps (by kernel_rfl) (by kernel_rfl) K0 ?_
        ((with_reducible refine wq_at_load 108 ?_); refine wq_load rfl 108 _ rfl _ rfl (fun w h => h.has0) Try.underlying108 rfl infoT rfl ?_)
        quiet_step ((intro _; rfl))
        quiet_step ((intro s; refine (PX'.out _ (hx.below (s.1))).mono ?_; rintro e w2 ⟨rfl, k1⟩; exact ⟨rfl, s.below k1⟩))
        ((with_reducible refine wq_at_load 108 ?_); refine wq_load rfl 108 _ rfl _ rfl (fun w h => h.tail.has0) Try.underlying108 rfl infoT rfl ?_)
        quiet_step ((intro _; rfl))
        quiet_step ((intro s; refine (PY'.out _ (hy.below (s.1))).mono ?_; rintro e w2 ⟨rfl, k1⟩; exact ⟨rfl, s.below k1⟩))
        quiet_step ((intro _; rfl))
        quiet_step ((intro _; rfl))
        refine wpQuiet_nil ?_
        intro w2 K1
        clear K0 PX' PY'
        by_cases hlt : x < y
        · have ec : cmpN X Y = -1 := by unfold cmpN; rw [if_pos (L1.out hlt)]
          have EC := Lib.hid ec
          clear ec L1 L2 L3
          have t1 : decide (x < y) = true := decide_eq_true hlt
          have t2 : ((x : Int) != (y : Int)) = true := by simp; omega
          go_wp2
          go_ret
          exact ⟨by rw [EC.out]; rfl, K1.1⟩
        · by_cases hgt : y < x
          · have ec : cmpN X Y = 1 := by unfold cmpN; rw [if_neg (by have := L2.out hgt; omega), if_pos (L2.out hgt)]
            have EC := Lib.hid ec
            clear ec L1 L2 L3
            have t1 : decide (x < y) = false := decide_eq_false hlt
            have t2 : ((x : Int) != (y : Int)) = true := by simp; omega
            go_wp2
            go_ret
            exact ⟨by rw [EC.out]; rfl, K1.1⟩
          · have hxy : x = y := by omega
            have E := Lib.hid (L3.out hxy)
            clear L1 L2 L3
            subst hxy
            go_wp2
            exact ⟨⟨k, _, by omega, rfl, by go_num, E, K1.has0, K1.tail.has0, K1.1⟩, by simp [intOf]⟩
end Go.Proofs.Yteancdipmpmjpaa
