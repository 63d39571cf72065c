/-
  append of one element onto a slice of the call's own whose block stands last among the blocks, and the string of such bytes: laws of the walk, no claim of their own.
-/
import Derived.Test.YtogbnecgikbkmaaApp
import Derived.Laws.BytesString
namespace Go.Proofs.Ytogbnecgikbkmaa
open Go.RowKit
set_option linter.unusedVariables false

/-- The slice v, which is nil or lies in the one block of 'Lo', reads as xs. -/
def OwnT (v : Value) (e : TypeId) (xs : List Value) (Lo : List Blk) : Prop :=
  (v = .slice none 0 0 ∧ xs = [] ∧ Lo = []) ∨
  ∃ (g cap : Nat) (cur : Array Value), v = .slice (some ⟨g, 0, none⟩) xs.length cap ∧ xs.length ≤ cap ∧ cap ≤ 9223372036854775807 ∧ cur.size = cap ∧ cur.toList.take xs.length = xs ∧ Lo = [(g, cur, e)]
theorem OwnT.nil (e : TypeId) : OwnT (.slice none 0 0) e [] [] := .inl ⟨rfl, rfl, rfl⟩
/-- The blocks L are L0, and behind them Lo. -/
inductive Tl : List Blk → List Blk → List Blk → Prop
  | nil {Lo : List Blk} : Tl Lo Lo []
  | cons {L Lo L0 : List Blk} {p : Blk} : Tl L Lo L0 → Tl (p :: L) Lo (p :: L0)
theorem Tl.eq {L Lo L0 : List Blk} (h : Tl L Lo L0) : L = L0 ++ Lo := by
  induction h with
  | nil => rfl
  | cons _ ih => rw [ih]; rfl
section
variable {P : Program} {B : Nat} {w0 w w' : World} {L L' L0 Lo : List Blk} {F : World → Prop} {ops : Array Oper} {rest : List Oper} {o : Oper} {a : Act} {Q : Exit → Act → World → Prop}
theorem St.perm (K : St B w0 L F w) (h : L.Perm L') : St B w0 L' F w :=
  ⟨K.below, K.size, fun p hp => K.has p (h.mem_iff.2 hp), (h.map (·.1)).nodup_iff.1 K.nodup, fun w' h1 h2 => K.keep w' h1 fun b hb1 hb2 => h2 b hb1 fun hm => hb2 ((h.map (·.1)).mem_iff.2 hm)⟩
theorem wm_appT {b : Nat} {x : Value} {e : TypeId} (K : St B w0 ((b, #[x], e) :: L) F w) (ht : Tl L Lo L0) (hg : o.guard = none) (s y : Operand) (t : TypeId) (ho : o.op = .call { callee := .builtin .append, args := #[s, y], argTypes := #[t, t] })
    (hu : P.underlying t = some (.slice e)) {k : IntKind} {bs : Nat} (hi : (P.info? e).map (fun i => (i.zero, i.size, i.bytes)) = some (some (.int k 0), 1, bs))
    {v : Value} (hs : a.eval s = v) {xs : List Value} (hown : OwnT v e xs Lo) (hy : a.eval y = .slice (some ⟨b, 0, none⟩) 1 1) (hx : x.oneCell' = true) (hb1 : (xs.length + 1) * bs ≤ 140737488355328) (hb2 : xs.length + 1 ≤ maxLen)
    (h : ∀ (v' : Value) (w' : World) (Lo' : List Blk), OwnT v' e (xs ++ [x]) Lo' → St B w0 (L0 ++ Lo') F w' → wpList P ops Q rest (a.put o.dst v') w') : wpList P ops Q (o :: rest) a w := by
  have hL := ht.eq
  subst hL
  have K1 : St B w0 ((b, #[x], e) :: (Lo ++ L0)) F w := K.perm (List.Perm.cons _ List.perm_append_comm)
  have hO : Own v e xs L0 (Lo ++ L0) := by
    rcases hown with ⟨h1, h2, h3⟩ | ⟨g, cap, cur, h1, h2, h3, h4, h5, h6⟩
    · exact .inl ⟨h1, h2, by rw [h3]; rfl⟩
    · exact .inr ⟨g, cap, cur, h1, h2, h3, h4, h5, by rw [h6]; rfl⟩
  refine wm_app K1 hg s y t ho hu hi hs hO hy hx hb1 hb2 ?_
  intro v' w' L' hO' K'
  rcases hO' with ⟨h1, h2, h3⟩ | ⟨g, cap, cur, h1, h2, h3, h4, h5, h6⟩
  · exact h v' w' [] (.inl ⟨h1, h2, rfl⟩) (by rw [List.append_nil, ← h3]; exact K')
  · exact h v' w' [(g, cur, e)] (.inr ⟨g, cap, cur, h1, h2, h3, h4, h5, rfl⟩) (K'.perm (by rw [h6]; exact (List.perm_append_comm (l₁ := [(g, cur, e)]) (l₂ := L0))))
/-- Bytes as a string. -/
def strOf (l : List Nat) : ByteArray := ⟨(l.map UInt8.ofNat).toArray⟩
theorem fold_push (l : List Nat) : ∀ (s : ByteArray), (l.map fun (n : Nat) => (n : Int)).foldl (fun (r : ByteArray) (n : Int) => r.push (UInt8.ofNat n.toNat)) s = ⟨s.data ++ (l.map UInt8.ofNat).toArray⟩ := by
  induction l with
  | nil => intro s; simp
  | cons x r ih =>
    intro s
    rw [List.map_cons, List.foldl_cons, ih]
    simp [ByteArray.push]
theorem wm_str {g n c : Nat} {cur : Array Value} {t : TypeId} {l : List Nat} (K : St B w0 L F w) (ha : At L g cur t) (hgd : Region.wanted o (yielded ops a.tmps) = true) (src dst : TypeId) (x : Operand) (ho : o.op = .convert src dst x) {e : TypeId} (hs : P.underlying src = some (.slice e)) (he : P.underlying e = some (.int .u8)) (hd : P.underlying dst = some .string)
    (hx : a.eval x = .slice (some ⟨g, 0, none⟩) n c) (hct : cur.toList.take n = nums .u8 l) (hln : l.length = n) (h : wpList P ops Q rest (a.put o.dst (.string (strOf l))) w) : wpList P ops Q (o :: rest) a w :=
  wl_wanted hgd fun K' hK => by
    have hl : (loadCells ⟨g, 0, none⟩ n).run P w = .ok ((l.map fun (n : Nat) => (n : Int)).map (Value.int .u8)).toArray w := by
      have := run_loadCells_list (P := P) w ⟨g, 0, none⟩ (nums .u8 l) (fun j v hv => by
        rw [Addr.add_mid]
        refine (K.get ha).cell ?_
        rw [← hct, List.getElem?_take] at hv
        split at hv
        · simpa using hv
        · cases hv)
      rw [nums_length, hln] at this
      rw [this]
      simp [nums]
    have hr := run_convert_bytes_string (P := P) w src dst e (some ⟨g, 0, none⟩) n c hs he hd
    rw [run_bytesToString w ⟨g, 0, none⟩ n c _ hl, fold_push] at hr
    unfold Oper.wp execOp
    simp only [ho, hx, Sem.run_bind, hr, Sem.run_pure, Result.andThen_ok]
    refine hK _ _ ?_
    simpa [strOf] using h
theorem at_conv {dst : Option Tmp} {type : TypeId} {pos : String} {after : Array Edge} {guard : Option (Nat × Bool)} {s d : TypeId} {x : Operand} (h : wpList P ops Q (⟨dst, .convert s d x, type, pos, after, guard⟩ :: rest) a w) : wpList P ops Q (⟨dst, .convert s d x, type, pos, after, guard⟩ :: rest) a w := h
end
end Go.Proofs.Ytogbnecgikbkmaa
