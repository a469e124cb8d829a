/- What the printed functions on bytes, words and texts come to: the laws' own copies, marks and comparisons, and the functions of the first chapter. No memory is in sight here. -/
import Derived.Test.YtldfehmaophfjaaPxd
import Derived.Test.YtldfehmaophfjaaBase
import Derived.Test.YtldfehmaophfjaaCrc
import Derived.Laws.BitsLemmas
namespace Go.Proofs.Ytldfehmaophfjaa.Fn
set_option linter.unusedVariables false
set_option linter.unusedSimpArgs false
open Go.RowKit Go.Proofs.YtldfehmaophfjaaW.PrintWords Go.Proofs.Ytldfehmaophfjaa.P Go.Proofs.Ytldfehmaophfjaa.Base

/-! ### copies -/
theorem toByteS_l0 (l : List Int) (hl : l.length ≤ 140737488351232) (d : Nat) : ∀ (i : Nat) (o : List Int), i + d = l.length → o.length = l.length → o.take i = l.take i → Ev (fun k => laws_toByteS.l0 k l o (i : Int)) l := by
  induction d with
  | zero =>
    intro i o hi ho ht
    refine Ev.step (fun k => laws_toByteS.l0.eq_2 _ _ _ k) (Ev.neg (by omega) (Ev.done ?_))
    exact take_all ho (by omega) ht
  | succ d ih =>
    intro i o hi ho ht
    refine Ev.step (fun k => laws_toByteS.l0.eq_2 _ _ _ k) (Ev.pos (by omega) (Ev.pos (by omega) (Ev.pos (by omega) ?_)))
    rw [w64 (by omega) (by omega), cast_succ, Int.toNat_natCast]
    exact ih (i + 1) _ (by omega) (by rw [List.length_set]; exact ho) (set_take ho (by omega) ht (rd_getElem (by omega)))
theorem toByteS (l : List Int) (hl : l.length ≤ 140737488351232) : Ev (fun k => laws_toByteS.f k l) l := by
  unfold laws_toByteS.f
  refine Ev.pos (by omega) (Ev.pos (by omega) ?_)
  rw [Int.toNat_natCast]
  exact toByteS_l0 l hl l.length 0 _ (by omega) (by simp) (by simp)

/-! ### comparisons -/
theorem eqByteS_l0 (l m : List Int) (hl : l.length ≤ 140737488351232) (hm : l.length = m.length) (d : Nat) : ∀ (i : Nat), i + d = l.length → Ev (fun k => laws_eqByteS.l0 k l m (i : Int)) (decide (l.drop i = m.drop i)) := by
  induction d with
  | zero =>
    intro i hi
    refine Ev.step (fun k => laws_eqByteS.l0.eq_2 _ _ _ k) (Ev.neg (by omega) (Ev.done ?_))
    rw [List.drop_of_length_le (by omega), List.drop_of_length_le (by omega)]; simp
  | succ d ih =>
    intro i hi
    refine Ev.step (fun k => laws_eqByteS.l0.eq_2 _ _ _ k) (Ev.pos (by omega) (Ev.pos (by omega) (Ev.pos (by omega) ?_)))
    rw [drop_rd (by omega), drop_rd (l := m) (by omega), w64 (by omega) (by omega), cast_succ]
    by_cases h : rd l (i : Int) = rd m (i : Int)
    · refine Ev.pos h (Ev.eq (ih (i + 1) (by omega)) ?_)
      simp [h]
    · exact Ev.neg h (Ev.done (by simp [h]))
theorem eqByteS (l m : List Int) (hl : l.length ≤ 140737488351232) : Ev (fun k => laws_eqByteS.f k l m) (decide (l = m)) := by
  unfold laws_eqByteS.f
  by_cases h : l.length = m.length
  · exact Ev.pos (by omega) (eqByteS_l0 l m hl h l.length 0 (by omega))
  · exact Ev.neg (by omega) (Ev.done (by simp; intro e; exact h (by rw [e])))
theorem eqByteS_same (l : List Int) (hl : l.length ≤ 140737488351232) : Ev (fun k => laws_eqByteS.f k l l) true := Ev.eq (eqByteS l l hl) (by simp)

/-! ### marks -/
def markB (k : Int) : Nat → List Int
  | 0 => []
  | n + 1 => k % 256 :: markB (k + 1) n
theorem markB_length (k : Int) (n : Nat) : (markB k n).length = n := by
  induction n generalizing k with
  | zero => rfl
  | succ n ih => simp [markB, ih]
theorem markB_get (k : Int) (n i : Nat) (h : i < n) : (markB k n)[i]'(by rw [markB_length]; exact h) = (k + i) % 256 := by
  induction n generalizing k i with
  | zero => omega
  | succ n ih =>
    cases i with
    | zero => simp [markB]
    | succ i =>
      simp only [markB, List.getElem_cons_succ]
      rw [ih (k + 1) i (by omega)]
      congr 1
      omega
theorem markByteS_l0 (n : Nat) (c : Int) (hc : 0 ≤ c) (hn : c + n ≤ 9223372036854775807) (d : Nat) : ∀ (i : Nat) (o : List Int), i + d = n → o.length = n → o.take i = (markB c n).take i → Ev (fun k => laws_markByteS.l0 k o (c + i) (i : Int)) (c + n, markB c n) := by
  induction d with
  | zero =>
    intro i o hi ho ht
    refine Ev.step (fun k => laws_markByteS.l0.eq_2 _ _ _ k) (Ev.neg (by omega) (Ev.done ?_))
    rw [take_all (by rw [markB_length]; exact ho) (by rw [markB_length]; omega) ht, show i = n by omega]
  | succ d ih =>
    intro i o hi ho ht
    refine Ev.step (fun k => laws_markByteS.l0.eq_2 _ _ _ k) (Ev.pos (by omega) (Ev.pos (by omega) ?_))
    rw [w64 (n := c + i + 1) (by omega) (by omega), w64 (by omega) (by omega), cast_succ, Int.toNat_natCast, show c + (i : Int) + 1 = c + ((i + 1 : Nat) : Int) by omega]
    exact ih (i + 1) _ (by omega) (by rw [List.length_set]; exact ho) (set_take (by rw [markB_length]; exact ho) (by rw [markB_length]; omega) ht (markB_get c n i (by omega)).symm)
theorem markByteS (l : List Int) (c : Int) (hc : 0 ≤ c) (hn : c + l.length ≤ 9223372036854775807) : Ev (fun k => laws_markByteS.f k l c) (c + l.length, markB c l.length) := by
  unfold laws_markByteS.f
  have h := markByteS_l0 l.length c hc hn l.length 0 l (by omega) rfl (by simp)
  rwa [show c + ((0 : Nat) : Int) = c by omega] at h
theorem heldByteS_l0 (n : Nat) (c : Int) (hc : 0 ≤ c) (hn : c + n ≤ 9223372036854775807) (d : Nat) : ∀ (i : Nat), i + d = n → Ev (fun k => laws_heldByteS.l0 k (markB c n) (c + i) (i : Int)) (c + n) := by
  induction d with
  | zero =>
    intro i hi
    refine Ev.step (fun k => laws_heldByteS.l0.eq_2 _ _ _ k) (Ev.neg (by rw [markB_length]; omega) (Ev.done ?_))
    rw [show i = n by omega]
  | succ d ih =>
    intro i hi
    refine Ev.step (fun k => laws_heldByteS.l0.eq_2 _ _ _ k) (Ev.pos (by rw [markB_length]; omega) (Ev.pos (by omega) (Ev.pos ?_ ?_)))
    · rw [rd_getElem (by rw [markB_length]; omega), markB_get c n i (by omega)]
    · rw [w64 (n := c + i + 1) (by omega) (by omega), w64 (by omega) (by omega), cast_succ, show c + (i : Int) + 1 = c + ((i + 1 : Nat) : Int) by omega]
      exact ih (i + 1) (by omega)
theorem heldByteS (n : Nat) (c : Int) (hc : 0 ≤ c) (hn : c + n ≤ 9223372036854775807) : Ev (fun k => laws_heldByteS.f k (markB c n) c) (c + n) := by
  unfold laws_heldByteS.f
  have h := heldByteS_l0 n c hc hn n 0 (by omega)
  rwa [show c + ((0 : Nat) : Int) = c by omega] at h

/-! ### ranges and words -/
theorem isIn (a b c : Int) : impl_isIn.f a b c = some (decide (b ≤ a ∧ a ≤ c)) := by
  unfold impl_isIn.f
  by_cases h : b ≤ a
  · rw [if_pos h]; simp [h]
  · rw [if_neg h]; simp [h]
theorem l1In (a b c : Int) : spec_l1In.f a b c = some (decide (b ≤ a ∧ a ≤ c)) := by
  unfold spec_l1In.f
  by_cases h : a ≥ b
  · rw [if_pos h]; simp; omega
  · rw [if_neg h]; simp; omega
theorem wraps_i64 : ∀ n : Int, 0 ≤ n → n < 2 ^ 63 → IntKind.i64.wrap n = n := fun n h h' => by
  rw [IntKind.wrap_i64]; omega
theorem or_word {x y : Int} (hx : 0 ≤ x ∧ x ≤ 255) (hy : 0 ≤ y ∧ y ≤ 255) : Go.bits .or .i64 (x * 256) y = x * 256 + y :=
  Go.bits_join .i64 63 (by decide) wraps_i64 8 (x * 256) y (by omega) (by omega) (by omega) (by omega) (by omega) (by omega)
/-- The word at an offset. -/
def word (l : List Int) (at_ : Int) : Int × Int × Bool := if at_ < 0 ∨ (l.length : Int) - 2 < at_ then (0, 0, false) else (rd l at_ * 256 + rd l (at_ + 1), at_ + 2, true)
end Go.Proofs.Ytldfehmaophfjaa.Fn
