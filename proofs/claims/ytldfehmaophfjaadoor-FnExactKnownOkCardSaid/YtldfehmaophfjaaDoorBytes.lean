/- What the printed functions on bytes, words and texts come to: the laws' own copies, marks and comparisons, and the functions of the first chapter. No memory is in sight here. -/
import Derived.Test.YtldfehmaophfjaaDoorPxd
import Derived.Test.YtldfehmaophfjaaDoorBase
import Derived.Test.YtldfehmaophfjaaDoorCrc
import Derived.Laws.BitsLemmas
namespace Go.Proofs.YtldfehmaophfjaaDoor.Fn
set_option linter.unusedVariables false
set_option linter.unusedSimpArgs false
open Go.RowKit Go.Proofs.YtldfehmaophfjaaDoorW.PrintWords Go.Proofs.YtldfehmaophfjaaDoor.P Go.Proofs.YtldfehmaophfjaaDoor.Base

/-! ### copies -/
def markB (k : Int) : Nat → List Int
  | 0 => []
  | n + 1 => k % 256 :: markB (k + 1) n
theorem markB_length (k : Int) (n : Nat) : (markB k n).length = n := by
  induction n generalizing k with
  | zero => rfl
  | succ n ih => simp [markB, ih]
theorem markB_get (k : Int) (n i : Nat) (h : i < n) : (markB k n)[i]'(by rw [markB_length]; exact h) = (k + i) % 256 := by
  induction n generalizing k i with
  | zero => omega
  | succ n ih =>
    cases i with
    | zero => simp [markB]
    | succ i =>
      simp only [markB, List.getElem_cons_succ]
      rw [ih (k + 1) i (by omega)]
      congr 1
      omega
theorem isIn (a b c : Int) : impl_isIn.f a b c = some (decide (b ≤ a ∧ a ≤ c)) := by
  unfold impl_isIn.f
  by_cases h : b ≤ a
  · rw [if_pos h]; simp [h]
  · rw [if_neg h]; simp [h]
theorem l1In (a b c : Int) : spec_l1In.f a b c = some (decide (b ≤ a ∧ a ≤ c)) := by
  unfold spec_l1In.f
  by_cases h : a ≥ b
  · rw [if_pos h]; simp; omega
  · rw [if_neg h]; simp; omega
theorem wraps_i64 : ∀ n : Int, 0 ≤ n → n < 2 ^ 63 → IntKind.i64.wrap n = n := fun n h h' => by
  rw [IntKind.wrap_i64]; omega
theorem or_word {x y : Int} (hx : 0 ≤ x ∧ x ≤ 255) (hy : 0 ≤ y ∧ y ≤ 255) : Go.bits .or .i64 (x * 256) y = x * 256 + y :=
  Go.bits_join .i64 63 (by decide) wraps_i64 8 (x * 256) y (by omega) (by omega) (by omega) (by omega) (by omega) (by omega)
/-- The word at an offset. -/
def word (l : List Int) (a : Int) : Int × Int × Bool := if a < 0 ∨ (l.length : Int) - 2 < a then (0, 0, false) else (rd l a * 256 + rd l (a + 1), a + 2, true)
theorem impl_getWord (l : List Int) (a : Int) (hb : Bytes l) (hl : l.length ≤ 140737488351232) : impl_GetWord.f l a = some (word l a) := by
  unfold impl_GetWord.f word
  rw [isIn, w64 (n := (l.length : Int) - 2) (by omega) (by omega)]
  simp only [Option.bind_some, decide_eq_true_eq]
  by_cases h : 0 ≤ a ∧ a ≤ (l.length : Int) - 2
  · have r0 := rd_byte hb a
    have r1 := rd_byte hb (a + 1)
    rw [if_pos h, if_neg (show ¬ (a < 0 ∨ (l.length : Int) - 2 < a) by omega), if_pos (by omega), if_pos (by omega), w64 (n := a + 1) (by omega) (by omega), if_pos (by omega), if_pos (by omega), w64_byte hb, w64_byte hb, w64 (n := rd l a * 256) (by omega) (by omega), or_word r0 r1, w64 (by omega) (by omega)]
  · rw [if_neg h, if_pos (by omega)]
end Go.Proofs.YtldfehmaophfjaaDoor.Fn
