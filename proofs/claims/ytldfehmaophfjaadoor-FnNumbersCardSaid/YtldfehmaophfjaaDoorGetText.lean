/- What the printed functions that read a text come to. No memory is in sight here. -/
import Derived.Test.YtldfehmaophfjaaDoorPxd
import Derived.Test.YtldfehmaophfjaaDoorTextOk
namespace Go.Proofs.YtldfehmaophfjaaDoor.Fn
set_option linter.unusedVariables false
set_option linter.unusedSimpArgs false
open Go.RowKit Go.Proofs.YtldfehmaophfjaaDoorW.PrintWords Go.Proofs.YtldfehmaophfjaaDoor.P Go.Proofs.YtldfehmaophfjaaDoor.Base

/-! ### texts out of bytes -/
def noText : ByteArray × Int × Bool := (⟨#[]⟩, 0, false)
/-- The bytes of l from a + 1 on, as many as byte a tells. -/
def textAt (l : List Int) (a : Int) : ByteArray := strOfNums ((l.take (a + 1 + rd l a).toNat).drop (a + 1).toNat)
def getText (l : List Int) (a : Int) : ByteArray × Int × Bool :=
  if a < 0 ∨ (l.length : Int) ≤ a ∨ (l.length : Int) - a - 1 < rd l a then noText
  else if textOk (textAt l a) = true then (textAt l a, a + 1 + rd l a, true) else noText
theorem textAt_size (l : List Int) (a : Int) (hl : l.length ≤ 140737488351232) : (textAt l a).size ≤ 9223372036854775807 := by
  unfold textAt
  rw [size_strOfNums, List.length_drop, List.length_take]
  omega
theorem impl_getText (l : List Int) (a : Int) (hb : Bytes l) (hl : l.length ≤ 140737488351232) : Ev (fun k => impl_GetText.f k l a) (getText l a) := by
  unfold impl_GetText.f getText
  have bad : ∀ b : Bool, b = true → Ev (fun k => impl_GetText.j0 k l a b) noText := fun b hb => Ev.step (fun k => impl_GetText.j0.eq_2 _ _ _ k) (Ev.pos hb (Ev.done rfl))
  rw [isIn, w64 (n := (l.length : Int) - 1) (by omega) (by omega)]
  by_cases h0 : a < 0 ∨ (l.length : Int) ≤ a
  · rw [if_pos (by omega)]
    exact Ev.neg (by simp; omega) (bad _ rfl)
  have hr := rd_byte hb a
  refine Ev.pos (by simp; omega) (Ev.pos (by omega) (Ev.pos (by omega) ?_))
  rw [w64_byte hb, w64 (n := (l.length : Int) - a) (by omega) (by omega), w64 (n := (l.length : Int) - a - 1) (by omega) (by omega)]
  by_cases h2 : (l.length : Int) - a - 1 < rd l a
  · rw [if_pos (.inr (.inr h2))]; exact bad _ (by simpa using h2)
  rw [if_neg (by omega)]
  refine Ev.step (fun k => impl_GetText.j0.eq_2 _ _ _ k) (Ev.neg (by simpa using h2) (Ev.pos (by omega) (Ev.pos (by omega) ?_)))
  rw [w64_byte hb, w64 (n := a + 1) (by omega) (by omega), w64 (n := a + 1 + rd l a) (by omega) (by omega)]
  refine Ev.pos (by omega) (Ev.pos (by omega) (Ev.pos (by omega) (Ev.bind (impl_textOk (textAt l a) (textAt_size l a hl)) ?_)))
  by_cases h3 : textOk (textAt l a) = true
  · exact Ev.pos h3 (Ev.done (if_pos h3).symm)
  · exact Ev.neg h3 (Ev.done (if_neg h3).symm)
end Go.Proofs.YtldfehmaophfjaaDoor.Fn
