/- What the printed functions that read heads come to. No memory is in sight here. -/
import Derived.Test.YtdanfcjaamcaiaaPxd
import Derived.Test.YtdanfcjaamcaiaaHead
namespace Go.Proofs.Ytdanfcjaamcaiaa.Fn
set_option linter.unusedVariables false
set_option linter.unusedSimpArgs false
open Go.RowKit Go.Proofs.YtdanfcjaamcaiaaW.PrintWords Go.Proofs.Ytdanfcjaamcaiaa.P Go.Proofs.Ytdanfcjaamcaiaa.Base

theorem sameBytes {l m : List Int} (hl : Bytes l) (hm : Bytes m) : ((strOfNums l).toList == (strOfNums m).toList) = eqB l m := by
  rw [Bool.eq_iff_iff, beq_iff_eq, eqB_iff, strOfNums_inj hl hm]
theorem word_byte {l : List Int} (h : Bytes l) (a : Int) : 0 ≤ (word l a).1 ∧ (word l a).1 ≤ 65535 := by
  unfold word
  split
  · exact ⟨by simp, by simp⟩
  · have h0 := rd_byte h a
    have h1 := rd_byte h (a + 1)
    simp only []
    omega
noncomputable def getHead (l : List Int) : Int × Int × Bool :=
  @ite _ (l ≠ [] ∧ headOf (word l 0).1 (word l 2).1 = l) (Classical.propDecidable _) ((word l 0).1, (word l 2).1, true) (0, 0, false)
theorem getHead_yes {l : List Int} (h : l ≠ [] ∧ headOf (word l 0).1 (word l 2).1 = l) : getHead l = ((word l 0).1, (word l 2).1, true) := if_pos h
theorem getHead_no {l : List Int} (h : ¬ (l ≠ [] ∧ headOf (word l 0).1 (word l 2).1 = l)) : getHead l = (0, 0, false) := if_neg h
theorem headOf_six {g n : Int} (h : headOf g n ≠ []) : (headOf g n).length = 6 := by
  unfold headOf at h ⊢
  split
  · simp [summed, wordBytes]
  · rename_i hc
    rw [if_neg hc] at h
    exact absurd rfl h
theorem impl_getHead (l : List Int) (hb : Bytes l) (hl : l.length ≤ 140737488351232) : Ev (fun k => impl_GetHead.f k l) (getHead l) := by
  unfold impl_GetHead.f
  refine Ev.then (impl_getWord l 0 hb hl) (Ev.then (impl_getWord l 2 hb hl) ?_)
  by_cases h0 : l = []
  · rw [getHead_no (fun h => h.1 h0)]
    exact Ev.pos (by rw [h0]; rfl) (Ev.done rfl)
  have h0' : l.length ≠ 0 := fun e => h0 (List.eq_nil_of_length_eq_zero e)
  refine Ev.neg (by omega) (Ev.bind (impl_headOf _ _) ?_)
  unfold bytes_Equal.f
  rw [sameBytes (headOf_bytes _ _) hb]
  by_cases h : headOf (word l 0).1 (word l 2).1 = l
  · rw [getHead_yes ⟨h0, h⟩]
    exact Ev.then rfl (Ev.pos (eqB_iff.2 h) (Ev.done rfl))
  · rw [getHead_no (fun e => h e.2)]
    exact Ev.then rfl (Ev.neg (by rw [eqB_not h]; decide) (Ev.done rfl))
theorem spec_getHead (l : List Int) (hb : Bytes l) (hl : l.length ≤ 140737488351232) : Ev (fun k => spec_GetHead.f k l) (getHead l) := by
  unfold spec_GetHead.f
  refine Ev.then (spec_getWord l 0 hb hl) (Ev.then (spec_getWord l 2 hb hl) ?_)
  by_cases hl6 : l.length = 6
  · have h0 : l ≠ [] := fun e => by rw [e] at hl6; cases hl6
    refine Ev.pos (by unfold word; rw [if_neg (by omega)]) (Ev.pos (by omega) (Ev.bind (spec_headOf _ _) ?_))
    unfold spec_l1Same.f
    rw [sameBytes (headOf_bytes _ _) hb]
    by_cases h : headOf (word l 0).1 (word l 2).1 = l
    · rw [getHead_yes ⟨h0, h⟩]
      exact Ev.then rfl (Ev.pos (eqB_iff.2 h) (Ev.done rfl))
    · rw [getHead_no (fun e => h e.2)]
      exact Ev.then rfl (Ev.neg (by rw [eqB_not h]; decide) (Ev.done rfl))
  · have hno : ¬ (l ≠ [] ∧ headOf (word l 0).1 (word l 2).1 = l) := by
      rintro ⟨h0, h⟩
      have := headOf_six (g := (word l 0).1) (n := (word l 2).1) (by rw [h]; exact h0)
      rw [h] at this
      exact hl6 this
    rw [getHead_no hno]
    by_cases h2 : (word l 2).2.2 = true
    · exact Ev.pos h2 (Ev.neg (by omega) (Ev.done rfl))
    · exact Ev.neg h2 (Ev.done rfl)
end Go.Proofs.Ytdanfcjaamcaiaa.Fn
