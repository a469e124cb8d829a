/- What the printed functions that write and read frames come to. No memory is in sight here. -/
import Derived.Test.YtldfehmaophfjaaPxd
import Derived.Test.YtldfehmaophfjaaFrame
import Derived.Test.YtldfehmaophfjaaWord
namespace Go.Proofs.Ytldfehmaophfjaa.Fn
set_option linter.unusedVariables false
set_option linter.unusedSimpArgs false
open Go.RowKit Go.Proofs.YtldfehmaophfjaaW.PrintWords Go.Proofs.Ytldfehmaophfjaa.P Go.Proofs.Ytldfehmaophfjaa.Base

/-! ### writing -/
noncomputable def putFrame (kind : Int) (s : ByteArray) (st : Int) : List Int :=
  if frameOk kind s st = true then (if kind = 5 then [kind % 256, st % 256] else if kind = 3 then [kind % 256] else putText [kind % 256] s) else []
theorem putFrame_length (kind : Int) (s : ByteArray) (st : Int) : (putFrame kind s st).length ≤ 102 := by
  unfold putFrame
  split
  · split
    · simp
    · split
      · simp
      · have := putText_length [kind % 256] s
        simp at this
        omega
  · simp
theorem putFrame_bytes (kind : Int) (s : ByteArray) (st : Int) : Bytes (putFrame kind s st) := by
  unfold putFrame
  have hk : Bytes [kind % 256] := Bytes.cons (by omega) Bytes.nil
  split
  · split
    · exact Bytes.cons (by omega) (Bytes.cons (by omega) Bytes.nil)
    · split
      · exact hk
      · exact putText_bytes hk s
  · exact Bytes.nil
theorem spec_putFrame (kind : Int) (s : ByteArray) (st : Int) (hs : s.size ≤ 9223372036854775807) : Ev (fun k => spec_PutFrame.f k kind s st) (putFrame kind s st) := by
  unfold spec_PutFrame.f putFrame
  refine Ev.bind (spec_frameOk kind s st hs) ?_
  by_cases h : frameOk kind s st = true
  · refine Ev.eq ?_ (if_pos h).symm
    refine Ev.pos h (Ev.then rfl ?_)
    by_cases h5 : kind = 5
    · refine Ev.eq ?_ (if_pos h5).symm
      exact Ev.pos h5 (Ev.pos (by simp) (Ev.done rfl))
    · refine Ev.eq ?_ (if_neg h5).symm
      refine Ev.neg h5 ?_
      by_cases h3 : kind = 3
      · refine Ev.eq ?_ (if_pos h3).symm
        exact Ev.pos h3 (Ev.done rfl)
      · refine Ev.eq ?_ (if_neg h3).symm
        exact Ev.neg h3 (Ev.bind (spec_putText _ s (by simp) hs) (Ev.done rfl))
  · exact Ev.neg h (Ev.done (if_neg h).symm)
theorem impl_putFrame (kind : Int) (s : ByteArray) (st : Int) (hs : s.size ≤ 9223372036854775807) : Ev (fun k => impl_PutFrame.f k kind s st) (putFrame kind s st) := by
  unfold impl_PutFrame.f putFrame
  refine Ev.bind (impl_frameOk kind s st hs) ?_
  by_cases h : frameOk kind s st = true
  · refine Ev.eq ?_ (if_pos h).symm
    refine Ev.pos h (Ev.then rfl ?_)
    by_cases h5 : kind = 5
    · refine Ev.eq ?_ (if_pos h5).symm
      exact Ev.pos h5 (Ev.pos (by simp) (Ev.done rfl))
    · refine Ev.eq ?_ (if_neg h5).symm
      refine Ev.neg h5 ?_
      by_cases h3 : kind = 3
      · refine Ev.eq ?_ (if_pos h3).symm
        exact Ev.pos h3 (Ev.done rfl)
      · refine Ev.eq ?_ (if_neg h3).symm
        exact Ev.neg h3 (Ev.bind (impl_putText _ s (by simp) hs) (Ev.done rfl))
  · exact Ev.neg h (Ev.done (if_neg h).symm)

/-! ### reading -/
/-- No frame: the zero frame, no length, and a code. -/
def noFrame (c : Int) : Int × ByteArray × Int × Int × Int := (0, ⟨#[]⟩, 0, 0, c)
def frameText (l : List Int) : ByteArray := strOfNums ((l.take (2 + rd l 1).toNat).drop 2)
noncomputable def getFrame (l : List Int) : Int × ByteArray × Int × Int × Int :=
  if l = [] then noFrame 1
  else if ¬ (1 ≤ rd l 0 ∧ rd l 0 ≤ 6) then noFrame 2
  else if rd l 0 = 3 then (3, ⟨#[]⟩, 0, 1, 0)
  else if l.length = 1 then noFrame 1
  else if rd l 0 = 5 then (if rd l 1 ≤ 2 then (5, ⟨#[]⟩, rd l 1, 2, 0) else noFrame 2)
  else if rd l 1 > 100 then noFrame 2
  else if rd l 1 > (l.length : Int) - 2 then noFrame 1
  else if frameOk (rd l 0) (frameText l) 0 = true then (rd l 0, frameText l, 0, 2 + rd l 1, 0) else noFrame 2
theorem frameOk3 : frameOk 3 ⟨#[]⟩ 0 = true := by simp [frameOk, eqB_same]
theorem frameOk5 (st : Int) (h : 0 ≤ st) : frameOk 5 ⟨#[]⟩ st = decide (st ≤ 2) := by simp [frameOk, eqB_same, h]
theorem frameOk_kind {k : Int} (h : ¬ (1 ≤ k ∧ k ≤ 6)) (s : ByteArray) (st : Int) : frameOk k s st = false := by
  unfold frameOk
  rw [if_neg (by omega), if_neg (by omega), if_neg (by omega), if_neg (by omega)]
theorem frameText_size (l : List Int) (hl : l.length ≤ 140737488351232) : (frameText l).size ≤ 9223372036854775807 := by
  unfold frameText
  rw [size_strOfNums, List.length_drop, List.length_take]
  omega
theorem spec_getFrame (l : List Int) (hb : Bytes l) (hl : l.length ≤ 140737488351232) : Ev (fun k => spec_GetFrame.f k l) (getFrame l) := by
  unfold spec_GetFrame.f getFrame
  by_cases h0 : l = []
  · exact Ev.pos (by rw [h0]; rfl) (Ev.done (if_pos h0).symm)
  have h0' : l.length ≠ 0 := fun e => h0 (List.eq_nil_of_length_eq_zero e)
  have r0 := rd_byte hb 0
  have r1 := rd_byte hb 1
  refine Ev.eq ?_ (if_neg h0).symm
  refine Ev.neg (by omega) (Ev.pos (by omega) ?_)
  rw [w64_byte hb, w64_byte hb]
  refine Ev.then (l1In _ _ _) ?_
  by_cases hk : 1 ≤ rd l 0 ∧ rd l 0 ≤ 6
  · refine Ev.eq ?_ (if_neg (not_not_intro hk)).symm
    refine Ev.pos (by simpa using hk) ?_
    by_cases h3 : rd l 0 = 3
    · refine Ev.eq ?_ (if_pos h3).symm
      refine Ev.pos h3 (Ev.bind (spec_frameOk _ _ _ (by decide)) ?_)
      rw [h3]
      exact Ev.pos frameOk3 (Ev.done rfl)
    refine Ev.eq ?_ (if_neg h3).symm
    refine Ev.neg h3 ?_
    by_cases h1 : l.length = 1
    · exact Ev.pos (by omega) (Ev.done (if_pos h1).symm)
    refine Ev.eq ?_ (if_neg h1).symm
    refine Ev.neg (by omega) ?_
    by_cases h5 : rd l 0 = 5
    · refine Ev.eq ?_ (if_pos h5).symm
      refine Ev.pos h5 (Ev.pos (by omega) (Ev.bind (spec_frameOk _ _ _ (by decide)) ?_))
      rw [h5, frameOk5 _ r1.1]
      by_cases hs : rd l 1 ≤ 2
      · exact Ev.pos (by simpa using hs) (Ev.done (if_pos hs).symm)
      · exact Ev.neg (by simpa using hs) (Ev.done (if_neg hs).symm)
    refine Ev.eq ?_ (if_neg h5).symm
    refine Ev.neg h5 (Ev.pos (by omega) ?_)
    by_cases hc : rd l 1 > 100
    · exact Ev.pos hc (Ev.done (if_pos hc).symm)
    refine Ev.eq ?_ (if_neg hc).symm
    refine Ev.neg hc ?_
    rw [w64 (n := (l.length : Int) - 2) (by omega) (by omega), w64 (n := 2 + rd l 1) (by omega) (by omega)]
    by_cases hd : rd l 1 > (l.length : Int) - 2
    · exact Ev.pos hd (Ev.done (if_pos hd).symm)
    refine Ev.eq ?_ (if_neg hd).symm
    refine Ev.neg hd (Ev.pos (by omega) (Ev.pos (by omega) (Ev.bind (spec_frameOk (rd l 0) (frameText l) 0 (frameText_size l hl)) ?_)))
    by_cases hf : frameOk (rd l 0) (frameText l) 0 = true
    · exact Ev.pos hf (Ev.done (if_pos hf).symm)
    · exact Ev.neg hf (Ev.done (if_neg hf).symm)
  · refine Ev.eq ?_ (if_pos hk).symm
    exact Ev.neg (by simpa using hk) (Ev.done rfl)
theorem impl_getFrame (l : List Int) (hb : Bytes l) (hl : l.length ≤ 140737488351232) : Ev (fun k => impl_GetFrame.f k l) (getFrame l) := by
  unfold impl_GetFrame.f getFrame
  by_cases h0 : l = []
  · exact Ev.pos (by rw [h0]; rfl) (Ev.done (if_pos h0).symm)
  have h0' : l.length ≠ 0 := fun e => h0 (List.eq_nil_of_length_eq_zero e)
  have r0 := rd_byte hb 0
  have r1 := rd_byte hb 1
  refine Ev.eq ?_ (if_neg h0).symm
  refine Ev.neg (by omega) (Ev.pos (by omega) ?_)
  rw [w64_byte hb, w64_byte hb]
  by_cases h3 : rd l 0 = 3
  · refine Ev.eq ?_ (if_neg (not_not_intro (by omega))).symm
    refine Ev.eq ?_ (if_pos h3).symm
    refine Ev.pos h3 (Ev.bind (impl_frameOk _ _ _ (by decide)) ?_)
    rw [h3]
    exact Ev.pos frameOk3 (Ev.done rfl)
  refine Ev.neg h3 ?_
  by_cases h5 : rd l 0 = 5
  · refine Ev.eq ?_ (if_neg (not_not_intro (by omega))).symm
    refine Ev.eq ?_ (if_neg h3).symm
    refine Ev.pos h5 ?_
    by_cases h1 : l.length = 1
    · exact Ev.pos (by omega) (Ev.done (if_pos h1).symm)
    refine Ev.eq ?_ (if_neg h1).symm
    refine Ev.eq ?_ (if_pos h5).symm
    refine Ev.neg (by omega) (Ev.pos (by omega) (Ev.bind (impl_frameOk _ _ _ (by decide)) ?_))
    rw [h5, frameOk5 _ r1.1]
    by_cases hs : rd l 1 ≤ 2
    · exact Ev.pos (by simpa using hs) (Ev.done (if_pos hs).symm)
    · exact Ev.neg (by simpa using hs) (Ev.done (if_neg hs).symm)
  refine Ev.neg h5 ?_
  have text : (1 ≤ rd l 0 ∧ rd l 0 ≤ 6) → ∀ b : Bool, b = true → Ev (fun k => impl_GetFrame.j0 k l 1 b (rd l 0) (⟨#[]⟩ : ByteArray) 0)
      (if l.length = 1 then noFrame 1 else if rd l 0 = 5 then (if rd l 1 ≤ 2 then (5, ⟨#[]⟩, rd l 1, 2, 0) else noFrame 2) else if rd l 1 > 100 then noFrame 2 else if rd l 1 > (l.length : Int) - 2 then noFrame 1
        else if frameOk (rd l 0) (frameText l) 0 = true then (rd l 0, frameText l, 0, 2 + rd l 1, 0) else noFrame 2) := by
    intro hk b hbt
    refine Ev.step (fun k => impl_GetFrame.j0.eq_2 _ _ _ _ _ _ k) (Ev.pos hbt ?_)
    by_cases h1 : l.length = 1
    · exact Ev.pos (by omega) (Ev.done (if_pos h1).symm)
    refine Ev.eq ?_ (if_neg h1).symm
    refine Ev.eq ?_ (if_neg h5).symm
    refine Ev.neg (by omega) (Ev.pos (by omega) ?_)
    rw [w64_byte hb]
    by_cases hc : rd l 1 > 100
    · exact Ev.pos hc (Ev.done (if_pos hc).symm)
    refine Ev.eq ?_ (if_neg hc).symm
    refine Ev.neg hc ?_
    rw [w64 (n := 2 + rd l 1) (by omega) (by omega)]
    by_cases hd : rd l 1 > (l.length : Int) - 2
    · exact Ev.pos (by omega) (Ev.done (if_pos hd).symm)
    refine Ev.eq ?_ (if_neg hd).symm
    refine Ev.neg (by omega) (Ev.pos (by omega) (Ev.pos (by omega) (Ev.bind (impl_frameOk (rd l 0) (frameText l) 0 (frameText_size l hl)) ?_)))
    by_cases hf : frameOk (rd l 0) (frameText l) 0 = true
    · exact Ev.pos hf (Ev.done (if_pos hf).symm)
    · exact Ev.neg hf (Ev.done (if_neg hf).symm)
  by_cases ha : rd l 0 = 1
  · refine Ev.eq ?_ (if_neg (not_not_intro (by omega))).symm
    refine Ev.eq ?_ (if_neg h3).symm
    exact Ev.pos ha (text (by omega) _ (by simpa using ha))
  refine Ev.neg ha ?_
  by_cases hb2 : rd l 0 = 2
  · refine Ev.eq ?_ (if_neg (not_not_intro (by omega))).symm
    refine Ev.eq ?_ (if_neg h3).symm
    exact Ev.pos hb2 (text (by omega) _ (by simpa using hb2))
  refine Ev.neg hb2 ?_
  by_cases h4 : rd l 0 = 4
  · refine Ev.eq ?_ (if_neg (not_not_intro (by omega))).symm
    refine Ev.eq ?_ (if_neg h3).symm
    exact Ev.pos h4 (text (by omega) _ (by simpa using h4))
  refine Ev.neg h4 ?_
  by_cases h6 : rd l 0 = 6
  · refine Ev.eq ?_ (if_neg (not_not_intro (by omega))).symm
    refine Ev.eq ?_ (if_neg h3).symm
    exact text (by omega) _ (by simpa using h6)
  have hk : ¬ (1 ≤ rd l 0 ∧ rd l 0 ≤ 6) := by omega
  refine Ev.eq ?_ (if_pos hk).symm
  refine Ev.step (fun k => impl_GetFrame.j0.eq_2 _ _ _ _ _ _ k) (Ev.neg (by simpa using h6) (Ev.bind (impl_frameOk _ _ _ (by decide)) ?_))
  rw [frameOk_kind hk]
  exact Ev.neg (by decide) (Ev.done rfl)
end Go.Proofs.Ytldfehmaophfjaa.Fn
