/- What is read as a frame is what the frame is written as; and what comes behind it does not matter. -/
import Derived.Test.YtldfehmaophfjaaPxd
import Derived.Test.YtldfehmaophfjaaFrames
namespace Go.Proofs.Ytldfehmaophfjaa.Fn
set_option linter.unusedVariables false
set_option linter.unusedSimpArgs false
open Go.RowKit Go.Proofs.YtldfehmaophfjaaW.PrintWords Go.Proofs.Ytldfehmaophfjaa.P Go.Proofs.Ytldfehmaophfjaa.Base

/-- The frame that was read, written again. -/
theorem putFrame_getFrame {l : List Int} (hb : Bytes l) (h : (getFrame l).2.2.2.2 = 0) : putFrame (getFrame l).1 (getFrame l).2.1 (getFrame l).2.2.1 = l.take (getFrame l).2.2.2.1.toNat := by
  have r0 := rd_byte hb 0
  have r1 := rd_byte hb 1
  unfold getFrame at h ⊢
  by_cases h0 : l = []
  · rw [if_pos h0] at h; simp [noFrame] at h
  have h0' : l.length ≠ 0 := fun e => h0 (List.eq_nil_of_length_eq_zero e)
  have e1 : l.take 1 = [rd l 0] := by
    have := take_succ_rd (l := l) (i := 0) (by omega)
    simpa using this
  rw [if_neg h0] at h ⊢
  by_cases hk : ¬ (1 ≤ rd l 0 ∧ rd l 0 ≤ 6)
  · rw [if_pos hk] at h; simp [noFrame] at h
  rw [if_neg hk] at h ⊢
  by_cases h3 : rd l 0 = 3
  · rw [if_pos h3]
    simp only []
    rw [putFrame, if_pos frameOk3, if_neg (by decide), if_pos rfl]
    rw [show (1 : Int).toNat = 1 from rfl, e1, h3]
    rfl
  rw [if_neg h3] at h ⊢
  by_cases h1 : l.length = 1
  · rw [if_pos h1] at h; simp [noFrame] at h
  have e2 : l.take 2 = [rd l 0, rd l 1] := by
    have := take_succ_rd (l := l) (i := 1) (by omega)
    rw [e1] at this
    simpa using this
  rw [if_neg h1] at h ⊢
  by_cases h5 : rd l 0 = 5
  · rw [if_pos h5] at h ⊢
    by_cases hs : rd l 1 ≤ 2
    · rw [if_pos hs]
      simp only []
      rw [putFrame, frameOk5 _ r1.1, if_pos (by simpa using hs), if_pos rfl, show (2 : Int).toNat = 2 from rfl, e2, h5]
      rw [Int.emod_eq_of_lt r1.1 (by omega)]
      rfl
    · rw [if_neg hs] at h; simp [noFrame] at h
  rw [if_neg h5] at h ⊢
  by_cases hc : rd l 1 > 100
  · rw [if_pos hc] at h; simp [noFrame] at h
  rw [if_neg hc] at h ⊢
  by_cases hd : rd l 1 > (l.length : Int) - 2
  · rw [if_pos hd] at h; simp [noFrame] at h
  rw [if_neg hd] at h ⊢
  by_cases hf : frameOk (rd l 0) (frameText l) 0 = true
  · rw [if_pos hf]
    simp only []
    obtain ⟨m, hm⟩ := Int.eq_ofNat_of_zero_le r1.1
    have hts : textOk (frameText l) = true := by
      unfold frameOk at hf
      by_cases k1 : rd l 0 = 1
      · rw [if_pos k1] at hf
        rw [Bool.and_eq_true] at hf
        have := (nameOk_iff _).1 hf.1
        rw [textOk_iff]
        exact ⟨by omega, fun i hi => by have := this.2 i hi; omega⟩
      · rw [if_neg k1, if_pos (by omega), Bool.and_eq_true] at hf
        exact hf.1
    have hbd : Bytes ((l.take (2 + rd l 1).toNat).drop 2) := (hb.take _).drop _
    have hsz : (frameText l).size = m := by
      unfold frameText
      rw [size_strOfNums, List.length_drop, List.length_take]
      omega
    rw [putFrame, if_pos hf, if_neg h5, if_neg h3, putText, if_pos hts, hsz, frameText, bytesOf_strOfNums hbd, hm]
    rw [Int.emod_eq_of_lt r0.1 (by omega), show (2 + (m : Int)).toNat = m + 2 by omega]
    have : l.take (m + 2) = (l.take (m + 2)).take 2 ++ (l.take (m + 2)).drop 2 := (List.take_append_drop 2 _).symm
    conv => rhs; rw [this, List.take_take, Nat.min_eq_left (by omega), e2, hm]
    rfl
  · rw [if_neg hf] at h; simp [noFrame] at h
theorem rd_append {l m : List Int} {i : Int} (h0 : 0 ≤ i) (h : i < l.length) : rd (l ++ m) i = rd l i := by
  obtain ⟨j, rfl⟩ := Int.eq_ofNat_of_zero_le h0
  rw [rd_nat, rd_nat, List.getD_eq_getElem?_getD, List.getD_eq_getElem?_getD, List.getElem?_append_left (by omega)]
/-- Where the bytes do not end too early, what comes behind them does not matter. -/
theorem getFrame_append {l : List Int} (hb : Bytes l) (m : List Int) (h : ¬ (getFrame l).2.2.2.2 = 1) : getFrame (l ++ m) = getFrame l := by
  have r0 := rd_byte hb 0
  have r1 := rd_byte hb 1
  unfold getFrame at h
  by_cases h0 : l = []
  · rw [if_pos h0] at h; simp [noFrame] at h
  have h0' : l.length ≠ 0 := fun e => h0 (List.eq_nil_of_length_eq_zero e)
  have a0 : rd (l ++ m) 0 = rd l 0 := rd_append (by omega) (by omega)
  have hne : l ++ m ≠ [] := by simp [h0]
  unfold getFrame
  rw [if_neg h0] at h
  rw [if_neg h0, if_neg hne, a0]
  by_cases hk : ¬ (1 ≤ rd l 0 ∧ rd l 0 ≤ 6)
  · rw [if_pos hk, if_pos hk]
  rw [if_neg hk] at h
  rw [if_neg hk, if_neg hk]
  by_cases h3 : rd l 0 = 3
  · rw [if_pos h3, if_pos h3]
  rw [if_neg h3] at h
  rw [if_neg h3, if_neg h3]
  by_cases h1 : l.length = 1
  · rw [if_pos h1] at h; simp [noFrame] at h
  have a1 : rd (l ++ m) 1 = rd l 1 := rd_append (by omega) (by omega)
  rw [if_neg h1] at h
  rw [if_neg h1, if_neg (by rw [List.length_append]; omega), a1]
  by_cases h5 : rd l 0 = 5
  · rw [if_pos h5, if_pos h5]
  rw [if_neg h5] at h
  rw [if_neg h5, if_neg h5]
  by_cases hc : rd l 1 > 100
  · rw [if_pos hc, if_pos hc]
  rw [if_neg hc] at h
  rw [if_neg hc, if_neg hc]
  by_cases hd : rd l 1 > (l.length : Int) - 2
  · rw [if_pos hd] at h; simp [noFrame] at h
  have at_ : frameText (l ++ m) = frameText l := by
    unfold frameText
    rw [a1, List.take_append_of_le_length (by omega)]
  rw [if_neg hd, if_neg (by rw [List.length_append]; omega), at_]
/-- The frames that were read, written one after the other. -/
noncomputable def allFrames (l : List Frame) : List Int := l.flatMap (fun x => putFrame x.f0 x.f1 x.f2)
theorem allFrames_cons (x : Frame) (l : List Frame) : allFrames (x :: l) = putFrame x.f0 x.f1 x.f2 ++ allFrames l := by simp [allFrames]
theorem frames_back (d : Nat) : ∀ (l : List Int), Bytes l → l.length ≤ d → ∃ n, n ≤ l.length ∧ allFrames (frames d l).1 = l.take n ∧ ((frames d l).2 = 0 → n = l.length) := by
  induction d with
  | zero =>
    intro l hb hl
    exact ⟨0, by omega, by simp [frames, allFrames], fun _ => by omega⟩
  | succ d ih =>
    intro l hb hl
    unfold frames
    by_cases h0 : l = []
    · rw [if_pos h0]; exact ⟨0, by omega, by simp [allFrames], fun _ => by simp [h0]⟩
    rw [if_neg h0]
    by_cases hc : (getFrame l).2.2.2.2 = 0
    · rw [if_pos hc]
      have hg := getFrame_good hb hc
      have hp := putFrame_getFrame hb hc
      obtain ⟨n, hn, ha, hz⟩ := ih (l.drop (getFrame l).2.2.2.1.toNat) (hb.drop _) (by rw [List.length_drop]; omega)
      rw [List.length_drop] at hn hz
      refine ⟨(getFrame l).2.2.2.1.toNat + n, by omega, ?_, fun e => by have := hz e; omega⟩
      simp only []
      rw [allFrames_cons, ha, List.take_add]
      congr 1
    · rw [if_neg hc]; exact ⟨0, by omega, by simp [allFrames], fun e => absurd e hc⟩
end Go.Proofs.Ytldfehmaophfjaa.Fn
