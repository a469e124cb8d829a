/- What the printed functions that read frames, one after the other, come to. No memory is in sight here. -/
import Derived.Test.YtldfehmaophfjaaPxd
import Derived.Test.YtldfehmaophfjaaFrameBytes
namespace Go.Proofs.Ytldfehmaophfjaa.Fn
set_option linter.unusedVariables false
set_option linter.unusedSimpArgs false
open Go.RowKit Go.Proofs.YtldfehmaophfjaaW.PrintWords Go.Proofs.Ytldfehmaophfjaa.P Go.Proofs.Ytldfehmaophfjaa.Base

abbrev Frame := S47
theorem frame_eq {x y : Frame} (h0 : x.f0 = y.f0) (h1 : x.f1 = y.f1) (h2 : x.f2 = y.f2) : x = y := by
  cases x; cases y; simp_all
theorem getFrame_good {l : List Int} (hb : Bytes l) (h : (getFrame l).2.2.2.2 = 0) : 1 ≤ (getFrame l).2.2.2.1 ∧ (getFrame l).2.2.2.1 ≤ l.length := by
  have r0 := rd_byte hb 0
  have r1 := rd_byte hb 1
  unfold getFrame at h ⊢
  by_cases h0 : l = []
  · rw [if_pos h0] at h; simp [noFrame] at h
  have h0' : l.length ≠ 0 := fun e => h0 (List.eq_nil_of_length_eq_zero e)
  rw [if_neg h0] at h ⊢
  by_cases hk : ¬ (1 ≤ rd l 0 ∧ rd l 0 ≤ 6)
  · rw [if_pos hk] at h; simp [noFrame] at h
  rw [if_neg hk] at h ⊢
  by_cases h3 : rd l 0 = 3
  · rw [if_pos h3]; simp only []; omega
  rw [if_neg h3] at h ⊢
  by_cases h1 : l.length = 1
  · rw [if_pos h1] at h; simp [noFrame] at h
  rw [if_neg h1] at h ⊢
  by_cases h5 : rd l 0 = 5
  · rw [if_pos h5] at h ⊢
    by_cases hs : rd l 1 ≤ 2
    · rw [if_pos hs]; simp only []; omega
    · rw [if_neg hs] at h; simp [noFrame] at h
  rw [if_neg h5] at h ⊢
  by_cases hc : rd l 1 > 100
  · rw [if_pos hc] at h; simp [noFrame] at h
  rw [if_neg hc] at h ⊢
  by_cases hd : rd l 1 > (l.length : Int) - 2
  · rw [if_pos hd] at h; simp [noFrame] at h
  rw [if_neg hd] at h ⊢
  by_cases hf : frameOk (rd l 0) (frameText l) 0 = true
  · rw [if_pos hf]; simp only []; omega
  · rw [if_neg hf] at h; simp [noFrame] at h
def frameOf (r : Int × ByteArray × Int × Int × Int) : Frame := ⟨r.1, r.2.1, r.2.2.1⟩
noncomputable def frames : Nat → List Int → List Frame × Int
  | 0, _ => ([], 0)
  | d + 1, l => if l = [] then ([], 0) else if (getFrame l).2.2.2.2 = 0 then (frameOf (getFrame l) :: (frames d (l.drop (getFrame l).2.2.2.1.toNat)).1, (frames d (l.drop (getFrame l).2.2.2.1.toNat)).2) else ([], (getFrame l).2.2.2.2)
theorem frames_nil (d : Nat) : frames d [] = ([], 0) := by cases d <;> simp [frames]
theorem frames_length {d : Nat} : ∀ {l : List Int}, Bytes l → (frames d l).1.length ≤ l.length := by
  induction d with
  | zero => intro l _; simp [frames]
  | succ d ih =>
    intro l hb
    unfold frames
    by_cases h0 : l = []
    · rw [if_pos h0]; simp
    rw [if_neg h0]
    by_cases hc : (getFrame l).2.2.2.2 = 0
    · rw [if_pos hc]
      have hg := getFrame_good hb hc
      have := ih (hb.drop (getFrame l).2.2.2.1.toNat)
      rw [List.length_drop] at this
      simp only [List.length_cons]
      omega
    · rw [if_neg hc]; simp
theorem impl_Frames_l0 (d : Nat) : ∀ (l : List Int) (o : List Frame), Bytes l → l.length ≤ d → o.length + l.length ≤ 1048576 → Ev (fun k => impl_Frames.l0 k l o) (o ++ (frames d l).1, (frames d l).2) := by
  induction d with
  | zero =>
    intro l o hb hl hs
    have h0 : l = [] := List.eq_nil_of_length_eq_zero (by omega)
    subst h0
    exact Ev.step (fun k => impl_Frames.l0.eq_2 _ _ k) (Ev.neg (by simp) (Ev.done (by simp [frames])))
  | succ d ih =>
    intro l o hb hl hs
    refine Ev.step (fun k => impl_Frames.l0.eq_2 _ _ k) ?_
    by_cases h0 : l = []
    · subst h0
      exact Ev.neg (by simp) (Ev.done (by simp [frames]))
    have h0' : l.length ≠ 0 := fun e => h0 (List.eq_nil_of_length_eq_zero e)
    refine Ev.pos (by omega) (Ev.bind (impl_getFrame l hb (by omega)) ?_)
    by_cases hc : (getFrame l).2.2.2.2 = 0
    · have hg := getFrame_good hb hc
      have he : frames (d + 1) l = (frameOf (getFrame l) :: (frames d (l.drop (getFrame l).2.2.2.1.toNat)).1, (frames d (l.drop (getFrame l).2.2.2.1.toNat)).2) := by
        rw [frames, if_neg h0, if_pos hc]
      refine Ev.pos hc (Ev.pos (by omega) (Ev.pos (by omega) (Ev.pos (by omega) ?_)))
      rw [he]
      refine Ev.eq (ih _ (o ++ [frameOf (getFrame l)]) (hb.drop _) (by rw [List.length_drop]; omega) (by rw [List.length_drop, List.length_append, List.length_singleton]; omega)) ?_
      simp
    · have he : frames (d + 1) l = ([], (getFrame l).2.2.2.2) := by rw [frames, if_neg h0, if_neg hc]
      rw [he]
      exact Ev.neg hc (Ev.done (by simp))
theorem impl_frames (l : List Int) (hb : Bytes l) (hl : l.length ≤ 1048576) : Ev (fun k => impl_Frames.f k l) (frames l.length l) := by
  unfold impl_Frames.f
  exact Ev.eq (impl_Frames_l0 l.length l [] hb (Nat.le_refl _) (by simpa using hl)) (by simp)
theorem spec_Frames_l0 (l : List Int) (hb : Bytes l) (hl : l.length ≤ 1048576) (d : Nat) : ∀ (i : Nat) (o : List Frame), i ≤ l.length → l.length - i ≤ d → o.length ≤ i → Ev (fun k => spec_Frames.l0 k l o (i : Int)) (o ++ (frames d (l.drop i)).1, (frames d (l.drop i)).2) := by
  induction d with
  | zero =>
    intro i o hi hd ho
    refine Ev.step (fun k => spec_Frames.l0.eq_2 _ _ _ k) (Ev.neg (by omega) (Ev.done ?_))
    simp [frames]
  | succ d ih =>
    intro i o hi hd ho
    refine Ev.step (fun k => spec_Frames.l0.eq_2 _ _ _ k) ?_
    by_cases h : i = l.length
    · refine Ev.neg (by omega) (Ev.done ?_)
      rw [List.drop_of_length_le (by omega), frames_nil]
      simp
    have h0 : l.drop i ≠ [] := fun e => by have := congrArg List.length e; rw [List.length_drop] at this; simp at this; omega
    refine Ev.pos (by omega) (Ev.pos (by omega) (Ev.pos (by omega) ?_))
    rw [Int.toNat_natCast]
    refine Ev.bind (spec_getFrame (l.drop i) (hb.drop _) (by rw [List.length_drop]; omega)) ?_
    by_cases hc : (getFrame (l.drop i)).2.2.2.2 = 0
    · have hg := getFrame_good (hb.drop i) hc
      rw [List.length_drop] at hg
      obtain ⟨n, hn⟩ := Int.eq_ofNat_of_zero_le (show 0 ≤ (getFrame (l.drop i)).2.2.2.1 by omega)
      have he : frames (d + 1) (l.drop i) = (frameOf (getFrame (l.drop i)) :: (frames d (l.drop (i + n))).1, (frames d (l.drop (i + n))).2) := by
        rw [frames, if_neg h0, if_pos hc, hn, Int.toNat_natCast, List.drop_drop]
      refine Ev.pos hc (Ev.pos (by omega) ?_)
      rw [he, hn, w64 (by omega) (by omega), show (i : Int) + (n : Int) = ((i + n : Nat) : Int) by omega]
      refine Ev.eq (ih (i + n) (o ++ [frameOf (getFrame (l.drop i))]) (by omega) (by omega) (by rw [List.length_append, List.length_singleton]; omega)) ?_
      simp
    · have he : frames (d + 1) (l.drop i) = ([], (getFrame (l.drop i)).2.2.2.2) := by rw [frames, if_neg h0, if_neg hc]
      rw [he]
      exact Ev.neg hc (Ev.done (by simp))
theorem spec_frames (l : List Int) (hb : Bytes l) (hl : l.length ≤ 1048576) : Ev (fun k => spec_Frames.f k l) (frames l.length l) := by
  unfold spec_Frames.f
  exact Ev.eq (spec_Frames_l0 l hb hl l.length 0 [] (by omega) (by omega) (by simp)) (by simp)
end Go.Proofs.Ytldfehmaophfjaa.Fn
