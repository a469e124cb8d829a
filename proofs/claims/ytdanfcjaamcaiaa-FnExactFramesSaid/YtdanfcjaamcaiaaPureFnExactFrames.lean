/- The pure statement of the law FnExactFrames: the program's Frames and the reference's come to the same frames and code, the bytes stay, and nothing is shared. -/
import Derived.Test.YtdanfcjaamcaiaaPxd
import Derived.Test.YtdanfcjaamcaiaaFrameMarks
namespace Go.Proofs.Ytdanfcjaamcaiaa.Pure
set_option linter.unusedVariables false
set_option linter.unusedSimpArgs false
open Go.RowKit Go.Proofs.YtdanfcjaamcaiaaW.PrintWords Go.Proofs.Ytdanfcjaamcaiaa.P Go.Proofs.Ytdanfcjaamcaiaa.Base Go.Proofs.Ytdanfcjaamcaiaa.Fn
theorem FnExactFrames : laws_FnExactFrames.Pure := by
  intro l hm hl hw
  have hb := Bytes.of_wf hw
  refine Ev.rounds ?_
  unfold laws_FnExactFrames.f
  by_cases h : (l.length : Int) > 1048576
  · exact Ev.pos h (Ev.done rfl)
  have hf := frames_length (d := l.length) hb
  have hf' : (frames l.length l).1.length ≤ 1048576 := by omega
  refine Ev.neg h (Ev.bind (toByteS l (by omega)) (Ev.bind (spec_frames l hb (by omega)) (Ev.bind (toByteS l (by omega)) (Ev.bind (impl_frames l hb (by omega)) (Ev.bind (eqFrameS _ _ hf') (Ev.pos (eqB_same _) ?_))))))
  refine Ev.step (fun k => laws_FnExactFrames.j0.eq_2 _ _ _ _ _ _ _ k) (Ev.neg (by simp) (Ev.bind (toByteS l (by omega)) (Ev.bind (eqByteS_same l (by omega)) (Ev.pos rfl (Ev.bind (markByteS l 1 (by omega) (by omega)) (Ev.neg (by simp; omega) (Ev.bind (eqFrameS _ _ hf') (Ev.pos (eqB_same _) ?_))))))))
  refine Ev.step (fun k => laws_FnExactFrames.j1.eq_2 _ _ _ _ _ k) (Ev.neg (by simp) (Ev.bind (markFrameS _ hf') (Ev.bind (heldFrameS _ hf') (Ev.neg (by omega) (Ev.pos rfl (Ev.bind (toByteS l (by omega)) (Ev.bind (impl_frames l hb (by omega)) (Ev.bind (eqFrameS _ _ hf') (Ev.pos (eqB_same _) ?_)))))))))
  exact Ev.step (fun k => laws_FnExactFrames.j2.eq_2 _ _ _ k) (Ev.neg (by simp) (Ev.bind (heldFrameS _ hf') (Ev.neg (by omega) (Ev.pos rfl (Ev.done rfl)))))
end Go.Proofs.Ytdanfcjaamcaiaa.Pure
