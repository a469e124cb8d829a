/- The pure statement of the law FnExactGetFrame: the program's GetFrame and the reference's come to one answer, and the bytes stay. -/
import Derived.Test.YtdanfcjaamcaiaaPxd
import Derived.Test.YtdanfcjaamcaiaaFrameBytes
namespace Go.Proofs.Ytdanfcjaamcaiaa.Pure
set_option linter.unusedVariables false
set_option linter.unusedSimpArgs false
open Go.RowKit Go.Proofs.YtdanfcjaamcaiaaW.PrintWords Go.Proofs.Ytdanfcjaamcaiaa.P Go.Proofs.Ytdanfcjaamcaiaa.Base Go.Proofs.Ytdanfcjaamcaiaa.Fn
theorem FnExactGetFrame : laws_FnExactGetFrame.Pure := by
  intro l hm hl hw
  have hb := Bytes.of_wf hw
  refine Ev.rounds ?_
  unfold laws_FnExactGetFrame.f
  by_cases h : (l.length : Int) > 1048576
  · exact Ev.pos h (Ev.done rfl)
  refine Ev.neg h (Ev.bind (toByteS l (by omega)) (Ev.bind (spec_getFrame l hb (by omega)) (Ev.bind (toByteS l (by omega)) (Ev.bind (impl_getFrame l hb (by omega)) (Ev.then (eqFrame _ _ _ _ _ _) (Ev.pos (eqB_same _) (Ev.pos rfl ?_)))))))
  exact Ev.step (fun k => laws_FnExactGetFrame.j0.eq_2 _ _ _ k) (Ev.neg (by simp) (Ev.bind (toByteS l (by omega)) (Ev.bind (eqByteS_same l (by omega)) (Ev.pos rfl (Ev.done rfl)))))
end Go.Proofs.Ytdanfcjaamcaiaa.Pure
