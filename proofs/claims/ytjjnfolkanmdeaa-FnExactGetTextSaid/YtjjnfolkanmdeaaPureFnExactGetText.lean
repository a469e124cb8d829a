/- The pure statement of the law FnExactGetText: the program's GetText and the reference's come to one answer, and the bytes stay. -/
import Derived.Test.YtjjnfolkanmdeaaPxd
import Derived.Test.YtjjnfolkanmdeaaText
namespace Go.Proofs.Ytjjnfolkanmdeaa.Pure
set_option linter.unusedVariables false
set_option linter.unusedSimpArgs false
open Go.RowKit Go.Proofs.YtjjnfolkanmdeaaW.PrintWords Go.Proofs.Ytjjnfolkanmdeaa.P Go.Proofs.Ytjjnfolkanmdeaa.Base Go.Proofs.Ytjjnfolkanmdeaa.Fn
theorem FnExactGetText : laws_FnExactGetText.Pure := by
  intro l a hm hl hw hi
  have hb := Bytes.of_wf hw
  refine Ev.rounds ?_
  unfold laws_FnExactGetText.f
  by_cases h : (l.length : Int) > 1048576
  · exact Ev.pos h (Ev.done rfl)
  refine Ev.neg h (Ev.bind (toByteS l (by omega)) (Ev.bind (spec_getText l a hb (by omega)) (Ev.bind (toByteS l (by omega)) (Ev.bind (impl_getText l a hb (by omega)) (Ev.pos rfl (Ev.pos rfl ?_))))))
  exact Ev.step (fun k => laws_FnExactGetText.j0.eq_2 _ _ _ k) (Ev.neg (by simp) (Ev.bind (toByteS l (by omega)) (Ev.bind (eqByteS_same l (by omega)) (Ev.pos rfl (Ev.done rfl)))))
end Go.Proofs.Ytjjnfolkanmdeaa.Pure
