/- The pure statement of the law FnExactSum: the program's Sum and the reference's come to one number, and the bytes stay. -/
import Derived.Test.YtjjnfolkanmdeaaPxd
import Derived.Test.YtjjnfolkanmdeaaText
namespace Go.Proofs.Ytjjnfolkanmdeaa.Pure
set_option linter.unusedVariables false
set_option linter.unusedSimpArgs false
open Go.RowKit Go.Proofs.YtjjnfolkanmdeaaW.PrintWords Go.Proofs.Ytjjnfolkanmdeaa.P Go.Proofs.Ytjjnfolkanmdeaa.Base Go.Proofs.Ytjjnfolkanmdeaa.Fn
theorem FnExactSum : laws_FnExactSum.Pure := by
  intro l hm hl hw
  have hb := Bytes.of_wf hw
  refine Ev.rounds ?_
  unfold laws_FnExactSum.f
  by_cases h : (l.length : Int) > 1048576
  · exact Ev.pos h (Ev.done rfl)
  exact Ev.neg h (Ev.bind (toByteS l (by omega)) (Ev.bind (spec_sum l hb (by omega)) (Ev.bind (toByteS l (by omega)) (Ev.bind (impl_sum l hb (by omega)) (Ev.pos rfl (Ev.bind (toByteS l (by omega)) (Ev.bind (eqByteS_same l (by omega)) (Ev.pos rfl (Ev.done rfl)))))))))
end Go.Proofs.Ytjjnfolkanmdeaa.Pure
