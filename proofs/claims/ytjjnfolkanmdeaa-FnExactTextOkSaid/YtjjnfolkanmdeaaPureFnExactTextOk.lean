/- The pure statement of the law FnExactTextOk: the program's TextOk and the reference's come to one answer. -/
import Derived.Test.YtjjnfolkanmdeaaPxd
import Derived.Test.YtjjnfolkanmdeaaText
namespace Go.Proofs.Ytjjnfolkanmdeaa.Pure
set_option linter.unusedVariables false
set_option linter.unusedSimpArgs false
open Go.RowKit Go.Proofs.YtjjnfolkanmdeaaW.PrintWords Go.Proofs.Ytjjnfolkanmdeaa.P Go.Proofs.Ytjjnfolkanmdeaa.Base Go.Proofs.Ytjjnfolkanmdeaa.Fn
theorem FnExactTextOk : laws_FnExactTextOk.Pure := by
  intro s hs
  refine Ev.rounds ?_
  unfold laws_FnExactTextOk.f
  by_cases h : (s.size : Int) > 1048576
  · exact Ev.pos h (Ev.done rfl)
  · exact Ev.neg h (Ev.bind (spec_textOk s (by omega)) (Ev.bind (impl_textOk s (by omega)) (Ev.neg (by simp) (Ev.done rfl))))
end Go.Proofs.Ytjjnfolkanmdeaa.Pure
