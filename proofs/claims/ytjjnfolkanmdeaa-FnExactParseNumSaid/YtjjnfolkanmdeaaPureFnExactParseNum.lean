/- The pure statement of the law FnExactParseNum: the program's ParseNum and the reference's come to one answer. -/
import Derived.Test.YtjjnfolkanmdeaaPxd
import Derived.Test.YtjjnfolkanmdeaaText
namespace Go.Proofs.Ytjjnfolkanmdeaa.Pure
set_option linter.unusedVariables false
set_option linter.unusedSimpArgs false
open Go.RowKit Go.Proofs.YtjjnfolkanmdeaaW.PrintWords Go.Proofs.Ytjjnfolkanmdeaa.P Go.Proofs.Ytjjnfolkanmdeaa.Base Go.Proofs.Ytjjnfolkanmdeaa.Fn
theorem FnExactParseNum : laws_FnExactParseNum.Pure := by
  intro s most hs hm
  refine Ev.rounds ?_
  unfold laws_FnExactParseNum.f
  by_cases h : (s.size : Int) > 1048576
  · exact Ev.pos h (Ev.done rfl)
  · exact Ev.neg h (Ev.bind (spec_parseNum s most) (Ev.bind (impl_parseNum s most) (Ev.pos rfl (Ev.neg (by simp) (Ev.done rfl)))))
end Go.Proofs.Ytjjnfolkanmdeaa.Pure
