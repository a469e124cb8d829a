/- The pure statement of the law FnExactHeadOf: the program's HeadOf and the reference's come to the same bytes, and nothing is shared. -/
import Derived.Test.YtjjnfolkanmdeaaPxd
import Derived.Test.YtjjnfolkanmdeaaHead
namespace Go.Proofs.Ytjjnfolkanmdeaa.Pure
set_option linter.unusedVariables false
set_option linter.unusedSimpArgs false
open Go.RowKit Go.Proofs.YtjjnfolkanmdeaaW.PrintWords Go.Proofs.Ytjjnfolkanmdeaa.P Go.Proofs.Ytjjnfolkanmdeaa.Base Go.Proofs.Ytjjnfolkanmdeaa.Fn
theorem FnExactHeadOf : laws_FnExactHeadOf.Pure := by
  intro g n hg hn
  refine Ev.rounds ?_
  unfold laws_FnExactHeadOf.f
  have hl := headOf_length g n
  refine Ev.bind (spec_headOf g n) (Ev.bind (impl_headOf g n) (Ev.bind (eqByteS_same _ (by omega)) (Ev.pos rfl (Ev.bind (markByteS _ 1 (by omega) (by omega)) (Ev.bind (heldByteS _ 1 (by omega) (by omega)) (Ev.neg (by omega) (Ev.pos rfl ?_)))))))
  exact Ev.bind (impl_headOf g n) (Ev.bind (eqByteS_same _ (by omega)) (Ev.pos rfl (Ev.bind (heldByteS _ 1 (by omega) (by omega)) (Ev.neg (by omega) (Ev.pos rfl (Ev.done rfl))))))
end Go.Proofs.Ytjjnfolkanmdeaa.Pure
