/- The pure statement of the law FnExactPutText: the program's PutText and the reference's come to the same bytes, and nothing is shared. -/
import Derived.Test.YtjjnfolkanmdeaaPxd
import Derived.Test.YtjjnfolkanmdeaaWord
namespace Go.Proofs.Ytjjnfolkanmdeaa.Pure
set_option linter.unusedVariables false
set_option linter.unusedSimpArgs false
open Go.RowKit Go.Proofs.YtjjnfolkanmdeaaW.PrintWords Go.Proofs.Ytjjnfolkanmdeaa.P Go.Proofs.Ytjjnfolkanmdeaa.Base Go.Proofs.Ytjjnfolkanmdeaa.Fn
theorem FnExactPutText : laws_FnExactPutText.Pure := by
  intro l s hm hl hw hs
  refine Ev.rounds ?_
  unfold laws_FnExactPutText.f
  by_cases h : (l.length : Int) > 1048576
  · exact Ev.pos h (Ev.done rfl)
  refine Ev.neg h ?_
  by_cases h' : (s.size : Int) > 1048576
  · exact Ev.pos h' (Ev.done rfl)
  have hl2 := putText_length l s
  have hlen : (putText l s).length ≤ 140737488351232 := by omega
  refine Ev.neg h' (Ev.bind (toByteS l (by omega)) (Ev.bind (spec_putText l s (by omega) (by omega)) (Ev.bind (toByteS l (by omega)) (Ev.bind (impl_putText l s (by omega) (by omega)) (Ev.bind (eqByteS_same _ hlen) (Ev.pos rfl (Ev.bind (toByteS l (by omega)) (Ev.bind (eqByteS_same l (by omega)) (Ev.pos rfl (Ev.bind (markByteS l 1 (by omega) (by omega)) (Ev.neg (by simp; omega) (Ev.bind (eqByteS_same _ hlen) ?_))))))))))))
  refine Ev.step (fun k => laws_FnExactPutText.j0.eq_2 _ _ _ _ _ k) (Ev.neg (by simp) (Ev.bind (markByteS _ 1 (by omega) (by omega)) ?_))
  refine Ev.bind (heldByteS _ 1 (by omega) (by omega)) (Ev.neg (by omega) (Ev.pos rfl (Ev.bind (toByteS l (by omega)) (Ev.bind (impl_putText l s (by omega) (by omega)) (Ev.bind (eqByteS_same _ hlen) (Ev.pos rfl (Ev.bind (heldByteS _ 1 (by omega) (by omega)) (Ev.neg (by omega) (Ev.pos rfl (Ev.done rfl))))))))))
end Go.Proofs.Ytjjnfolkanmdeaa.Pure
