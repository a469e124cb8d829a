/- The pure statement of the law FnExactFrameOk: the program's FrameOk and the reference's come to one answer. -/
import Derived.Test.YtjjnfolkanmdeaaPxd
import Derived.Test.YtjjnfolkanmdeaaFrame
namespace Go.Proofs.Ytjjnfolkanmdeaa.Pure
set_option linter.unusedVariables false
set_option linter.unusedSimpArgs false
open Go.RowKit Go.Proofs.YtjjnfolkanmdeaaW.PrintWords Go.Proofs.Ytjjnfolkanmdeaa.P Go.Proofs.Ytjjnfolkanmdeaa.Base Go.Proofs.Ytjjnfolkanmdeaa.Fn
theorem FnExactFrameOk : laws_FnExactFrameOk.Pure := by
  intro a s b ha hs hb
  refine Ev.rounds ?_
  unfold laws_FnExactFrameOk.f
  obtain ⟨r, e, h1⟩ := szFrame a s b hs
  refine Ev.then e ?_
  by_cases h : r < 0
  · exact Ev.pos h (Ev.done rfl)
  have := h1 (by omega)
  exact Ev.neg h (Ev.then rfl (Ev.bind (spec_frameOk a s b (by omega)) (Ev.then rfl (Ev.bind (impl_frameOk a s b (by omega)) (Ev.neg (by simp) (Ev.done rfl))))))
end Go.Proofs.Ytjjnfolkanmdeaa.Pure
