/- The pure statement of the law FnExactFrameText: the program's words of a frame are the reference's. -/
import Derived.Test.YtldfehmaophfjaaDoorPxd
import Derived.Test.YtldfehmaophfjaaDoorFrameText
namespace Go.Proofs.YtldfehmaophfjaaDoor.Pure
set_option linter.unusedVariables false
set_option linter.unusedSimpArgs false
open Go.RowKit Go.Proofs.YtldfehmaophfjaaDoorW.PrintWords Go.Proofs.YtldfehmaophfjaaDoor.P Go.Proofs.YtldfehmaophfjaaDoor.Base Go.Proofs.YtldfehmaophfjaaDoor.Fn
theorem FnExactFrameText : laws_FnExactFrameText.Pure := by
  intro a s b ha hs hb
  refine Ev.rounds ?_
  unfold laws_FnExactFrameText.f
  obtain ⟨r, e, h1⟩ := szFrame a s b hs
  refine Ev.then e ?_
  by_cases h : r < 0
  · exact Ev.pos h (Ev.done rfl)
  have := h1 (by omega)
  exact Ev.neg h (Ev.then rfl (Ev.bind (spec_frameText a s b (by omega)) (Ev.then rfl (Ev.bind (impl_frameText a s b (by omega)) (Ev.pos rfl (Ev.done rfl))))))
end Go.Proofs.YtldfehmaophfjaaDoor.Pure
