/- The pure statement of the law FnExactRecOk: the program's RecOk and the reference's come to one answer. -/
import Derived.Test.YtldfehmaophfjaaDoorPxd
import Derived.Test.YtldfehmaophfjaaDoorRecOk
namespace Go.Proofs.YtldfehmaophfjaaDoor.Pure
set_option linter.unusedVariables false
set_option linter.unusedSimpArgs false
open Go.RowKit Go.Proofs.YtldfehmaophfjaaDoorW.PrintWords Go.Proofs.YtldfehmaophfjaaDoor.P Go.Proofs.YtldfehmaophfjaaDoor.Base Go.Proofs.YtldfehmaophfjaaDoor.Fn
theorem FnExactRecOk : laws_FnExactRecOk.Pure := by
  intro a b c s ha hb hc hs
  refine Ev.rounds ?_
  unfold laws_FnExactRecOk.f
  obtain ⟨r, e, h1⟩ := szRec a b c s 1048576 hs (by omega) (by omega)
  refine Ev.then e ?_
  by_cases h : r < 0
  · exact Ev.pos h (Ev.done rfl)
  have := h1 (by omega)
  exact Ev.neg h (Ev.then rfl (Ev.bind (spec_recOk a b c s (by omega)) (Ev.then rfl (Ev.bind (impl_recOk a b c s (by omega)) (Ev.neg (by simp) (Ev.done rfl))))))
end Go.Proofs.YtldfehmaophfjaaDoor.Pure
