/- The pure statement of the law FnExactKnownOk: the program's KnownOk and the reference's come to one answer. -/
import Derived.Test.YtldfehmaophfjaaDoorPxd
import Derived.Test.YtldfehmaophfjaaDoorKnownOk
namespace Go.Proofs.YtldfehmaophfjaaDoor.Pure
set_option linter.unusedVariables false
set_option linter.unusedSimpArgs false
open Go.RowKit Go.Proofs.YtldfehmaophfjaaDoorW.PrintWords Go.Proofs.YtldfehmaophfjaaDoor.P Go.Proofs.YtldfehmaophfjaaDoor.Base Go.Proofs.YtldfehmaophfjaaDoor.Fn
theorem FnExactKnownOk : laws_FnExactKnownOk.Pure := by
  intro a s b u c d ha hs hb hu hc hd
  refine Ev.rounds ?_
  unfold laws_FnExactKnownOk.f
  obtain ⟨r, e, h1⟩ := szKnown a s b u c d 1048576 hs hu (by omega) (by omega)
  refine Ev.then e ?_
  by_cases h : r < 0
  · exact Ev.pos h (Ev.done rfl)
  obtain ⟨hs', hu', _⟩ := h1 (by omega)
  exact Ev.neg h (Ev.then rfl (Ev.bind (spec_knownOk a s b u c d hs' hu') (Ev.then rfl (Ev.bind (impl_knownOk a s b u c d hs' hu') (Ev.neg (by simp) (Ev.done rfl))))))
end Go.Proofs.YtldfehmaophfjaaDoor.Pure
