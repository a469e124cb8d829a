/- The pure statement of the law FnExactConfText: both texts are the same, and the argument stays. -/
import Derived.Test.YtldfehmaophfjaaDoorPxd
import Derived.Test.YtldfehmaophfjaaDoorConfText
namespace Go.Proofs.YtldfehmaophfjaaDoor.Pure
set_option linter.unusedVariables false
set_option linter.unusedSimpArgs false
open Go.RowKit Go.Proofs.YtldfehmaophfjaaDoorW.PrintWords Go.Proofs.YtldfehmaophfjaaDoor.P Go.Proofs.YtldfehmaophfjaaDoor.Base Go.Proofs.YtldfehmaophfjaaDoor.Fn
theorem FnExactConfText : laws_FnExactConfText.Pure := by
  rintro l ⟨hl, hgl⟩
  refine Ev.rounds ?_
  unfold laws_FnExactConfText.f
  obtain ⟨r, e, h1, h2⟩ := szDbS l 1048576 hl (fun x hx => (hgl x hx).1) (by omega) (by omega)
  refine Ev.bind e ?_
  by_cases h : r < 0
  · exact Ev.pos h (Ev.done rfl)
  refine Ev.neg h ?_
  have hl' := h2 (by omega)
  have hll : (l.map dbOf).length ≤ 1048576 := by simp; omega
  have hm : maxLen = 9223372036854775807 := by decide
  have hg' : ∀ x ∈ l.map dbOf, x.f0.size ≤ 9223372036854775807 := by
    intro x hx
    obtain ⟨y, hy, rfl⟩ := List.mem_map.1 hx
    exact hm ▸ (hgl y hy).1
  refine Ev.bind (toDbS l (by omega)) (Ev.bind (spec_confText _ hll hg') (Ev.bind (toDbS l (by omega)) (Ev.bind (impl_confText _ hll hg') (Ev.pos rfl ?_))))
  exact Ev.bind (toDbS l (by omega)) (Ev.bind (eqDbS _ _ hll) (Ev.pos (eqB_same _) (Ev.done rfl)))
end Go.Proofs.YtldfehmaophfjaaDoor.Pure
