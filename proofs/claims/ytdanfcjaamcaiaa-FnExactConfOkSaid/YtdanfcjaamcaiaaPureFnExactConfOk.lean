/- The pure statement of the law FnExactConfOk: the program's ConfOk and the reference's come to one answer, and the argument stays. -/
import Derived.Test.YtdanfcjaamcaiaaPxd
import Derived.Test.YtdanfcjaamcaiaaDbs
namespace Go.Proofs.Ytdanfcjaamcaiaa.Pure
set_option linter.unusedVariables false
set_option linter.unusedSimpArgs false
open Go.RowKit Go.Proofs.YtdanfcjaamcaiaaW.PrintWords Go.Proofs.Ytdanfcjaamcaiaa.P Go.Proofs.Ytdanfcjaamcaiaa.Base Go.Proofs.Ytdanfcjaamcaiaa.Fn
theorem FnExactConfOk : laws_FnExactConfOk.Pure := by
  rintro l ⟨hl, hgl⟩
  refine Ev.rounds ?_
  unfold laws_FnExactConfOk.f
  obtain ⟨r, e, h1, h2⟩ := szDbS l 1048576 hl (fun x hx => (hgl x hx).1) (by omega) (by omega)
  refine Ev.bind e ?_
  by_cases h : r < 0
  · exact Ev.pos h (Ev.done rfl)
  refine Ev.neg h ?_
  have hl' := h2 (by omega)
  have hll : (l.map dbOf).length ≤ 1048576 := by simp; omega
  have hm : maxLen = 9223372036854775807 := by decide
  have hg' : ∀ x ∈ l.map dbOf, x.f0.size ≤ 9223372036854775807 := by
    intro x hx
    obtain ⟨y, hy, rfl⟩ := List.mem_map.1 hx
    exact hm ▸ (hgl y hy).1
  refine Ev.bind (toDbS l (by omega)) (Ev.bind (spec_confOk _ hll hg') (Ev.bind (toDbS l (by omega)) (Ev.bind (impl_confOk _ hll hg') (Ev.neg (by simp) ?_))))
  exact Ev.bind (toDbS l (by omega)) (Ev.bind (eqDbS _ _ hll) (Ev.pos (eqB_same _) (Ev.done rfl)))
end Go.Proofs.Ytdanfcjaamcaiaa.Pure
