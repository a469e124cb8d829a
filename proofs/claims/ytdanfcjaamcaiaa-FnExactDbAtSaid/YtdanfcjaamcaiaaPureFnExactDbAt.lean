/- The pure statement of the law FnExactDbAt: the program's DbAt and the reference's come to one answer, and the argument stays. -/
import Derived.Test.YtdanfcjaamcaiaaPxd
import Derived.Test.YtdanfcjaamcaiaaDbs
namespace Go.Proofs.Ytdanfcjaamcaiaa.Pure
set_option linter.unusedVariables false
set_option linter.unusedSimpArgs false
open Go.RowKit Go.Proofs.YtdanfcjaamcaiaaW.PrintWords Go.Proofs.Ytdanfcjaamcaiaa.P Go.Proofs.Ytdanfcjaamcaiaa.Base Go.Proofs.Ytdanfcjaamcaiaa.Fn
theorem FnExactDbAt : laws_FnExactDbAt.Pure := by
  rintro l name ⟨hl, hgl⟩ hn
  refine Ev.rounds ?_
  unfold laws_FnExactDbAt.f
  by_cases hs : (name.size : Int) > 1048576
  · exact Ev.pos hs (Ev.done rfl)
  refine Ev.neg hs ?_
  obtain ⟨r, e, h1, h2⟩ := szDbS l 1048576 hl (fun x hx => (hgl x hx).1) (by omega) (by omega)
  refine Ev.bind e ?_
  by_cases h : r < 0
  · exact Ev.pos h (Ev.done rfl)
  refine Ev.neg h ?_
  have hl' := h2 (by omega)
  have hll : (l.map dbOf).length ≤ 1048576 := by simp; omega
  refine Ev.bind (toDbS l (by omega)) (Ev.bind (spec_dbAt _ name (by omega)) (Ev.bind (toDbS l (by omega)) (Ev.then (impl_dbAt _ name) ?_)))
  generalize dbAns (dbAt (l.map dbOf) name) = t
  refine Ev.then ((eqDb ⟨t.1, t.2.1, t.2.2.1, t.2.2.2.1, t.2.2.2.2.1⟩ ⟨t.1, t.2.1, t.2.2.1, t.2.2.2.1, t.2.2.2.2.1⟩).trans (by rw [eqB_same])) (Ev.pos rfl ?_)
  refine Ev.step (fun k => laws_FnExactDbAt.j0.eq_2 _ _ _ k) (Ev.neg (by simp) ?_)
  exact Ev.bind (toDbS l (by omega)) (Ev.bind (eqDbS _ _ hll) (Ev.pos (eqB_same _) (Ev.done rfl)))
end Go.Proofs.Ytdanfcjaamcaiaa.Pure
