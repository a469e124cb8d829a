/- The pure statement of the law FnExactSameConf: the program's SameConf and the reference's come to one answer, and the arguments stay. -/
import Derived.Test.YtjjnfolkanmdeaaPxd
import Derived.Test.YtjjnfolkanmdeaaConf
namespace Go.Proofs.Ytjjnfolkanmdeaa.Pure
set_option linter.unusedVariables false
set_option linter.unusedSimpArgs false
open Go.RowKit Go.Proofs.YtjjnfolkanmdeaaW.PrintWords Go.Proofs.Ytjjnfolkanmdeaa.P Go.Proofs.Ytjjnfolkanmdeaa.Base Go.Proofs.Ytjjnfolkanmdeaa.Fn
theorem FnExactSameConf : laws_FnExactSameConf.Pure := by
  rintro l m ⟨hl, hgl⟩ ⟨hm, hgm⟩
  refine Ev.rounds ?_
  unfold laws_FnExactSameConf.f
  obtain ⟨r, e, h1, h2⟩ := szDbS l 1048576 hl (fun x hx => (hgl x hx).1) (by omega) (by omega)
  refine Ev.bind e ?_
  by_cases h : r < 0
  · exact Ev.pos h (Ev.done rfl)
  refine Ev.neg h ?_
  obtain ⟨q, e', h3, h4⟩ := szDbS m r hm (fun x hx => (hgm x hx).1) (by omega) (by omega)
  refine Ev.bind e' ?_
  by_cases h' : q < 0
  · exact Ev.pos h' (Ev.done rfl)
  have hl' := h2 (by omega)
  have hm' := h4 (by omega)
  have hll : (l.map dbOf).length ≤ 1048576 := by simp; omega
  have hml : (m.map dbOf).length ≤ 1048576 := by simp; omega
  refine Ev.neg h' (Ev.bind (toDbS l (by omega)) (Ev.bind (toDbS m (by omega)) (Ev.bind (spec_sameConf _ _ hll) (Ev.bind (toDbS l (by omega)) (Ev.bind (toDbS m (by omega)) (Ev.bind (impl_sameConf _ _ hll) (Ev.neg (by simp) ?_)))))))
  refine Ev.bind (toDbS l (by omega)) (Ev.bind (eqDbS _ _ hll) (Ev.pos (eqB_same _) (Ev.bind (toDbS m (by omega)) (Ev.bind (eqDbS _ _ hml) (Ev.pos (eqB_same _) (Ev.done rfl))))))
end Go.Proofs.Ytjjnfolkanmdeaa.Pure
