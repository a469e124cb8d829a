/- The pure statement of the law FnSums: the program's checksum is the reference's, in its range, and a changed byte changes it. -/
import Derived.Test.YtjjnfolkanmdeaaPxd
import Derived.Test.YtjjnfolkanmdeaaDraw
namespace Go.Proofs.Ytjjnfolkanmdeaa.Pure
set_option linter.unusedVariables false
set_option linter.unusedSimpArgs false
open Go.RowKit Go.Proofs.YtjjnfolkanmdeaaW.PrintWords Go.Proofs.Ytjjnfolkanmdeaa.P Go.Proofs.Ytjjnfolkanmdeaa.Base Go.Proofs.Ytjjnfolkanmdeaa.Fn
theorem FnSums : laws_FnSums.Pure := by
  intro l hm hl hw
  have hb := Bytes.of_wf hw
  refine Ev.rounds ?_
  unfold laws_FnSums.f
  refine Ev.then (big l) ?_
  by_cases h : (l.length : Int) > 1048576
  · exact Ev.pos (by simpa using h) (Ev.done rfl)
  refine Ev.neg (by simpa using h) ?_
  obtain ⟨b, e, hlb, hB⟩ := drawSum l (by omega)
  have hr := crc_range b hB
  refine Ev.bind e (Ev.bind (impl_sum b hB (by omega)) (Ev.bind (spec_sum b hB (by omega)) (Ev.pos rfl (Ev.neg (by omega) ?_))))
  refine Ev.step (fun k => laws_FnSums.j0.eq_2 _ _ _ _ k) (Ev.neg (by simp; omega) ?_)
  by_cases h0 : (b.length : Int) = 0
  · refine Ev.pos h0 (Ev.pos ?_ (Ev.done rfl))
    have : b = [] := List.eq_nil_of_length_eq_zero (by omega)
    rw [this]; rfl
  · obtain ⟨x, ex, hx⟩ := bent l b hb (by omega) hB (by omega)
    have hne := hx.crc hB (by omega)
    have hxl := hx.length
    exact Ev.neg h0 (Ev.pos (by omega) (Ev.then ex (Ev.bind (impl_sum x (hx.bytes hB) (by omega)) (Ev.done (by simpa using hne)))))
end Go.Proofs.Ytjjnfolkanmdeaa.Pure
