/- The pure statement of the law FnExactPutFrame: the program's PutFrame and the reference's come to the same bytes, and nothing is shared. -/
import Derived.Test.YtdanfcjaamcaiaaPxd
import Derived.Test.YtdanfcjaamcaiaaFrameBytes
namespace Go.Proofs.Ytdanfcjaamcaiaa.Pure
set_option linter.unusedVariables false
set_option linter.unusedSimpArgs false
open Go.RowKit Go.Proofs.YtdanfcjaamcaiaaW.PrintWords Go.Proofs.Ytdanfcjaamcaiaa.P Go.Proofs.Ytdanfcjaamcaiaa.Base Go.Proofs.Ytdanfcjaamcaiaa.Fn
theorem FnExactPutFrame : laws_FnExactPutFrame.Pure := by
  intro a s b ha hs hb
  refine Ev.rounds ?_
  unfold laws_FnExactPutFrame.f
  obtain ⟨r, e, h1⟩ := szFrame a s b hs
  refine Ev.then e ?_
  by_cases h : r < 0
  · exact Ev.pos h (Ev.done rfl)
  have h2 := h1 (by omega)
  have hl := putFrame_length a s b
  have hs' : s.size ≤ 9223372036854775807 := by omega
  refine Ev.neg h (Ev.then rfl (Ev.bind (spec_putFrame a s b hs') (Ev.then rfl (Ev.bind (impl_putFrame a s b hs') (Ev.bind (eqByteS_same _ (by omega)) (Ev.pos rfl (Ev.bind (markByteS _ 1 (by omega) (by omega)) (Ev.bind (heldByteS _ 1 (by omega) (by omega)) (Ev.neg (by omega) (Ev.pos rfl ?_))))))))))
  exact Ev.then rfl (Ev.bind (impl_putFrame a s b hs') (Ev.bind (eqByteS_same _ (by omega)) (Ev.pos rfl (Ev.bind (heldByteS _ 1 (by omega) (by omega)) (Ev.neg (by omega) (Ev.pos rfl (Ev.done rfl)))))))
end Go.Proofs.Ytdanfcjaamcaiaa.Pure
