/- The pure statement of the law FnExactRecsOf: the program's RecsOf and the reference's come to the same records, and nothing is shared. -/
import Derived.Test.YtdanfcjaamcaiaaPxd
import Derived.Test.YtdanfcjaamcaiaaRecs
namespace Go.Proofs.Ytdanfcjaamcaiaa.Pure
set_option linter.unusedVariables false
set_option linter.unusedSimpArgs false
open Go.RowKit Go.Proofs.YtdanfcjaamcaiaaW.PrintWords Go.Proofs.Ytdanfcjaamcaiaa.P Go.Proofs.Ytdanfcjaamcaiaa.Base Go.Proofs.Ytdanfcjaamcaiaa.Fn
theorem FnExactRecsOf : laws_FnExactRecsOf.Pure := by
  intro a b c d e f ha hb hc hd he hf
  refine Ev.rounds ?_
  unfold laws_FnExactRecsOf.f
  obtain ⟨r, er, h1, h2⟩ := szKnown a b c d e f 1048576 hb hd (by omega) (by omega)
  refine Ev.then er ?_
  by_cases h : r < 0
  · exact Ev.pos h (Ev.done rfl)
  have hl := recsOf_length a b c d e f
  have hl' : (recsOf a b c d e f).length ≤ 1048576 := by omega
  refine Ev.neg h (Ev.then rfl (Ev.bind (spec_recsOf a b c d e f) (Ev.then rfl (Ev.bind (impl_recsOf a b c d e f) (Ev.bind (eqRecS _ _ hl') (Ev.pos (eqB_same _) (Ev.bind (markRecS _ hl') (Ev.bind (heldRecS _ hl') (Ev.neg (by omega) (Ev.pos rfl ?_))))))))))
  exact Ev.then rfl (Ev.bind (impl_recsOf a b c d e f) (Ev.bind (eqRecS _ _ hl') (Ev.pos (eqB_same _) (Ev.bind (heldRecS _ hl') (Ev.neg (by omega) (Ev.pos rfl (Ev.done rfl)))))))
end Go.Proofs.Ytdanfcjaamcaiaa.Pure
