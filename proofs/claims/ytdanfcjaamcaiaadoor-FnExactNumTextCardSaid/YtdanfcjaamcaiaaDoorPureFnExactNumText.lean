/- The pure statement of the law FnExactNumText: both numerals are the same. -/
import Derived.Test.YtdanfcjaamcaiaaDoorPxd
import Derived.Test.YtdanfcjaamcaiaaDoorNumText
namespace Go.Proofs.YtdanfcjaamcaiaaDoor.Pure
set_option linter.unusedVariables false
set_option linter.unusedSimpArgs false
open Go.RowKit Go.Proofs.YtdanfcjaamcaiaaDoorW.PrintWords Go.Proofs.YtdanfcjaamcaiaaDoor.P Go.Proofs.YtdanfcjaamcaiaaDoor.Base Go.Proofs.YtdanfcjaamcaiaaDoor.Fn
theorem FnExactNumText : laws_FnExactNumText.Pure := by
  intro n hn
  have hw := wf_i64 hn
  refine Ev.rounds ?_
  unfold laws_FnExactNumText.f
  exact Ev.bind (spec_numText n hw.1 hw.2) (Ev.then (impl_numText n hw.1 hw.2) (Ev.pos rfl (Ev.done rfl)))
end Go.Proofs.YtdanfcjaamcaiaaDoor.Pure
