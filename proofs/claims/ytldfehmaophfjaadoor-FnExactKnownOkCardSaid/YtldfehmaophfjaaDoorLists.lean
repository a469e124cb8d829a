/- Plain words on lists by their elements. No program is in sight here. -/
import Derived.Test.YtldfehmaophfjaaDoorBase
namespace Go.Proofs.YtldfehmaophfjaaDoor.Fn
set_option linter.unusedVariables false
set_option linter.unusedSimpArgs false
open Go.RowKit Go.Proofs.YtldfehmaophfjaaDoorW.PrintWords Go.Proofs.YtldfehmaophfjaaDoor.Base

theorem getD_set {α : Type} (l : List α) (d : α) {i : Nat} (h : i < l.length) (x : α) : (l.set i x).getD ((i : Int)).toNat d = x := by
  rw [getD_nat _ d (by rw [List.length_set]; exact h), List.getElem_set_self]
theorem drop_get {α : Type} (l : List α) (d : α) {i : Nat} (h : i < l.length) : l.drop i = l.getD ((i : Int)).toNat d :: l.drop (i + 1) := by
  rw [getD_nat l d h]; exact List.drop_eq_getElem_cons h
theorem eqB_cons {α : Type} (x y : α) (l m : List α) : eqB (x :: l) (y :: m) = (eqB x y && eqB l m) := by
  rw [Bool.eq_iff_iff, Bool.and_eq_true, eqB_iff, eqB_iff, eqB_iff, List.cons.injEq]
end Go.Proofs.YtldfehmaophfjaaDoor.Fn
