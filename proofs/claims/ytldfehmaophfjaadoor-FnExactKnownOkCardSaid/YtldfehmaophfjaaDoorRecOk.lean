/- What the printed functions that check a record, and the known state, come to. -/
import Derived.Test.YtldfehmaophfjaaDoorPxd
import Derived.Test.YtldfehmaophfjaaDoorParseImpl
namespace Go.Proofs.YtldfehmaophfjaaDoor.Fn
set_option linter.unusedVariables false
set_option linter.unusedSimpArgs false
open Go.RowKit Go.Proofs.YtldfehmaophfjaaDoorW.PrintWords Go.Proofs.YtldfehmaophfjaaDoor.P Go.Proofs.YtldfehmaophfjaaDoor.Base

noncomputable def confB (s : ByteArray) : Bool := (parseConf s).2
def noText (s : ByteArray) : Bool := s.toList == ([] : List UInt8)
theorem spec_l4Text (s : ByteArray) (hs : s.size ≤ 1048576) : Ev (fun k => spec_l4Text.f k s) (confB s) := Ev.bind (spec_parseConf s hs) (Ev.done rfl)
theorem impl_confB (s : ByteArray) (hs : s.size ≤ 1048576) : Ev (fun k => impl_confOk.f k s) (confB s) := Ev.bind (impl_parseConf s hs) (Ev.done rfl)
noncomputable def recOk (kind n owner : Int) (s : ByteArray) : Bool :=
  decide (1 ≤ n ∧ n ≤ 60000) && (if kind = 1 then decide (owner = 0) && confB s else if kind = 2 then decide (owner = 0) && noText s else if kind = 3 then decide (0 ≤ owner ∧ owner ≤ 1) && noText s else false)
theorem spec_recOk (kind n owner : Int) (s : ByteArray) (hs : s.size ≤ 1048576) : Ev (fun k => spec_RecOk.f k kind n owner s) (recOk kind n owner s) := by
  unfold spec_RecOk.f recOk
  refine Ev.then (l1In _ _ _) ?_
  by_cases h0 : 1 ≤ n ∧ n ≤ 60000
  · rw [decide_eq_true h0, Bool.true_and]
    refine Ev.pos rfl ?_
    by_cases h1 : kind = 1
    · refine Ev.eq (Ev.pos h1 ?_) (if_pos h1).symm
      by_cases h2 : owner = 0
      · rw [decide_eq_true h2, Bool.true_and]; exact Ev.pos h2 (Ev.bind (spec_l4Text s hs) (Ev.done rfl))
      · rw [decide_eq_false h2, Bool.false_and]; exact Ev.neg h2 (Ev.done rfl)
    refine Ev.eq (Ev.neg h1 ?_) (if_neg h1).symm
    by_cases h1 : kind = 2
    · refine Ev.eq (Ev.pos h1 ?_) (if_pos h1).symm
      by_cases h2 : owner = 0
      · rw [decide_eq_true h2, Bool.true_and]; exact Ev.pos h2 (Ev.done rfl)
      · rw [decide_eq_false h2, Bool.false_and]; exact Ev.neg h2 (Ev.done rfl)
    refine Ev.eq (Ev.neg h1 ?_) (if_neg h1).symm
    by_cases h1 : kind = 3
    · refine Ev.eq (Ev.pos h1 (Ev.then (l1In _ _ _) ?_)) (if_pos h1).symm
      by_cases h2 : 0 ≤ owner ∧ owner ≤ 1
      · rw [decide_eq_true h2, Bool.true_and]; exact Ev.pos rfl (Ev.done rfl)
      · rw [decide_eq_false h2, Bool.false_and]; exact Ev.neg (by decide) (Ev.done rfl)
    exact Ev.neg h1 (Ev.done (if_neg h1).symm)
  · rw [decide_eq_false h0, Bool.false_and]; exact Ev.neg (by decide) (Ev.done rfl)
theorem impl_recOk (kind n owner : Int) (s : ByteArray) (hs : s.size ≤ 1048576) : Ev (fun k => impl_RecOk.f k kind n owner s) (recOk kind n owner s) := by
  unfold impl_RecOk.f recOk
  refine Ev.then (isIn _ _ _) ?_
  by_cases h0 : 1 ≤ n ∧ n ≤ 60000
  · rw [decide_eq_true h0, Bool.true_and]
    refine Ev.pos rfl ?_
    by_cases h1 : kind = 1
    · refine Ev.eq (Ev.pos h1 ?_) (if_pos h1).symm
      by_cases h2 : owner = 0
      · rw [decide_eq_true h2, Bool.true_and]; exact Ev.pos h2 (Ev.bind (impl_confB s hs) (Ev.done rfl))
      · rw [decide_eq_false h2, Bool.false_and]; exact Ev.neg h2 (Ev.done rfl)
    refine Ev.eq (Ev.neg h1 ?_) (if_neg h1).symm
    by_cases h1 : kind = 2
    · refine Ev.eq (Ev.pos h1 ?_) (if_pos h1).symm
      by_cases h2 : owner = 0
      · rw [decide_eq_true h2, Bool.true_and]; exact Ev.pos h2 (Ev.done rfl)
      · rw [decide_eq_false h2, Bool.false_and]; exact Ev.neg h2 (Ev.done rfl)
    refine Ev.eq (Ev.neg h1 ?_) (if_neg h1).symm
    by_cases h1 : kind = 3
    · refine Ev.eq (Ev.pos h1 (Ev.then (isIn _ _ _) ?_)) (if_pos h1).symm
      by_cases h2 : 0 ≤ owner ∧ owner ≤ 1
      · rw [decide_eq_true h2, Bool.true_and]; exact Ev.pos rfl (Ev.done rfl)
      · rw [decide_eq_false h2, Bool.false_and]; exact Ev.neg (by decide) (Ev.done rfl)
    exact Ev.neg h1 (Ev.done (if_neg h1).symm)
  · rw [decide_eq_false h0, Bool.false_and]; exact Ev.neg (by decide) (Ev.done rfl)
theorem toRec (a b c : Int) (s : ByteArray) : laws_toRec.f a b c s = some (a, b, c, s) := rfl
theorem szRec (a b c : Int) (s : ByteArray) (left : Int) (hs : s.size ≤ maxLen) (h0 : 0 ≤ left) (h1 : left ≤ 1048576) : ∃ r, laws_szRec.f a b c s left = some r ∧ (0 ≤ r → s.size ≤ 1048576) := by
  unfold laws_szRec.f
  have hm : maxLen = 9223372036854775807 := by decide
  rw [w64 (by omega) (by omega)]
  by_cases h : left - (s.size : Int) < 0
  · rw [if_pos h]; exact ⟨_, rfl, by omega⟩
  · rw [if_neg h]; exact ⟨_, rfl, by omega⟩
end Go.Proofs.YtldfehmaophfjaaDoor.Fn
