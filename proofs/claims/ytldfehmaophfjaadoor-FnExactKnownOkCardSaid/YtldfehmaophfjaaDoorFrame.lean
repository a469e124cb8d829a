/- What the printed functions on frames come to. No memory is in sight here. -/
import Derived.Test.YtldfehmaophfjaaDoorPxd
import Derived.Test.YtldfehmaophfjaaDoorTextOk
namespace Go.Proofs.YtldfehmaophfjaaDoor.Fn
set_option linter.unusedVariables false
set_option linter.unusedSimpArgs false
open Go.RowKit Go.Proofs.YtldfehmaophfjaaDoorW.PrintWords Go.Proofs.YtldfehmaophfjaaDoor.P Go.Proofs.YtldfehmaophfjaaDoor.Base

/-! ### names -/
def nameOk (s : ByteArray) : Bool := decide (1 ≤ s.size ∧ s.size ≤ 8) && decide (∀ i : Nat, i < s.size → 97 ≤ bt s (i : Int) ∧ bt s (i : Int) ≤ 122)
theorem nameOk_iff (s : ByteArray) : nameOk s = true ↔ (1 ≤ s.size ∧ s.size ≤ 8) ∧ ∀ i : Nat, i < s.size → 97 ≤ bt s (i : Int) ∧ bt s (i : Int) ≤ 122 := by simp [nameOk]
theorem nameOk_false {s : ByteArray} {i : Nat} (hi : i < s.size) (h : bt s (i : Int) < 97 ∨ 122 < bt s (i : Int)) : nameOk s = false := by
  rw [← Bool.not_eq_true, nameOk_iff]
  rintro ⟨_, a⟩
  have := a i hi
  omega
theorem nameOk_all {s : ByteArray} (hp : ∀ j : Nat, j < s.size → 97 ≤ bt s (j : Int) ∧ bt s (j : Int) ≤ 122) : decide ((1 : Int) ≤ (s.size : Int) ∧ (s.size : Int) ≤ 8) = nameOk s := by
  rw [Bool.eq_iff_iff, nameOk_iff, decide_eq_true_eq]
  exact ⟨fun h => ⟨by omega, hp⟩, fun h => by omega⟩
theorem impl_nameOk_l0 (s : ByteArray) (hs : s.size ≤ 9223372036854775807) (d : Nat) : ∀ (i : Nat), i + d = s.size → (∀ j : Nat, j < i → 97 ≤ bt s (j : Int) ∧ bt s (j : Int) ≤ 122) → Ev (fun k => impl_nameOk.l0 k s (s.size : Int) (i : Int)) (nameOk s) := by
  induction d with
  | zero =>
    intro i hi hp
    obtain rfl : i = s.size := by omega
    exact Ev.step (fun k => impl_nameOk.l0.eq_2 _ _ _ k) (Ev.neg (by omega) (Ev.then (isIn _ _ _) (Ev.done (nameOk_all hp))))
  | succ d ih =>
    intro i hi hp
    refine Ev.step (fun k => impl_nameOk.l0.eq_2 _ _ _ k) (Ev.pos (by omega) (Ev.pos (by omega) (Ev.pos (by omega) ?_)))
    by_cases h1 : bt s (i : Int) < 97
    · exact Ev.pos h1 (Ev.done (nameOk_false (by omega) (.inl h1)).symm)
    · refine Ev.neg h1 ?_
      by_cases h2 : bt s (i : Int) > 122
      · exact Ev.pos h2 (Ev.done (nameOk_false (by omega) (.inr h2)).symm)
      · refine Ev.neg h2 ?_
        rw [w64 (by omega) (by omega), cast_succ]
        refine ih (i + 1) (by omega) (fun j hj => ?_)
        rcases Nat.lt_or_ge j i with hj' | hj'
        · exact hp j hj'
        · obtain rfl : j = i := by omega
          omega
theorem impl_nameOk (s : ByteArray) (hs : s.size ≤ 9223372036854775807) : Ev (fun k => impl_nameOk.f k s) (nameOk s) := by
  unfold impl_nameOk.f
  exact impl_nameOk_l0 s hs s.size 0 (by omega) (fun j hj => by omega)
theorem spec_l1Name_l0 (s : ByteArray) (hs : s.size ≤ 9223372036854775807) (d : Nat) : ∀ (i : Nat), i + d = s.size → (∀ j : Nat, j < i → 97 ≤ bt s (j : Int) ∧ bt s (j : Int) ≤ 122) → Ev (fun k => spec_l1Name.l0 k s (i : Int)) (nameOk s) := by
  induction d with
  | zero =>
    intro i hi hp
    obtain rfl : i = s.size := by omega
    exact Ev.step (fun k => spec_l1Name.l0.eq_2 _ _ k) (Ev.neg (by omega) (Ev.then (l1In _ _ _) (Ev.done (nameOk_all hp))))
  | succ d ih =>
    intro i hi hp
    refine Ev.step (fun k => spec_l1Name.l0.eq_2 _ _ k) (Ev.pos (by omega) (Ev.pos (by omega) ?_))
    by_cases h1 : bt s (i : Int) < 97
    · exact Ev.pos h1 (Ev.done (nameOk_false (by omega) (.inl h1)).symm)
    · refine Ev.neg h1 ?_
      by_cases h2 : bt s (i : Int) > 122
      · exact Ev.pos h2 (Ev.done (nameOk_false (by omega) (.inr h2)).symm)
      · refine Ev.neg h2 ?_
        rw [w64 (by omega) (by omega), cast_succ]
        refine ih (i + 1) (by omega) (fun j hj => ?_)
        rcases Nat.lt_or_ge j i with hj' | hj'
        · exact hp j hj'
        · obtain rfl : j = i := by omega
          omega
theorem l1Name (s : ByteArray) (hs : s.size ≤ 9223372036854775807) : Ev (fun k => spec_l1Name.f k s) (nameOk s) := by
  unfold spec_l1Name.f
  exact spec_l1Name_l0 s hs s.size 0 (by omega) (fun j hj => by omega)

/-! ### frames -/
noncomputable def frameOk (kind : Int) (s : ByteArray) (st : Int) : Bool :=
  if kind = 1 then nameOk s && (st == 0)
  else if kind = 2 ∨ kind = 4 ∨ kind = 6 then textOk s && (st == 0)
  else if kind = 5 then eqB s ⟨#[]⟩ && decide (0 ≤ st ∧ st ≤ 2)
  else if kind = 3 then eqB s ⟨#[]⟩ && (st == 0)
  else false
theorem spec_frameOk (kind : Int) (s : ByteArray) (st : Int) (hs : s.size ≤ 9223372036854775807) : Ev (fun k => spec_FrameOk.f k kind s st) (frameOk kind s st) := by
  unfold spec_FrameOk.f frameOk
  by_cases h1 : kind = 1
  · rw [if_pos h1]
    refine Ev.pos h1 (Ev.bind (l1Name s hs) ?_)
    cases h : nameOk s
    · exact Ev.neg (by decide) (Ev.done rfl)
    · exact Ev.pos rfl (Ev.done rfl)
  rw [if_neg h1]
  refine Ev.neg h1 ?_
  have yes : ∀ b : Bool, b = true → Ev (fun k => spec_FrameOk.j0 k kind b kind s st) (textOk s && (st == 0)) := by
    intro b hb
    refine Ev.step (fun k => spec_FrameOk.j0.eq_2 _ _ _ _ _ k) (Ev.pos hb (Ev.bind (spec_textOk s hs) ?_))
    cases h : textOk s
    · exact Ev.neg (by decide) (Ev.done rfl)
    · exact Ev.pos rfl (Ev.done rfl)
  by_cases h2 : kind = 2
  · rw [if_pos (.inl h2)]; exact Ev.pos h2 (yes _ (by simpa using h2))
  refine Ev.neg h2 ?_
  by_cases h4 : kind = 4
  · rw [if_pos (.inr (.inl h4))]; exact Ev.pos h4 (yes _ (by simpa using h4))
  refine Ev.neg h4 ?_
  by_cases h6 : kind = 6
  · rw [if_pos (.inr (.inr h6))]; exact yes _ (by simpa using h6)
  rw [if_neg (by omega)]
  refine Ev.step (fun k => spec_FrameOk.j0.eq_2 _ _ _ _ _ k) (Ev.neg (by simpa using h6) ?_)
  by_cases h5 : kind = 5
  · refine Ev.eq ?_ (if_pos h5).symm
    refine Ev.pos h5 ?_
    by_cases he : s.toList = []
    · rw [text_nil.1 he, eqB_same, Bool.true_and]
      exact Ev.pos (text_nil.2 rfl) (Ev.then (l1In _ _ _) (Ev.done rfl))
    · rw [eqB_not (fun e => he (text_nil.2 e)), Bool.false_and]; exact Ev.neg he (Ev.done rfl)
  refine Ev.eq ?_ (if_neg h5).symm
  refine Ev.neg h5 ?_
  by_cases h3 : kind = 3
  · refine Ev.eq ?_ (if_pos h3).symm
    refine Ev.pos h3 ?_
    by_cases he : s.toList = []
    · rw [text_nil.1 he, eqB_same, Bool.true_and]; exact Ev.pos (text_nil.2 rfl) (Ev.done rfl)
    · rw [eqB_not (fun e => he (text_nil.2 e)), Bool.false_and]; exact Ev.neg he (Ev.done rfl)
  · exact Ev.neg h3 (Ev.done (if_neg h3).symm)
theorem impl_frameOk (kind : Int) (s : ByteArray) (st : Int) (hs : s.size ≤ 9223372036854775807) : Ev (fun k => impl_FrameOk.f k kind s st) (frameOk kind s st) := by
  unfold impl_FrameOk.f frameOk
  by_cases h1 : kind = 1
  · rw [if_pos h1]
    refine Ev.pos h1 (Ev.bind (impl_nameOk s hs) ?_)
    cases h : nameOk s
    · exact Ev.neg (by decide) (Ev.done rfl)
    · exact Ev.pos rfl (Ev.done rfl)
  rw [if_neg h1]
  refine Ev.neg h1 ?_
  have yes : ∀ b : Bool, b = true → Ev (fun k => impl_FrameOk.j0 k kind b kind s st) (textOk s && (st == 0)) := by
    intro b hb
    refine Ev.step (fun k => impl_FrameOk.j0.eq_2 _ _ _ _ _ k) (Ev.pos hb (Ev.bind (impl_textOk s hs) ?_))
    cases h : textOk s
    · exact Ev.neg (by decide) (Ev.done rfl)
    · exact Ev.pos rfl (Ev.done rfl)
  by_cases h2 : kind = 2
  · rw [if_pos (.inl h2)]; exact Ev.pos h2 (yes _ (by simpa using h2))
  refine Ev.neg h2 ?_
  by_cases h4 : kind = 4
  · rw [if_pos (.inr (.inl h4))]; exact Ev.pos h4 (yes _ (by simpa using h4))
  refine Ev.neg h4 ?_
  by_cases h6 : kind = 6
  · rw [if_pos (.inr (.inr h6))]; exact yes _ (by simpa using h6)
  rw [if_neg (by omega)]
  refine Ev.step (fun k => impl_FrameOk.j0.eq_2 _ _ _ _ _ k) (Ev.neg (by simpa using h6) ?_)
  by_cases h5 : kind = 5
  · refine Ev.eq ?_ (if_pos h5).symm
    refine Ev.pos h5 ?_
    by_cases he : s.toList = []
    · rw [text_nil.1 he, eqB_same, Bool.true_and]
      exact Ev.pos (text_nil.2 rfl) (Ev.then (isIn _ _ _) (Ev.done rfl))
    · rw [eqB_not (fun e => he (text_nil.2 e)), Bool.false_and]; exact Ev.neg he (Ev.done rfl)
  refine Ev.eq ?_ (if_neg h5).symm
  refine Ev.neg h5 ?_
  by_cases h3 : kind = 3
  · refine Ev.eq ?_ (if_pos h3).symm
    refine Ev.pos h3 (Ev.done ?_)
    by_cases he : s.toList = []
    · rw [text_nil.1 he, eqB_same, h3]; simp [text_nil.2]
    · rw [eqB_not (fun e => he (text_nil.2 e)), Bool.false_and]; simp [he]
  · exact Ev.neg h3 (Ev.done (if_neg h3).symm)
theorem toFrame (a : Int) (s : ByteArray) (b : Int) : laws_toFrame.f a s b = some (a, s, b) := rfl
theorem szFrame (a : Int) (s : ByteArray) (b : Int) (hs : s.size ≤ maxLen) : ∃ r, laws_szFrame.f a s b 1048576 = some r ∧ (0 ≤ r → s.size ≤ 1048576) := by
  unfold laws_szFrame.f
  have hm : maxLen = 9223372036854775807 := by decide
  rw [w64 (by omega) (by omega)]
  by_cases h : (1048576 : Int) - (s.size : Int) < 0
  · rw [if_pos h]; exact ⟨_, rfl, by omega⟩
  · rw [if_neg h]; exact ⟨_, rfl, by omega⟩
end Go.Proofs.YtldfehmaophfjaaDoor.Fn
