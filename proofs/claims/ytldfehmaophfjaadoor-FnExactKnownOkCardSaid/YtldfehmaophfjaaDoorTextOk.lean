/- What the printed functions that test texts come to. No memory is in sight here. -/
import Derived.Test.YtldfehmaophfjaaDoorPxd
import Derived.Test.YtldfehmaophfjaaDoorBytes
namespace Go.Proofs.YtldfehmaophfjaaDoor.Fn
set_option linter.unusedVariables false
set_option linter.unusedSimpArgs false
open Go.RowKit Go.Proofs.YtldfehmaophfjaaDoorW.PrintWords Go.Proofs.YtldfehmaophfjaaDoor.P Go.Proofs.YtldfehmaophfjaaDoor.Base

/-! ### texts -/
def textOk (s : ByteArray) : Bool := decide (s.size ≤ 100) && decide (∀ i : Nat, i < s.size → 32 ≤ bt s (i : Int) ∧ bt s (i : Int) ≤ 126)
theorem textOk_iff (s : ByteArray) : textOk s = true ↔ s.size ≤ 100 ∧ ∀ i : Nat, i < s.size → 32 ≤ bt s (i : Int) ∧ bt s (i : Int) ≤ 126 := by simp [textOk]
theorem textOk_false {s : ByteArray} {i : Nat} (hi : i < s.size) (h : bt s (i : Int) < 32 ∨ 126 < bt s (i : Int)) : textOk s = false := by
  rw [← Bool.not_eq_true, textOk_iff]
  rintro ⟨_, a⟩
  have := a i hi
  omega
theorem textOk_long {s : ByteArray} (h : 100 < s.size) : textOk s = false := by
  rw [← Bool.not_eq_true, textOk_iff]
  rintro ⟨a, _⟩
  omega
theorem textOk_all {s : ByteArray} (hp : ∀ j : Nat, j < s.size → 32 ≤ bt s (j : Int) ∧ bt s (j : Int) ≤ 126) : decide ((s.size : Int) ≤ 100) = textOk s := by
  rw [Bool.eq_iff_iff, textOk_iff, decide_eq_true_eq]
  exact ⟨fun h => ⟨by omega, hp⟩, fun h => by omega⟩
theorem impl_TextOk_l0 (s : ByteArray) (hs : s.size ≤ 9223372036854775807) (d : Nat) : ∀ (i : Nat), i + d = s.size → (∀ j : Nat, j < i → 32 ≤ bt s (j : Int) ∧ bt s (j : Int) ≤ 126) → Ev (fun k => impl_TextOk.l0 k s (s.size : Int) (i : Int)) (textOk s) := by
  induction d with
  | zero =>
    intro i hi hp
    obtain rfl : i = s.size := by omega
    exact Ev.step (fun k => impl_TextOk.l0.eq_2 _ _ _ k) (Ev.neg (by omega) (Ev.done (textOk_all hp)))
  | succ d ih =>
    intro i hi hp
    refine Ev.step (fun k => impl_TextOk.l0.eq_2 _ _ _ k) (Ev.pos (by omega) (Ev.pos (by omega) (Ev.pos (by omega) ?_)))
    by_cases h1 : bt s (i : Int) < 32
    · exact Ev.pos h1 (Ev.done (textOk_false (by omega) (.inl h1)).symm)
    · refine Ev.neg h1 ?_
      by_cases h2 : bt s (i : Int) > 126
      · exact Ev.pos h2 (Ev.done (textOk_false (by omega) (.inr h2)).symm)
      · refine Ev.neg h2 ?_
        rw [w64 (by omega) (by omega), cast_succ]
        refine ih (i + 1) (by omega) (fun j hj => ?_)
        rcases Nat.lt_or_ge j i with hj' | hj'
        · exact hp j hj'
        · obtain rfl : j = i := by omega
          omega
theorem impl_textOk (s : ByteArray) (hs : s.size ≤ 9223372036854775807) : Ev (fun k => impl_TextOk.f k s) (textOk s) := by
  unfold impl_TextOk.f
  exact impl_TextOk_l0 s hs s.size 0 (by omega) (fun j hj => by omega)
theorem spec_TextOk_l0 (s : ByteArray) (hs : s.size ≤ 9223372036854775807) (d : Nat) : ∀ (i : Nat), i + d = s.size → i ≤ 101 → (∀ j : Nat, j < i → 32 ≤ bt s (j : Int) ∧ bt s (j : Int) ≤ 126) → Ev (fun k => spec_TextOk.l0 k s (i : Int)) (textOk s) := by
  induction d with
  | zero =>
    intro i hi hm hp
    obtain rfl : i = s.size := by omega
    exact Ev.step (fun k => spec_TextOk.l0.eq_2 _ _ k) (Ev.neg (by omega) (Ev.step (fun k => spec_TextOk.j1.eq_2 _ _ _ k) (Ev.neg (by decide) (Ev.done (textOk_all hp)))))
  | succ d ih =>
    intro i hi hm hp
    refine Ev.step (fun k => spec_TextOk.l0.eq_2 _ _ k) (Ev.pos (by omega) (Ev.step (fun k => spec_TextOk.j1.eq_2 _ _ _ k) ?_))
    by_cases h0 : i = 101
    · refine Ev.neg (by simp; omega) (Ev.done ?_)
      rw [textOk_long (by omega)]
      simp
      omega
    refine Ev.pos (by simp; omega) (Ev.pos (by omega) (Ev.pos (by omega) ?_))
    by_cases h1 : bt s (i : Int) < 32
    · exact Ev.pos h1 (Ev.done (textOk_false (by omega) (.inl h1)).symm)
    · refine Ev.neg h1 ?_
      by_cases h2 : bt s (i : Int) > 126
      · exact Ev.pos h2 (Ev.done (textOk_false (by omega) (.inr h2)).symm)
      · refine Ev.neg h2 ?_
        rw [w64 (by omega) (by omega), cast_succ]
        refine ih (i + 1) (by omega) (by omega) (fun j hj => ?_)
        rcases Nat.lt_or_ge j i with hj' | hj'
        · exact hp j hj'
        · obtain rfl : j = i := by omega
          omega
theorem spec_textOk (s : ByteArray) (hs : s.size ≤ 9223372036854775807) : Ev (fun k => spec_TextOk.f k s) (textOk s) := by
  unfold spec_TextOk.f
  exact spec_TextOk_l0 s hs s.size 0 (by omega) (by omega) (fun j hj => by omega)

end Go.Proofs.YtldfehmaophfjaaDoor.Fn
