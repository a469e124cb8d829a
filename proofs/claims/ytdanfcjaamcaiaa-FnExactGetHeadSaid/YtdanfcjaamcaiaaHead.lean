/- What the printed functions on heads come to. No memory is in sight here. -/
import Derived.Test.YtdanfcjaamcaiaaPxd
import Derived.Test.YtdanfcjaamcaiaaWord
namespace Go.Proofs.Ytdanfcjaamcaiaa.Fn
set_option linter.unusedVariables false
set_option linter.unusedSimpArgs false
open Go.RowKit Go.Proofs.YtdanfcjaamcaiaaW.PrintWords Go.Proofs.Ytdanfcjaamcaiaa.P Go.Proofs.Ytdanfcjaamcaiaa.Base

/-- Bytes, and the checksum behind them. -/
def summed (l : List Int) : List Int := l ++ wordBytes (crc l)
def headOf (g n : Int) : List Int := if 1 ≤ g ∧ g ≤ 60000 ∧ 0 ≤ n ∧ n ≤ 18 then summed (wordBytes g ++ wordBytes n) else []
theorem headBytes (g n : Int) : Bytes (wordBytes g ++ wordBytes n) := (wordBytes_bytes g).append (wordBytes_bytes n)
theorem summed_bytes {l : List Int} (h : Bytes l) : Bytes (summed l) := h.append (wordBytes_bytes _)
theorem headOf_bytes (g n : Int) : Bytes (headOf g n) := by
  unfold headOf
  split
  · exact summed_bytes (headBytes g n)
  · exact Bytes.nil
theorem headOf_length (g n : Int) : (headOf g n).length ≤ 6 := by
  unfold headOf
  split
  · simp [summed, wordBytes]
  · simp
theorem spec_headOf (g n : Int) : Ev (fun k => spec_HeadOf.f k g n) (headOf g n) := by
  unfold spec_HeadOf.f headOf
  have bad : ∀ b : Bool, b = true → Ev (fun k => spec_HeadOf.j0 k g n b) [] := fun b hb => Ev.step (fun k => spec_HeadOf.j0.eq_2 _ _ _ k) (Ev.pos hb (Ev.done rfl))
  refine Ev.then (l1In _ _ _) ?_
  by_cases hg : 1 ≤ g ∧ g ≤ 60000
  · refine Ev.pos (by simpa using hg) (Ev.then (l1In _ _ _) ?_)
    by_cases hn : 0 ≤ n ∧ n ≤ 18
    · rw [if_pos ⟨hg.1, hg.2, hn⟩]
      refine Ev.step (fun k => spec_HeadOf.j0.eq_2 _ _ _ k) (Ev.neg (by simp; omega) (Ev.then (spec_putWord _ _ (by simp)) (Ev.then (spec_putWord _ _ (by simp [wordBytes])) (Ev.bind (spec_sum _ (headBytes g n) (by simp [wordBytes])) (Ev.then (spec_putWord _ _ (by simp [wordBytes])) (Ev.done rfl))))))
    · rw [if_neg (by omega)]
      exact bad _ (by simp; omega)
  · rw [if_neg (by omega)]
    exact Ev.neg (by simp; omega) (bad _ rfl)
theorem impl_headOf (g n : Int) : Ev (fun k => impl_HeadOf.f k g n) (headOf g n) := by
  unfold impl_HeadOf.f headOf
  have bad : ∀ b : Bool, b = true → Ev (fun k => impl_HeadOf.j0 k g n b) [] := fun b hb => Ev.step (fun k => impl_HeadOf.j0.eq_2 _ _ _ k) (Ev.pos hb (Ev.done rfl))
  refine Ev.then (isIn _ _ _) ?_
  by_cases hg : 1 ≤ g ∧ g ≤ 60000
  · refine Ev.pos (by simpa using hg) (Ev.then (isIn _ _ _) ?_)
    by_cases hn : 0 ≤ n ∧ n ≤ 18
    · rw [if_pos ⟨hg.1, hg.2, hn⟩]
      refine Ev.step (fun k => impl_HeadOf.j0.eq_2 _ _ _ k) (Ev.neg (by simp; omega) (Ev.then (impl_putWord _ _ (by simp)) (Ev.then (impl_putWord _ _ (by simp [wordBytes])) (Ev.bind (impl_sum _ (headBytes g n) (by simp [wordBytes])) (Ev.then (impl_putWord _ _ (by simp [wordBytes])) (Ev.done rfl))))))
    · rw [if_neg (by omega)]
      exact bad _ (by simp; omega)
  · rw [if_neg (by omega)]
    exact Ev.neg (by simp; omega) (bad _ rfl)
end Go.Proofs.Ytdanfcjaamcaiaa.Fn
