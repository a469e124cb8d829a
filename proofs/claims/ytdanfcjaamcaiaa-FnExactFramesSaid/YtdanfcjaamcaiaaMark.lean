/- What the laws' own texts that mark come to. No memory is in sight here. -/
import Derived.Test.YtdanfcjaamcaiaaPxd
import Derived.Test.YtdanfcjaamcaiaaLists
import Derived.Lib.Bytes
namespace Go.Proofs.Ytdanfcjaamcaiaa.Fn
set_option linter.unusedVariables false
set_option linter.unusedSimpArgs false
open Go.RowKit Go.Proofs.YtdanfcjaamcaiaaW.PrintWords Go.Proofs.Ytdanfcjaamcaiaa.P Go.Proofs.Ytdanfcjaamcaiaa.Base

theorem markText_l0 (n : Nat) : ∀ (x : Int) (s : ByteArray), x.toNat ≤ n → 0 ≤ x → (s.size : Int) + x ≤ 4611686018427387904 → ∃ t, Ev (fun k => laws_markText.l0 k x s) t := by
  induction n with
  | zero =>
    intro x s hn h0 hs
    exact ⟨_, Ev.step (fun k => laws_markText.l0.eq_2 _ _ k) (Ev.neg (by omega) (Ev.pos (by omega) (Ev.done rfl)))⟩
  | succ n ih =>
    intro x s hn h0 hs
    by_cases hx : x > 0
    · have hd : Int.tdiv x 10 = x / 10 := Int.tdiv_eq_ediv_of_nonneg h0
      have hsz : ((strOfNums [(wrap64 (48 + Int.tmod x 10)) % 256] ++ s).size : Int) = 1 + s.size := by rw [size_append, size_strOfNums]; simp
      obtain ⟨t, e⟩ := ih (x / 10) (strOfNums [(wrap64 (48 + Int.tmod x 10)) % 256] ++ s) (by omega) (by omega) (by omega)
      refine ⟨t, Ev.step (fun k => laws_markText.l0.eq_2 _ _ k) (Ev.pos hx (Ev.then rfl (Ev.pos ?_ ?_)))⟩
      · rw [size_strOfNums]; simp; omega
      · rw [hd, w64 (n := x / 10) (by omega) (by omega)]
        exact e
    · exact ⟨_, Ev.step (fun k => laws_markText.l0.eq_2 _ _ k) (Ev.neg hx (Ev.pos (by omega) (Ev.done rfl)))⟩
noncomputable def markT (x : Int) : ByteArray := @dite _ (∃ t, Ev (fun k => laws_markText.f k x) t) (Classical.propDecidable _) (fun h => h.choose) (fun _ => ⟨#[]⟩)
theorem markText (x : Int) (h : x ≤ 4611686018427387904) : Ev (fun k => laws_markText.f k x) (markT x) := by
  have ht : ∃ t, Ev (fun k => laws_markText.f k x) t := by
    unfold laws_markText.f
    by_cases hx : x ≤ 0
    · exact ⟨_, Ev.pos hx (Ev.done rfl)⟩
    · obtain ⟨t, e⟩ := markText_l0 x.toNat x ⟨#[]⟩ (Nat.le_refl _) (by omega) (by rw [show (⟨#[]⟩ : ByteArray).size = 0 from rfl]; omega)
      exact ⟨t, Ev.neg hx e⟩
  unfold markT
  rw [dif_pos ht]
  exact ht.choose_spec
end Go.Proofs.Ytdanfcjaamcaiaa.Fn
