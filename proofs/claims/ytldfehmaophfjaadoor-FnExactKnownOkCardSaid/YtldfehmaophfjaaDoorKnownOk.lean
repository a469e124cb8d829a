/- What the printed functions that check the known state come to. -/
import Derived.Test.YtldfehmaophfjaaDoorPxd
import Derived.Test.YtldfehmaophfjaaDoorRecOk
namespace Go.Proofs.YtldfehmaophfjaaDoor.Fn
set_option linter.unusedVariables false
set_option linter.unusedSimpArgs false
open Go.RowKit Go.Proofs.YtldfehmaophfjaaDoorW.PrintWords Go.Proofs.YtldfehmaophfjaaDoor.P Go.Proofs.YtldfehmaophfjaaDoor.Base

noncomputable def genOk (n : Int) (s : ByteArray) : Bool := if n = 0 then noText s else decide (1 ≤ n ∧ n ≤ 60000) && confB s
noncomputable def knownOk (g : Int) (t : ByteArray) (pg : Int) (pt : ByteArray) (e o : Int) : Bool :=
  genOk g t && (genOk pg pt && (decide (0 ≤ e ∧ e ≤ 60000) && (decide (0 ≤ o ∧ o ≤ 1) && (decide (0 < e ∨ o = 0) && decide (pg = 0 ∨ g < pg)))))
theorem impl_genOk (n : Int) (s : ByteArray) (hs : s.size ≤ 1048576) : Ev (fun k => impl_genOk.f k n s) (genOk n s) := by
  unfold impl_genOk.f genOk
  by_cases h0 : n = 0
  · exact Ev.eq (Ev.pos h0 (Ev.done rfl)) (if_pos h0).symm
  refine Ev.eq (Ev.neg h0 (Ev.then (isIn _ _ _) ?_)) (if_neg h0).symm
  by_cases h : 1 ≤ n ∧ n ≤ 60000
  · rw [decide_eq_true h, Bool.true_and]; exact Ev.pos rfl (Ev.bind (impl_confB s hs) (Ev.done rfl))
  · rw [decide_eq_false h, Bool.false_and]; exact Ev.neg (by decide) (Ev.done rfl)
theorem impl_knownOk (g : Int) (t : ByteArray) (pg : Int) (pt : ByteArray) (e o : Int) (ht : t.size ≤ 1048576) (hp : pt.size ≤ 1048576) : Ev (fun k => impl_KnownOk.f k g t pg pt e o) (knownOk g t pg pt e o) := by
  unfold impl_KnownOk.f knownOk
  refine Ev.bind (impl_genOk g t ht) ?_
  cases genOk g t
  · exact Ev.neg (by decide) (Ev.done rfl)
  refine Ev.pos rfl (Ev.bind (impl_genOk pg pt hp) ?_)
  cases genOk pg pt
  · exact Ev.neg (by decide) (Ev.done rfl)
  refine Ev.pos rfl (Ev.then (isIn _ _ _) ?_)
  by_cases h : 0 ≤ e ∧ e ≤ 60000
  case neg => rw [decide_eq_false h]; exact Ev.neg (by decide) (Ev.done rfl)
  rw [decide_eq_true h]
  refine Ev.pos rfl (Ev.then (isIn _ _ _) ?_)
  by_cases h' : 0 ≤ o ∧ o ≤ 1
  case neg => rw [decide_eq_false h']; exact Ev.neg (by decide) (Ev.done rfl)
  rw [decide_eq_true h']
  refine Ev.pos rfl ?_
  have fin : Ev (fun _ : Nat => if pg = 0 then some true else some (decide (pg > g))) (decide (pg = 0 ∨ g < pg)) := by
    by_cases hz : pg = 0
    · exact Ev.pos hz (Ev.done (decide_eq_true (.inl hz)).symm)
    · refine Ev.neg hz (Ev.done ?_)
      rw [decide_eq_decide]
      omega
  by_cases he : e > 0
  · rw [decide_eq_true (.inl he : 0 < e ∨ o = 0)]; exact Ev.pos he fin
  refine Ev.neg he ?_
  by_cases ho : o = 0
  · rw [decide_eq_true (.inr ho : 0 < e ∨ o = 0)]; exact Ev.pos ho fin
  · rw [decide_eq_false (by omega : ¬ (0 < e ∨ o = 0))]; exact Ev.neg ho (Ev.done rfl)
noncomputable def genT (g : Int) (t : ByteArray) : Bool := if g = 0 then noText t else confB t
theorem genOk_in {g : Int} {t : ByteArray} (h : 0 ≤ g ∧ g ≤ 60000) : genOk g t = genT g t := by
  unfold genOk genT
  by_cases h0 : g = 0
  · rw [if_pos h0, if_pos h0]
  · rw [if_neg h0, if_neg h0, decide_eq_true (by omega), Bool.true_and]
theorem genOk_out {g : Int} {t : ByteArray} (h : ¬ (0 ≤ g ∧ g ≤ 60000)) : genOk g t = false := by
  unfold genOk
  rw [if_neg (by omega), decide_eq_false (by omega), Bool.false_and]
theorem spec_KnownOk_j1 (b : Bool) (g : Int) (t : ByteArray) (pg : Int) (pt : ByteArray) (e o : Int) (hp : pt.size ≤ 1048576) : Ev (fun k => spec_KnownOk.j1 k b g t pg pt e o) (!b && (genT pg pt && decide (pg = 0 ∨ g < pg))) := by
  refine Ev.step (fun k => spec_KnownOk.j1.eq_2 _ _ _ _ _ _ _ k) ?_
  cases b
  · refine Ev.neg (by decide) ?_
    unfold genT
    by_cases hz : pg = 0
    · refine Ev.eq (Ev.pos hz (Ev.done rfl)) ?_
      rw [if_pos hz, decide_eq_true (.inl hz : pg = 0 ∨ g < pg)]
      simp [noText]
    · refine Ev.neg hz ?_
      rw [if_neg hz]
      by_cases hgt : pg > g
      · refine Ev.eq (Ev.pos hgt (Ev.bind (spec_l4Text pt hp) (Ev.done rfl))) ?_
        rw [decide_eq_true (.inr hgt : pg = 0 ∨ g < pg)]
        simp
      · refine Ev.eq (Ev.neg hgt (Ev.done rfl)) ?_
        rw [decide_eq_false (by omega : ¬ (pg = 0 ∨ g < pg))]
        simp
  · exact Ev.pos rfl (Ev.done rfl)
theorem spec_KnownOk_j0 (b : Bool) (g : Int) (t : ByteArray) (pg : Int) (pt : ByteArray) (e o : Int) (hg : b = true ∨ 0 ≤ g) (ht : t.size ≤ 1048576) (hp : pt.size ≤ 1048576) : Ev (fun k => spec_KnownOk.j0 k b g t pg pt e o) (!b && (genT g t && (genT pg pt && decide (pg = 0 ∨ g < pg)))) := by
  refine Ev.step (fun k => spec_KnownOk.j0.eq_2 _ _ _ _ _ _ _ k) ?_
  cases b
  · have hg' : 0 ≤ g := hg.resolve_left (by decide)
    refine Ev.neg (by decide) ?_
    unfold genT
    by_cases hz : g = 0
    · rw [if_pos hz]
      refine Ev.pos hz ?_
      by_cases hn : t.toList = ([] : List UInt8)
      · refine Ev.eq (Ev.pos hn (Ev.neg (by omega) (spec_KnownOk_j1 _ _ _ _ _ _ _ hp))) ?_
        simp [noText, hn, genT]
      · refine Ev.eq (Ev.neg hn (spec_KnownOk_j1 _ _ _ _ _ _ _ hp)) ?_
        simp [noText, hn]
    · rw [if_neg hz]
      refine Ev.neg hz (Ev.eq (Ev.pos (by omega) (Ev.bind (spec_l4Text t ht) (spec_KnownOk_j1 _ _ _ _ _ _ _ hp))) ?_)
      simp [genT]
  · exact Ev.pos rfl (Ev.done rfl)
theorem spec_knownOk (g : Int) (t : ByteArray) (pg : Int) (pt : ByteArray) (e o : Int) (ht : t.size ≤ 1048576) (hp : pt.size ≤ 1048576) : Ev (fun k => spec_KnownOk.f k g t pg pt e o) (knownOk g t pg pt e o) := by
  unfold spec_KnownOk.f knownOk
  have bad : Ev (fun k => spec_KnownOk.j0 k true g t pg pt e o) false := spec_KnownOk_j0 true g t pg pt e o (.inl rfl) ht hp
  refine Ev.then (l1In _ _ _) ?_
  by_cases h1 : 0 ≤ g ∧ g ≤ 60000
  case neg => rw [genOk_out h1]; exact Ev.neg (by simpa using h1) bad
  rw [genOk_in h1]
  refine Ev.pos (by simpa using h1) (Ev.then (l1In _ _ _) ?_)
  by_cases h2 : 0 ≤ pg ∧ pg ≤ 60000
  case neg => rw [genOk_out h2]; exact Ev.eq (Ev.neg (by simpa using h2) bad) (by simp)
  rw [genOk_in h2]
  refine Ev.pos (by simpa using h2) (Ev.then (l1In _ _ _) ?_)
  by_cases h3 : 0 ≤ e ∧ e ≤ 60000
  case neg => rw [decide_eq_false h3]; exact Ev.eq (Ev.neg (by decide) bad) (by simp)
  rw [decide_eq_true h3]
  refine Ev.pos rfl (Ev.then (l1In _ _ _) ?_)
  by_cases h4 : 0 ≤ o ∧ o ≤ 1
  case neg => rw [decide_eq_false h4]; exact Ev.eq (Ev.neg (by decide) bad) (by simp)
  rw [decide_eq_true h4]
  refine Ev.pos rfl ?_
  by_cases he : e = 0
  · refine Ev.eq (Ev.pos he (spec_KnownOk_j0 _ g t pg pt e o (.inr h1.1) ht hp)) ?_
    by_cases ho : o = 0
    · rw [decide_eq_true (.inr ho : 0 < e ∨ o = 0)]; simp [ho]
    · rw [decide_eq_false (by omega : ¬ (0 < e ∨ o = 0))]; simp [ho]
  · refine Ev.eq (Ev.neg he (spec_KnownOk_j0 _ g t pg pt e o (.inr h1.1) ht hp)) ?_
    rw [decide_eq_true (by omega : 0 < e ∨ o = 0)]; simp
theorem toKnown (a : Int) (s : ByteArray) (b : Int) (u : ByteArray) (c d : Int) : laws_toKnown.f a s b u c d = some (a, s, b, u, c, d) := rfl
theorem szKnown (a : Int) (s : ByteArray) (b : Int) (u : ByteArray) (c d : Int) (left : Int) (hs : s.size ≤ maxLen) (hu : u.size ≤ maxLen) (h0 : 0 ≤ left) (h1 : left ≤ 1048576) : ∃ r, laws_szKnown.f a s b u c d left = some r ∧ (0 ≤ r → s.size ≤ 1048576 ∧ u.size ≤ 1048576 ∧ r ≤ left) := by
  unfold laws_szKnown.f
  have hm : maxLen = 9223372036854775807 := by decide
  rw [w64 (n := left - (s.size : Int)) (by omega) (by omega)]
  by_cases h : left - (s.size : Int) < 0
  · rw [if_pos h]; exact ⟨_, rfl, by omega⟩
  rw [if_neg h, w64 (by omega) (by omega)]
  by_cases h' : left - (s.size : Int) - (u.size : Int) < 0
  · rw [if_pos h']; exact ⟨_, rfl, by omega⟩
  · rw [if_neg h']; exact ⟨_, rfl, by omega⟩
end Go.Proofs.YtldfehmaophfjaaDoor.Fn
