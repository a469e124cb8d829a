/- What the printed functions that look for a database by its name, and that check a configuration, come to. -/
import Derived.Test.YtldfehmaophfjaaDoorPxd
import Derived.Test.YtldfehmaophfjaaDoorConf
import Derived.Test.YtldfehmaophfjaaDoorFrame
namespace Go.Proofs.YtldfehmaophfjaaDoor.Fn
set_option linter.unusedVariables false
set_option linter.unusedSimpArgs false
open Go.RowKit Go.Proofs.YtldfehmaophfjaaDoorW.PrintWords Go.Proofs.YtldfehmaophfjaaDoor.P Go.Proofs.YtldfehmaophfjaaDoor.Base

/-! ### a database by its name -/
def dbAt (l : List Db) (name : ByteArray) : Option Db := l.find? (fun x => x.f0.toList == name.toList)
def dbAns : Option Db → ByteArray × Int × Int × Int × Int × Bool
  | none => ((⟨#[]⟩ : ByteArray), 0, 0, 0, 0, false)
  | some x => (x.f0, x.f1, x.f2, x.f3, x.f4, true)
theorem place_at (name : ByteArray) (l : List Db) : ∀ (i : Nat), (dbAt l name = none ∧ impl_dbPlace.l0 l name i = -1) ∨ ∃ (j : Nat) (h : j < l.length), dbAt l name = some l[j] ∧ impl_dbPlace.l0 l name i = ((i + j : Nat) : Int) := by
  induction l with
  | nil => intro i; exact .inl ⟨rfl, rfl⟩
  | cons x xs ih =>
    intro i
    rw [impl_dbPlace.l0, dbAt, List.find?_cons]
    by_cases h : x.f0.toList = name.toList
    · refine .inr ⟨0, by simp, ?_, ?_⟩
      · simp [h]
      · rw [if_pos h]; rfl
    · have hb : (x.f0.toList == name.toList) = false := by simpa using h
      rw [if_neg h, hb]
      rcases ih (i + 1) with ⟨h1, h2⟩ | ⟨j, hj, h1, h2⟩
      · exact .inl ⟨h1, h2⟩
      · refine .inr ⟨j + 1, by simp; omega, ?_, ?_⟩
        · simpa [dbAt] using h1
        · rw [cast_succ, h2]; congr 1; omega
/-- No database of a name stands at j, .., j + e - 1. -/
def noneAt (l : List Db) (name : ByteArray) : Nat → Nat → Bool
  | _, 0 => true
  | j, e + 1 => !((rd_T90 l (j : Int)).f0.toList == name.toList) && noneAt l name (j + 1) e
def dbOk (x : Db) : Bool := nameOk x.f0 && (decide (1 ≤ x.f1 ∧ x.f1 ≤ 3) && (decide (0 ≤ x.f2 ∧ x.f2 ≤ 4) && (decide (1 ≤ x.f3 ∧ x.f3 ≤ 20) && decide (1 ≤ x.f4 ∧ x.f4 ≤ 20))))
def confFrom (l : List Db) : Nat → Nat → Bool
  | _, 0 => decide ((1 : Int) ≤ (l.length : Int) ∧ (l.length : Int) ≤ 3)
  | i, d + 1 => dbOk (rd_T90 l (i : Int)) && (noneAt l (rd_T90 l (i : Int)).f0 0 i && confFrom l (i + 1) d)
theorem spec_l3Db (x : Db) (hx : x.f0.size ≤ 9223372036854775807) : Ev (fun k => spec_l3Db.f k x.f0 x.f1 x.f2 x.f3 x.f4) (dbOk x) := by
  unfold spec_l3Db.f dbOk
  refine Ev.bind (l1Name _ hx) ?_
  cases nameOk x.f0
  · exact Ev.neg (by decide) (Ev.done rfl)
  · refine Ev.pos rfl (Ev.then (l1In _ _ _) ?_)
    generalize decide (1 ≤ x.f1 ∧ x.f1 ≤ 3) = b1
    cases b1
    · exact Ev.neg (by decide) (Ev.done rfl)
    · refine Ev.pos rfl (Ev.then (l1In _ _ _) ?_)
      generalize decide (0 ≤ x.f2 ∧ x.f2 ≤ 4) = b2
      cases b2
      · exact Ev.neg (by decide) (Ev.done rfl)
      · refine Ev.pos rfl (Ev.then (l1In _ _ _) ?_)
        generalize decide (1 ≤ x.f3 ∧ x.f3 ≤ 20) = b3
        cases b3
        · exact Ev.neg (by decide) (Ev.done rfl)
        · exact Ev.pos rfl (Ev.then (l1In _ _ _) (Ev.done (by simp)))
theorem spec_ConfOk_l1 (l : List Db) (hl : l.length ≤ 1048577) (i : Nat) (hi : i < l.length) (b : Bool) (hb : Ev (fun k => spec_ConfOk.l0 k l ((i + 1 : Nat) : Int)) b) (e : Nat) : ∀ (j : Nat), j + e = i →
    Ev (fun k => spec_ConfOk.l1 k l (i : Int) (j : Int)) (noneAt l (rd_T90 l (i : Int)).f0 j e && b) := by
  induction e with
  | zero =>
    intro j hj
    refine Ev.step (fun k => spec_ConfOk.l1.eq_2 _ _ _ k) (Ev.neg (by omega) ?_)
    rw [w64 (n := (i : Int) + 1) (by omega) (by omega), cast_succ]
    exact Ev.eq hb (by simp [noneAt])
  | succ e ih =>
    intro j hj
    refine Ev.step (fun k => spec_ConfOk.l1.eq_2 _ _ _ k) (Ev.pos (by omega) (Ev.pos (by omega) (Ev.pos (by omega) (Ev.pos (by omega) (Ev.pos (by omega) ?_)))))
    rw [noneAt]
    by_cases h : (rd_T90 l (j : Int)).f0.toList = (rd_T90 l (i : Int)).f0.toList
    · exact Ev.pos h (Ev.done (by rw [beq_iff_eq.2 h]; rfl))
    · refine Ev.neg h ?_
      rw [w64 (n := (j : Int) + 1) (by omega) (by omega), cast_succ]
      refine Ev.eq (ih (j + 1) (by omega)) ?_
      rw [beq_eq_false_iff_ne.2 h]
      rfl
theorem spec_ConfOk_l0 (l : List Db) (hl : l.length ≤ 1048577) (hg : ∀ x ∈ l, x.f0.size ≤ 9223372036854775807) (d : Nat) : ∀ (i : Nat), i + d = l.length → Ev (fun k => spec_ConfOk.l0 k l (i : Int)) (confFrom l i d) := by
  induction d with
  | zero =>
    intro i hi
    exact Ev.step (fun k => spec_ConfOk.l0.eq_2 _ _ k) (Ev.neg (by omega) (Ev.then (l1In _ _ _) (Ev.done rfl)))
  | succ d ih =>
    intro i hi
    have he : rd_T90 l (i : Int) = l[i] := getD_nat l _ (by omega)
    refine Ev.step (fun k => spec_ConfOk.l0.eq_2 _ _ k) (Ev.pos (by omega) (Ev.pos (by omega) (Ev.bind (spec_l3Db _ (by rw [he]; exact hg _ (List.getElem_mem _))) ?_)))
    rw [confFrom]
    cases dbOk (rd_T90 l (i : Int))
    · exact Ev.neg (by decide) (Ev.done rfl)
    · refine Ev.pos rfl ?_
      rw [Bool.true_and]
      exact spec_ConfOk_l1 l hl i (by omega) _ (ih (i + 1) (by omega)) i 0 (by omega)
theorem spec_confOk (l : List Db) (hl : l.length ≤ 1048577) (hg : ∀ x ∈ l, x.f0.size ≤ 9223372036854775807) : Ev (fun k => spec_ConfOk.f k l) (confFrom l 0 l.length) := spec_ConfOk_l0 l hl hg l.length 0 (by omega)
theorem place_none (l : List Db) (i : Nat) (hi : i < l.length) (e : Nat) : ∀ (j : Nat), j + e = i →
    decide (impl_dbPlace.l0 (l.drop j) (rd_T90 l (i : Int)).f0 (j : Int) = (i : Int)) = noneAt l (rd_T90 l (i : Int)).f0 j e := by
  induction e with
  | zero =>
    intro j hj
    obtain rfl : j = i := by omega
    rw [drop_get l z90 hi, impl_dbPlace.l0]
    unfold rd_T90
    rw [if_pos rfl]
    simp [noneAt]
  | succ e ih =>
    intro j hj
    rw [drop_get l z90 (show j < l.length by omega), impl_dbPlace.l0, noneAt]
    by_cases h : (rd_T90 l (j : Int)).f0.toList = (rd_T90 l (i : Int)).f0.toList
    · rw [if_pos (by unfold rd_T90 at h ⊢; exact h), beq_iff_eq.2 h]
      simp; omega
    · rw [if_neg (by unfold rd_T90 at h ⊢; exact h), beq_eq_false_iff_ne.2 h, cast_succ, ih (j + 1) (by omega)]
      rfl
theorem impl_ConfOk_l0 (l : List Db) (hl : l.length ≤ 1048577) (hg : ∀ x ∈ l, x.f0.size ≤ 9223372036854775807) (d : Nat) : ∀ (i : Nat), i + d = l.length → Ev (fun k => impl_ConfOk.l0 k l l (l.length : Int) (i : Int)) (confFrom l i d) := by
  induction d with
  | zero =>
    intro i hi
    exact Ev.step (fun k => impl_ConfOk.l0.eq_2 _ _ _ _ k) (Ev.neg (by omega) (Ev.then (isIn _ _ _) (Ev.done rfl)))
  | succ d ih =>
    intro i hi
    have he : rd_T90 l (i : Int) = l[i] := getD_nat l _ (by omega)
    have hp := place_none l i (by omega) i 0 (by omega)
    refine Ev.step (fun k => impl_ConfOk.l0.eq_2 _ _ _ _ k) (Ev.pos (by omega) (Ev.pos (by omega) (Ev.pos (by omega) (Ev.bind (impl_nameOk _ (by rw [he]; exact hg _ (List.getElem_mem _))) ?_))))
    rw [confFrom, dbOk]
    cases nameOk (rd_T90 l (i : Int)).f0
    · exact Ev.neg (by decide) (Ev.done rfl)
    refine Ev.pos rfl (Ev.then rfl ?_)
    rw [← hp]
    by_cases h : impl_dbPlace.l0 l (rd_T90 l (i : Int)).f0 0 = (i : Int)
    · refine Ev.pos h (Ev.then (isIn _ _ _) ?_)
      rw [show decide (impl_dbPlace.l0 (List.drop 0 l) (rd_T90 l (i : Int)).f0 ((0 : Nat) : Int) = (i : Int)) = true from decide_eq_true h]
      generalize decide (1 ≤ (rd_T90 l (i : Int)).f1 ∧ (rd_T90 l (i : Int)).f1 ≤ 3) = b1
      cases b1
      · exact Ev.neg (by decide) (Ev.done rfl)
      refine Ev.pos rfl (Ev.then (isIn _ _ _) ?_)
      generalize decide (0 ≤ (rd_T90 l (i : Int)).f2 ∧ (rd_T90 l (i : Int)).f2 ≤ 4) = b2
      cases b2
      · exact Ev.neg (by decide) (Ev.done rfl)
      refine Ev.pos rfl (Ev.then (isIn _ _ _) ?_)
      generalize decide (1 ≤ (rd_T90 l (i : Int)).f3 ∧ (rd_T90 l (i : Int)).f3 ≤ 20) = b3
      cases b3
      · exact Ev.neg (by decide) (Ev.done rfl)
      refine Ev.pos rfl (Ev.then (isIn _ _ _) ?_)
      generalize decide (1 ≤ (rd_T90 l (i : Int)).f4 ∧ (rd_T90 l (i : Int)).f4 ≤ 20) = b4
      cases b4
      · exact Ev.neg (by decide) (Ev.done rfl)
      refine Ev.pos rfl ?_
      rw [w64 (n := (i : Int) + 1) (by omega) (by omega), cast_succ]
      exact Ev.eq (ih (i + 1) (by omega)) (by simp)
    · refine Ev.neg h (Ev.done ?_)
      rw [show decide (impl_dbPlace.l0 (List.drop 0 l) (rd_T90 l (i : Int)).f0 ((0 : Nat) : Int) = (i : Int)) = false from decide_eq_false h]
      simp
theorem impl_confOk (l : List Db) (hl : l.length ≤ 1048577) (hg : ∀ x ∈ l, x.f0.size ≤ 9223372036854775807) : Ev (fun k => impl_ConfOk.f k l) (confFrom l 0 l.length) := impl_ConfOk_l0 l hl hg l.length 0 (by omega)
end Go.Proofs.YtldfehmaophfjaaDoor.Fn
