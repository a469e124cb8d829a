/- What the printed functions that copy, size and compare databases come to. No memory is in sight here. -/
import Derived.Test.YtldfehmaophfjaaDoorPxd
import Derived.Test.YtldfehmaophfjaaDoorBytes
import Derived.Test.YtldfehmaophfjaaDoorLists
namespace Go.Proofs.YtldfehmaophfjaaDoor.Fn
set_option linter.unusedVariables false
set_option linter.unusedSimpArgs false
open Go.RowKit Go.Proofs.YtldfehmaophfjaaDoorW.PrintWords Go.Proofs.YtldfehmaophfjaaDoor.P Go.Proofs.YtldfehmaophfjaaDoor.Base

abbrev LDb := S88
abbrev Db := S90
def dbOf (x : LDb) : Db := ⟨x.f0, x.f1, x.f2, x.f3, x.f4⟩
theorem db_eq {x y : Db} (h0 : x.f0 = y.f0) (h1 : x.f1 = y.f1) (h2 : x.f2 = y.f2) (h3 : x.f3 = y.f3) (h4 : x.f4 = y.f4) : x = y := by
  cases x; cases y; simp_all
/-! ### sizes: 'left' only falls, and is not below 0 where it counts -/
theorem szDb (x : LDb) (left : Int) (hx : x.f0.size ≤ maxLen) (h0 : 0 ≤ left) (h1 : left ≤ 1048576) : ∃ r, laws_szDb.f x.f0 x.f1 x.f2 x.f3 x.f4 left = some r ∧ r ≤ left ∧ (r < 0 ∨ r = left - x.f0.size) := by
  unfold laws_szDb.f
  have hm : maxLen = 9223372036854775807 := by decide
  rw [w64 (n := left - (x.f0.size : Int)) (by omega) (by omega)]
  by_cases h : left - (x.f0.size : Int) < 0
  · rw [if_pos h]; exact ⟨-1, rfl, by omega, .inl (by omega)⟩
  · rw [if_neg h]; exact ⟨_, rfl, by omega, .inr rfl⟩
theorem szDbS_l0 (l : List LDb) (hl : l.length ≤ 1048576) (hg : ∀ x ∈ l, x.f0.size ≤ maxLen) (d : Nat) : ∀ (i : Nat) (left : Int), i + d = l.length → 0 ≤ left → left ≤ 1048576 → ∃ r, Ev (fun k => laws_szDbS.l0 k l left (i : Int)) r ∧ r ≤ left := by
  induction d with
  | zero =>
    intro i left hi h0 h1
    exact ⟨left, Ev.step (fun k => laws_szDbS.l0.eq_2 _ _ _ k) (Ev.neg (by omega) (Ev.done rfl)), Int.le_refl _⟩
  | succ d ih =>
    intro i left hi h0 h1
    have he : rd_T88 l (i : Int) = l[i] := getD_nat l _ (by omega)
    obtain ⟨r, e, hr, _⟩ := szDb l[i] left (hg _ (List.getElem_mem _)) h0 h1
    by_cases h : r < 0
    · exact ⟨-1, Ev.step (fun k => laws_szDbS.l0.eq_2 _ _ _ k) (Ev.pos (by omega) (Ev.pos (by omega) (by rw [he]; exact Ev.then e (Ev.pos h (Ev.done rfl))))), by omega⟩
    · obtain ⟨q, e2, hq⟩ := ih (i + 1) r (by omega) (by omega) (by omega)
      refine ⟨q, Ev.step (fun k => laws_szDbS.l0.eq_2 _ _ _ k) (Ev.pos (by omega) (Ev.pos (by omega) ?_)), by omega⟩
      rw [he]
      refine Ev.then e (Ev.neg h ?_)
      rw [w64 (n := (i : Int) + 1) (by omega) (by omega), cast_succ]
      exact e2
/-- Where the size is not below 0, the slice is short. -/
theorem szDbS (l : List LDb) (left : Int) (hl : l.length ≤ maxLen) (hg : ∀ x ∈ l, x.f0.size ≤ maxLen) (h0 : 0 ≤ left) (h1 : left ≤ 1048576) : ∃ r, Ev (fun k => laws_szDbS.f k l left) r ∧ r ≤ left ∧ (0 ≤ r → l.length ≤ left) := by
  unfold laws_szDbS.f
  have hm : maxLen = 9223372036854775807 := by decide
  rw [w64 (n := left - (l.length : Int)) (by omega) (by omega)]
  by_cases h : left - (l.length : Int) < 0
  · exact ⟨-1, Ev.pos h (Ev.done rfl), by omega, by omega⟩
  · obtain ⟨r, e, hr⟩ := szDbS_l0 l (by omega) hg l.length 0 (left - l.length) (by omega) (by omega) (by omega)
    exact ⟨r, Ev.neg h e, by omega, by omega⟩
/-! ### copies -/
theorem toDbS_l0 (l : List LDb) (hl : l.length ≤ 1048576) (d : Nat) : ∀ (i : Nat) (o : List Db), i + d = l.length → o.length = l.length → o.take i = (l.map dbOf).take i → Ev (fun k => laws_toDbS.l0 k l o (i : Int)) (l.map dbOf) := by
  induction d with
  | zero =>
    intro i o hi ho ht
    refine Ev.step (fun k => laws_toDbS.l0.eq_2 _ _ _ k) (Ev.neg (by omega) (Ev.done ?_))
    exact take_all (by simpa using ho) (by simp; omega) ht
  | succ d ih =>
    intro i o hi ho ht
    have he : rd_T88 l (i : Int) = l[i] := getD_nat l _ (by omega)
    refine Ev.step (fun k => laws_toDbS.l0.eq_2 _ _ _ k) (Ev.pos (by omega) (Ev.pos (by omega) (Ev.then rfl (Ev.pos (by omega) ?_))))
    rw [w64 (n := (i : Int) + 1) (by omega) (by omega), cast_succ, Int.toNat_natCast, he]
    exact ih (i + 1) _ (by omega) (by rw [List.length_set]; exact ho) (set_take (by simpa using ho) (by simp; omega) ht (by rw [List.getElem_map]; rfl))
theorem toDbS (l : List LDb) (hl : l.length ≤ 1048576) : Ev (fun k => laws_toDbS.f k l) (l.map dbOf) := by
  unfold laws_toDbS.f
  refine Ev.pos (by omega) (Ev.pos (by omega) ?_)
  rw [Int.toNat_natCast]
  exact toDbS_l0 l hl l.length 0 _ (by omega) (by simp) (by simp)
/-! ### comparisons -/
theorem eqDb (x y : Db) : laws_eqDb.f x.f0 x.f1 x.f2 x.f3 x.f4 y.f0 y.f1 y.f2 y.f3 y.f4 = some (eqB x y) := by
  unfold laws_eqDb.f
  by_cases h : x = y
  · subst h; simp [eqB_same]
  · rw [eqB_not h]
    repeat' split
    all_goals first | rfl | skip
    rename_i h0 h1 h2 h3 h4
    exact absurd (db_eq (text_inj h0) h1 h2 h3 h4) h
theorem eqDbS_l0 (l m : List Db) (hl : l.length ≤ 1048576) (hm : l.length = m.length) (d : Nat) : ∀ (i : Nat), i + d = l.length → Ev (fun k => laws_eqDbS.l0 k l m (i : Int)) (eqB (l.drop i) (m.drop i)) := by
  induction d with
  | zero =>
    intro i hi
    refine Ev.step (fun k => laws_eqDbS.l0.eq_2 _ _ _ k) (Ev.neg (by omega) (Ev.done ?_))
    rw [List.drop_of_length_le (by omega), List.drop_of_length_le (by omega), eqB_same]
  | succ d ih =>
    intro i hi
    refine Ev.step (fun k => laws_eqDbS.l0.eq_2 _ _ _ k) (Ev.pos (by omega) (Ev.pos (by omega) (Ev.pos (by omega) (Ev.then (eqDb _ _) ?_))))
    rw [drop_get l z90 (by omega), drop_get m z90 (by omega), w64 (n := (i : Int) + 1) (by omega) (by omega), cast_succ, eqB_cons]
    by_cases h : eqB (rd_T90 l (i : Int)) (rd_T90 m (i : Int)) = true
    · refine Ev.pos h (Ev.eq (ih (i + 1) (by omega)) ?_)
      unfold rd_T90 at h
      rw [h, Bool.true_and]
    · refine Ev.neg h (Ev.done ?_)
      unfold rd_T90 at h
      rw [Bool.not_eq_true] at h
      rw [h, Bool.false_and]
theorem eqDbS (l m : List Db) (hl : l.length ≤ 1048576) : Ev (fun k => laws_eqDbS.f k l m) (eqB l m) := by
  unfold laws_eqDbS.f
  by_cases h : l.length = m.length
  · exact Ev.pos (by omega) (eqDbS_l0 l m hl h l.length 0 (by omega))
  · exact Ev.neg (by omega) (Ev.done (eqB_not (fun e => h (by rw [e]))).symm)
end Go.Proofs.YtldfehmaophfjaaDoor.Fn
