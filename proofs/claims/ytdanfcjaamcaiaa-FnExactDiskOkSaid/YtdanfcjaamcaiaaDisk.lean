/- What the printed functions that size, copy, compare and test disks come to. No memory is in sight here. -/
import Derived.Test.YtdanfcjaamcaiaaPxd
import Derived.Test.YtdanfcjaamcaiaaBytes
import Derived.Test.YtdanfcjaamcaiaaLists
namespace Go.Proofs.Ytdanfcjaamcaiaa.Fn
set_option linter.unusedVariables false
set_option linter.unusedSimpArgs false
open Go.RowKit Go.Proofs.YtdanfcjaamcaiaaW.PrintWords Go.Proofs.Ytdanfcjaamcaiaa.P Go.Proofs.Ytdanfcjaamcaiaa.Base

abbrev LWr := S131
abbrev Wr := S91
def wrOf (x : LWr) : Wr := ⟨x.f0, x.f1⟩
/-- A disk, as the printed functions hand it. -/
structure Dk where
  secs : List (List Int)
  cache : List Wr
  fuse : Int
  down : Bool
theorem wr_eq {x y : Wr} (h0 : x.f0 = y.f0) (h1 : x.f1 = y.f1) : x = y := by cases x; cases y; simp_all
def small : Int := 1048576
/-! ### sizes -/
theorem szByteS (l : List Int) (left : Int) (hl : l.length ≤ maxLen) (h0 : 0 ≤ left) (h1 : left ≤ 1048576) : ∃ r, laws_szByteS.f l left = some r ∧ r ≤ left ∧ (0 ≤ r → (l.length : Int) ≤ left) := by
  unfold laws_szByteS.f
  have hm : maxLen = 9223372036854775807 := by decide
  rw [w64 (n := left - (l.length : Int)) (by omega) (by omega)]
  by_cases h : left - (l.length : Int) < 0
  · rw [if_pos h]; exact ⟨-1, rfl, by omega, by omega⟩
  · rw [if_neg h]; exact ⟨_, rfl, by omega, by omega⟩
theorem szByteSS_l0 (l : List (List Int)) (hl : l.length ≤ 1048576) (hg : ∀ x ∈ l, x.length ≤ maxLen) (d : Nat) : ∀ (i : Nat) (left : Int), i + d = l.length → 0 ≤ left → left ≤ 1048576 → ∃ r, Ev (fun k => laws_szByteSS.l0 k l left (i : Int)) r ∧ r ≤ left ∧ (0 ≤ r → ∀ x ∈ l.drop i, x.length ≤ 1048576) := by
  induction d with
  | zero =>
    intro i left hi h0 h1
    refine ⟨left, Ev.step (fun k => laws_szByteSS.l0.eq_2 _ _ _ k) (Ev.neg (by omega) (Ev.done rfl)), Int.le_refl _, fun _ x hx => ?_⟩
    rw [List.drop_of_length_le (by omega)] at hx
    cases hx
  | succ d ih =>
    intro i left hi h0 h1
    have he : rd_L9 l (i : Int) = l[i] := getD_nat l _ (by omega)
    obtain ⟨r, e, hr, hrl⟩ := szByteS l[i] left (hg _ (List.getElem_mem _)) h0 h1
    by_cases h : r < 0
    · exact ⟨-1, Ev.step (fun k => laws_szByteSS.l0.eq_2 _ _ _ k) (Ev.pos (by omega) (Ev.pos (by omega) (by rw [he]; exact Ev.then e (Ev.pos h (Ev.done rfl))))), by omega, by omega⟩
    · obtain ⟨q, e2, hq, hql⟩ := ih (i + 1) r (by omega) (by omega) (by omega)
      refine ⟨q, Ev.step (fun k => laws_szByteSS.l0.eq_2 _ _ _ k) (Ev.pos (by omega) (Ev.pos (by omega) ?_)), by omega, fun hq0 x hx => ?_⟩
      · rw [he]
        refine Ev.then e (Ev.neg h ?_)
        rw [w64 (n := (i : Int) + 1) (by omega) (by omega), cast_succ]
        exact e2
      · rw [List.drop_eq_getElem_cons (by omega)] at hx
        rcases List.mem_cons.1 hx with rfl | hx
        · have := hrl (by omega); omega
        · exact hql hq0 x hx
theorem szByteSS (l : List (List Int)) (left : Int) (hl : l.length ≤ maxLen) (hg : ∀ x ∈ l, x.length ≤ maxLen) (h0 : 0 ≤ left) (h1 : left ≤ 1048576) : ∃ r, Ev (fun k => laws_szByteSS.f k l left) r ∧ r ≤ left ∧ (0 ≤ r → l.length ≤ 1048576 ∧ ∀ x ∈ l, x.length ≤ 1048576) := by
  unfold laws_szByteSS.f
  have hm : maxLen = 9223372036854775807 := by decide
  rw [w64 (n := left - (l.length : Int)) (by omega) (by omega)]
  by_cases h : left - (l.length : Int) < 0
  · exact ⟨-1, Ev.pos h (Ev.done rfl), by omega, by omega⟩
  · obtain ⟨r, e, hr, hrl⟩ := szByteSS_l0 l (by omega) hg l.length 0 (left - l.length) (by omega) (by omega) (by omega)
    exact ⟨r, Ev.neg h e, by omega, fun hr0 => ⟨by omega, by simpa using hrl hr0⟩⟩
theorem szWr (x : LWr) (left : Int) (hl : x.f1.length ≤ maxLen) (h0 : 0 ≤ left) (h1 : left ≤ 1048576) : ∃ r, laws_szWr.f x.f0 x.f1 left = some r ∧ r ≤ left ∧ (0 ≤ r → (x.f1.length : Int) ≤ left) := by
  unfold laws_szWr.f
  obtain ⟨r, e, hr, hrl⟩ := szByteS x.f1 left hl h0 h1
  rw [e]
  simp only [Option.bind_some]
  by_cases h : r < 0
  · rw [if_pos h]; exact ⟨-1, rfl, by omega, by omega⟩
  · rw [if_neg h]; exact ⟨r, rfl, hr, hrl⟩
theorem szWrS_l0 (l : List LWr) (hl : l.length ≤ 1048576) (hg : ∀ x ∈ l, x.f1.length ≤ maxLen) (d : Nat) : ∀ (i : Nat) (left : Int), i + d = l.length → 0 ≤ left → left ≤ 1048576 → ∃ r, Ev (fun k => laws_szWrS.l0 k l left (i : Int)) r ∧ r ≤ left ∧ (0 ≤ r → ∀ x ∈ l.drop i, x.f1.length ≤ 1048576) := by
  induction d with
  | zero =>
    intro i left hi h0 h1
    refine ⟨left, Ev.step (fun k => laws_szWrS.l0.eq_2 _ _ _ k) (Ev.neg (by omega) (Ev.done rfl)), Int.le_refl _, fun _ x hx => ?_⟩
    rw [List.drop_of_length_le (by omega)] at hx
    cases hx
  | succ d ih =>
    intro i left hi h0 h1
    have he : rd_T131 l (i : Int) = l[i] := getD_nat l _ (by omega)
    obtain ⟨r, e, hr, hrl⟩ := szWr l[i] left (hg _ (List.getElem_mem _)) h0 h1
    by_cases h : r < 0
    · exact ⟨-1, Ev.step (fun k => laws_szWrS.l0.eq_2 _ _ _ k) (Ev.pos (by omega) (Ev.pos (by omega) (by rw [he]; exact Ev.then e (Ev.pos h (Ev.done rfl))))), by omega, by omega⟩
    · obtain ⟨q, e2, hq, hql⟩ := ih (i + 1) r (by omega) (by omega) (by omega)
      refine ⟨q, Ev.step (fun k => laws_szWrS.l0.eq_2 _ _ _ k) (Ev.pos (by omega) (Ev.pos (by omega) ?_)), by omega, fun hq0 x hx => ?_⟩
      · rw [he]
        refine Ev.then e (Ev.neg h ?_)
        rw [w64 (n := (i : Int) + 1) (by omega) (by omega), cast_succ]
        exact e2
      · rw [List.drop_eq_getElem_cons (by omega)] at hx
        rcases List.mem_cons.1 hx with rfl | hx
        · have := hrl (by omega); omega
        · exact hql hq0 x hx
theorem szWrS (l : List LWr) (left : Int) (hl : l.length ≤ maxLen) (hg : ∀ x ∈ l, x.f1.length ≤ maxLen) (h0 : 0 ≤ left) (h1 : left ≤ 1048576) : ∃ r, Ev (fun k => laws_szWrS.f k l left) r ∧ r ≤ left ∧ (0 ≤ r → l.length ≤ 1048576 ∧ ∀ x ∈ l, x.f1.length ≤ 1048576) := by
  unfold laws_szWrS.f
  have hm : maxLen = 9223372036854775807 := by decide
  rw [w64 (n := left - (l.length : Int)) (by omega) (by omega)]
  by_cases h : left - (l.length : Int) < 0
  · exact ⟨-1, Ev.pos h (Ev.done rfl), by omega, by omega⟩
  · obtain ⟨r, e, hr, hrl⟩ := szWrS_l0 l (by omega) hg l.length 0 (left - l.length) (by omega) (by omega) (by omega)
    exact ⟨r, Ev.neg h e, by omega, fun hr0 => ⟨by omega, by simpa using hrl hr0⟩⟩
/-- What a disk is known to be where its size is not above the bound. -/
def Fits (d : Dk) : Prop := d.secs.length ≤ 1048576 ∧ (∀ x ∈ d.secs, x.length ≤ 1048576 ∧ Bytes x) ∧ d.cache.length ≤ 1048576 ∧ ∀ x ∈ d.cache, x.f1.length ≤ 1048576 ∧ Bytes x.f1
theorem szDisk (secs : List (List Int)) (cache : List LWr) (fuse : Int) (down : Bool) (left : Int) (hs : secs.length ≤ maxLen ∧ ∀ x ∈ secs, x.length ≤ maxLen) (hc : cache.length ≤ maxLen ∧ ∀ x ∈ cache, x.f1.length ≤ maxLen) (h0 : 0 ≤ left) (h1 : left ≤ 1048576) :
    ∃ r, Ev (fun k => laws_szDisk.f k secs cache fuse down left) r ∧ r ≤ left ∧ (0 ≤ r → (secs.length ≤ 1048576 ∧ ∀ x ∈ secs, x.length ≤ 1048576) ∧ (cache.length ≤ 1048576 ∧ ∀ x ∈ cache, x.f1.length ≤ 1048576)) := by
  unfold laws_szDisk.f
  obtain ⟨r, e, hr, hrl⟩ := szByteSS secs left hs.1 hs.2 h0 h1
  by_cases h : r < 0
  · exact ⟨-1, Ev.bind e (Ev.pos h (Ev.done rfl)), by omega, by omega⟩
  · obtain ⟨q, e2, hq, hql⟩ := szWrS cache r hc.1 hc.2 (by omega) (by omega)
    by_cases h' : q < 0
    · exact ⟨-1, Ev.bind e (Ev.neg h (Ev.bind e2 (Ev.pos h' (Ev.done rfl)))), by omega, by omega⟩
    · exact ⟨q, Ev.bind e (Ev.neg h (Ev.bind e2 (Ev.neg h' (Ev.done rfl)))), by omega, fun hq0 => ⟨hrl (by omega), hql hq0⟩⟩
/-! ### copies -/
theorem toByteSS_l0 (l : List (List Int)) (hl : l.length ≤ 1048576) (hg : ∀ x ∈ l, x.length ≤ 1048576) (d : Nat) : ∀ (i : Nat) (o : List (List Int)), i + d = l.length → o.length = l.length → o.take i = l.take i → Ev (fun k => laws_toByteSS.l0 k l o (i : Int)) l := by
  induction d with
  | zero =>
    intro i o hi ho ht
    exact Ev.step (fun k => laws_toByteSS.l0.eq_2 _ _ _ k) (Ev.neg (by omega) (Ev.done (take_all ho (by omega) ht)))
  | succ d ih =>
    intro i o hi ho ht
    have he : rd_L9 l (i : Int) = l[i] := getD_nat l _ (by omega)
    have hx := hg l[i] (List.getElem_mem _)
    refine Ev.step (fun k => laws_toByteSS.l0.eq_2 _ _ _ k) (Ev.pos (by omega) (Ev.pos (by omega) ?_))
    rw [he]
    refine Ev.bind (toByteS l[i] (by omega)) (Ev.pos (by omega) ?_)
    rw [w64 (n := (i : Int) + 1) (by omega) (by omega), cast_succ, Int.toNat_natCast]
    exact ih (i + 1) _ (by omega) (by rw [List.length_set]; exact ho) (set_take ho (by omega) ht rfl)
theorem toByteSS (l : List (List Int)) (hl : l.length ≤ 1048576) (hg : ∀ x ∈ l, x.length ≤ 1048576) : Ev (fun k => laws_toByteSS.f k l) l := by
  unfold laws_toByteSS.f
  refine Ev.pos (by omega) (Ev.pos (by omega) ?_)
  rw [Int.toNat_natCast]
  exact toByteSS_l0 l hl hg l.length 0 _ (by omega) (by simp) (by simp)
theorem toWr (x : LWr) (hx : x.f1.length ≤ 1048576) : Ev (fun k => laws_toWr.f k x.f0 x.f1) (x.f0, x.f1) := by
  unfold laws_toWr.f
  exact Ev.bind (toByteS x.f1 (by omega)) (Ev.done rfl)
theorem toWrS_l0 (l : List LWr) (hl : l.length ≤ 1048576) (hg : ∀ x ∈ l, x.f1.length ≤ 1048576) (d : Nat) : ∀ (i : Nat) (o : List Wr), i + d = l.length → o.length = l.length → o.take i = (l.map wrOf).take i → Ev (fun k => laws_toWrS.l0 k l o (i : Int)) (l.map wrOf) := by
  induction d with
  | zero =>
    intro i o hi ho ht
    exact Ev.step (fun k => laws_toWrS.l0.eq_2 _ _ _ k) (Ev.neg (by omega) (Ev.done (take_all (by simpa using ho) (by simp; omega) ht)))
  | succ d ih =>
    intro i o hi ho ht
    have he : rd_T131 l (i : Int) = l[i] := getD_nat l _ (by omega)
    refine Ev.step (fun k => laws_toWrS.l0.eq_2 _ _ _ k) (Ev.pos (by omega) (Ev.pos (by omega) ?_))
    rw [he]
    refine Ev.bind (toWr l[i] (hg _ (List.getElem_mem _))) (Ev.pos (by omega) ?_)
    rw [w64 (n := (i : Int) + 1) (by omega) (by omega), cast_succ, Int.toNat_natCast]
    exact ih (i + 1) _ (by omega) (by rw [List.length_set]; exact ho) (set_take (by simpa using ho) (by simp; omega) ht (by rw [List.getElem_map]; rfl))
theorem toWrS (l : List LWr) (hl : l.length ≤ 1048576) (hg : ∀ x ∈ l, x.f1.length ≤ 1048576) : Ev (fun k => laws_toWrS.f k l) (l.map wrOf) := by
  unfold laws_toWrS.f
  refine Ev.pos (by omega) (Ev.pos (by omega) ?_)
  rw [Int.toNat_natCast]
  exact toWrS_l0 l hl hg l.length 0 _ (by omega) (by simp) (by simp)
def Dk.tuple (d : Dk) : List (List Int) × List Wr × Int × Bool := (d.secs, d.cache, d.fuse, d.down)
theorem toDisk (secs : List (List Int)) (cache : List LWr) (fuse : Int) (down : Bool) (hs : secs.length ≤ 1048576 ∧ ∀ x ∈ secs, x.length ≤ 1048576) (hc : cache.length ≤ 1048576 ∧ ∀ x ∈ cache, x.f1.length ≤ 1048576) :
    Ev (fun k => laws_toDisk.f k secs cache fuse down) (secs, cache.map wrOf, fuse, down) := by
  unfold laws_toDisk.f
  exact Ev.bind (toByteSS secs hs.1 hs.2) (Ev.bind (toWrS cache hc.1 hc.2) (Ev.done rfl))
/-! ### comparisons -/
theorem eqByteS' (l m : List Int) (hl : l.length ≤ 140737488351232) : Ev (fun k => laws_eqByteS.f k l m) (eqB l m) := by
  refine Ev.eq (eqByteS l m hl) ?_
  rw [Bool.eq_iff_iff, eqB_iff, decide_eq_true_eq]
theorem eqByteSS_l0 (l m : List (List Int)) (hl : l.length ≤ 1048576) (hg : ∀ x ∈ l, x.length ≤ 1048576) (hm : l.length = m.length) (d : Nat) : ∀ (i : Nat), i + d = l.length → Ev (fun k => laws_eqByteSS.l0 k l m (i : Int)) (eqB (l.drop i) (m.drop i)) := by
  induction d with
  | zero =>
    intro i hi
    refine Ev.step (fun k => laws_eqByteSS.l0.eq_2 _ _ _ k) (Ev.neg (by omega) (Ev.done ?_))
    rw [List.drop_of_length_le (by omega), List.drop_of_length_le (by omega), eqB_same]
  | succ d ih =>
    intro i hi
    have he : rd_L9 l (i : Int) = l[i] := getD_nat l _ (by omega)
    have he' : rd_L9 m (i : Int) = m[i] := getD_nat m _ (by omega)
    have hx := hg l[i] (List.getElem_mem _)
    refine Ev.step (fun k => laws_eqByteSS.l0.eq_2 _ _ _ k) (Ev.pos (by omega) (Ev.pos (by omega) (Ev.pos (by omega) ?_)))
    rw [he, he']
    refine Ev.bind (eqByteS' _ _ (by omega)) ?_
    rw [List.drop_eq_getElem_cons (show i < l.length by omega), List.drop_eq_getElem_cons (show i < m.length by omega), w64 (n := (i : Int) + 1) (by omega) (by omega), cast_succ, eqB_cons]
    by_cases h : eqB l[i] m[i] = true
    · refine Ev.pos h (Ev.eq (ih (i + 1) (by omega)) (by rw [h, Bool.true_and]))
    · refine Ev.neg h (Ev.done ?_)
      rw [Bool.not_eq_true] at h
      rw [h, Bool.false_and]
theorem eqByteSS (l m : List (List Int)) (hl : l.length ≤ 1048576) (hg : ∀ x ∈ l, x.length ≤ 1048576) : Ev (fun k => laws_eqByteSS.f k l m) (eqB l m) := by
  unfold laws_eqByteSS.f
  by_cases h : l.length = m.length
  · exact Ev.pos (by omega) (eqByteSS_l0 l m hl hg h l.length 0 (by omega))
  · exact Ev.neg (by omega) (Ev.done (eqB_not (fun e => h (by rw [e]))).symm)
theorem eqWr (x y : Wr) (hx : x.f1.length ≤ 1048576) : Ev (fun k => laws_eqWr.f k x.f0 x.f1 y.f0 y.f1) (eqB x y) := by
  unfold laws_eqWr.f
  by_cases h0 : x.f0 = y.f0
  · refine Ev.pos h0 (Ev.bind (eqByteS' _ _ (by omega)) ?_)
    by_cases h1 : x.f1 = y.f1
    · rw [wr_eq h0 h1]
      exact Ev.pos (eqB_same _) (Ev.done (eqB_same _).symm)
    · exact Ev.neg (by rw [eqB_not h1]; decide) (Ev.done (eqB_not (fun e => h1 (by rw [e]))).symm)
  · exact Ev.neg h0 (Ev.done (eqB_not (fun e => h0 (by rw [e]))).symm)
theorem eqWrS_l0 (l m : List Wr) (hl : l.length ≤ 1048576) (hg : ∀ x ∈ l, x.f1.length ≤ 1048576) (hm : l.length = m.length) (d : Nat) : ∀ (i : Nat), i + d = l.length → Ev (fun k => laws_eqWrS.l0 k l m (i : Int)) (eqB (l.drop i) (m.drop i)) := by
  induction d with
  | zero =>
    intro i hi
    refine Ev.step (fun k => laws_eqWrS.l0.eq_2 _ _ _ k) (Ev.neg (by omega) (Ev.done ?_))
    rw [List.drop_of_length_le (by omega), List.drop_of_length_le (by omega), eqB_same]
  | succ d ih =>
    intro i hi
    have he : rd_T91 l (i : Int) = l[i] := getD_nat l _ (by omega)
    have he' : rd_T91 m (i : Int) = m[i] := getD_nat m _ (by omega)
    have hx := hg l[i] (List.getElem_mem _)
    refine Ev.step (fun k => laws_eqWrS.l0.eq_2 _ _ _ k) (Ev.pos (by omega) (Ev.pos (by omega) (Ev.pos (by omega) ?_)))
    rw [he, he']
    refine Ev.bind (eqWr l[i] m[i] hx) ?_
    rw [List.drop_eq_getElem_cons (show i < l.length by omega), List.drop_eq_getElem_cons (show i < m.length by omega), w64 (n := (i : Int) + 1) (by omega) (by omega), cast_succ, eqB_cons]
    by_cases h : eqB l[i] m[i] = true
    · refine Ev.pos h (Ev.eq (ih (i + 1) (by omega)) (by rw [h, Bool.true_and]))
    · refine Ev.neg h (Ev.done ?_)
      rw [Bool.not_eq_true] at h
      rw [h, Bool.false_and]
theorem eqWrS (l m : List Wr) (hl : l.length ≤ 1048576) (hg : ∀ x ∈ l, x.f1.length ≤ 1048576) : Ev (fun k => laws_eqWrS.f k l m) (eqB l m) := by
  unfold laws_eqWrS.f
  by_cases h : l.length = m.length
  · exact Ev.pos (by omega) (eqWrS_l0 l m hl hg h l.length 0 (by omega))
  · exact Ev.neg (by omega) (Ev.done (eqB_not (fun e => h (by rw [e]))).symm)
theorem eqDisk_same (d : Dk) (hd : Fits d) : Ev (fun k => laws_eqDisk.f k d.secs d.cache d.fuse d.down d.secs d.cache d.fuse d.down) true := by
  obtain ⟨h1, h2, h3, h4⟩ := hd
  unfold laws_eqDisk.f
  refine Ev.bind (eqByteSS _ _ h1 (fun x hx => (h2 x hx).1)) (Ev.pos (eqB_same _) (Ev.bind (eqWrS _ _ h3 (fun x hx => (h4 x hx).1)) (Ev.pos (eqB_same _) (Ev.pos rfl (Ev.neg (by simp) (Ev.done rfl))))))
end Go.Proofs.Ytdanfcjaamcaiaa.Fn
