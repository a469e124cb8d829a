/- What the printed functions that test disks come to. No memory is in sight here. -/
import Derived.Test.YtdanfcjaamcaiaaPxd
import Derived.Test.YtdanfcjaamcaiaaDisk
namespace Go.Proofs.Ytdanfcjaamcaiaa.Fn
set_option linter.unusedVariables false
set_option linter.unusedSimpArgs false
open Go.RowKit Go.Proofs.YtdanfcjaamcaiaaW.PrintWords Go.Proofs.Ytdanfcjaamcaiaa.P Go.Proofs.Ytdanfcjaamcaiaa.Base

def WrOk (n : Int) (x : Wr) : Prop := (0 ≤ x.f0 ∧ x.f0 ≤ n - 1) ∧ x.f1.length ≤ 160
def DiskOk (d : Dk) : Prop := (1 ≤ d.secs.length ∧ d.secs.length ≤ 40) ∧ d.cache.length ≤ 30 ∧ (-1 ≤ d.fuse ∧ d.fuse ≤ 1000) ∧ (∀ x ∈ d.secs, x.length ≤ 160) ∧ ∀ x ∈ d.cache, WrOk d.secs.length x
noncomputable def diskOk (d : Dk) : Bool := @decide (DiskOk d) (Classical.propDecidable _)
theorem diskOk_iff (d : Dk) : diskOk d = true ↔ DiskOk d := by unfold diskOk; simp
theorem diskOk_no {d : Dk} (h : ¬ DiskOk d) : diskOk d = false := by rw [← Bool.not_eq_true, diskOk_iff]; exact h
theorem Fits_of_ok {d : Dk} (h : DiskOk d) (hb : ∀ x ∈ d.secs, Bytes x) (hc : ∀ x ∈ d.cache, Bytes x.f1) : Fits d :=
  ⟨by have := h.1; omega, fun x hx => ⟨by have := h.2.2.2.1 x hx; omega, hb x hx⟩, by have := h.2.1; omega, fun x hx => ⟨by have := (h.2.2.2.2 x hx).2; omega, hc x hx⟩⟩
theorem drop_all {α : Type} {P : α → Prop} {l : List α} {i : Nat} (hi : i < l.length) (h : P l[i]) : (∀ x ∈ l.drop i, P x) ↔ ∀ x ∈ l.drop (i + 1), P x := by
  have e := List.drop_eq_getElem_cons hi
  constructor
  · intro H x hx
    exact H x (by rw [e]; exact List.mem_cons_of_mem _ hx)
  · intro H x hx
    rw [e] at hx
    rcases List.mem_cons.1 hx with rfl | hx
    · exact h
    · exact H x hx
theorem impl_DiskOk_l1 (d : Dk) (hs : d.secs.length ≤ 1048576) (hc : d.cache.length ≤ 1048576) (hpre : (1 ≤ d.secs.length ∧ d.secs.length ≤ 40) ∧ d.cache.length ≤ 30 ∧ (-1 ≤ d.fuse ∧ d.fuse ≤ 1000) ∧ (∀ x ∈ d.secs, x.length ≤ 160)) (n : Nat) :
    ∀ (i : Nat), i + n = d.cache.length → ((∀ x ∈ d.cache, WrOk d.secs.length x) ↔ ∀ x ∈ d.cache.drop i, WrOk d.secs.length x) → Ev (fun k => impl_DiskOk.l1 k d.cache (d.cache.length : Int) (i : Int) d.secs d.cache d.fuse d.down) (diskOk d) := by
  induction n with
  | zero =>
    intro i hi hiff
    refine Ev.step (fun k => impl_DiskOk.l1.eq_2 _ _ _ _ _ _ _ k) (Ev.neg (by omega) (Ev.done ?_))
    rw [List.drop_of_length_le (by omega)] at hiff
    exact ((diskOk_iff d).2 ⟨hpre.1, hpre.2.1, hpre.2.2.1, hpre.2.2.2, hiff.2 (fun x hx => by cases hx)⟩).symm
  | succ n ih =>
    intro i hi hiff
    have he : rd_T91 d.cache (i : Int) = d.cache[i] := getD_nat d.cache _ (by omega)
    have no : ¬ WrOk d.secs.length d.cache[i] → ¬ DiskOk d := fun h hd => h (hd.2.2.2.2 _ (List.getElem_mem _))
    refine Ev.step (fun k => impl_DiskOk.l1.eq_2 _ _ _ _ _ _ _ k) (Ev.pos (by omega) (Ev.pos (by omega) (Ev.pos (by omega) ?_)))
    rw [he, w64 (n := (d.secs.length : Int) - 1) (by omega) (by omega)]
    refine Ev.then (isIn _ _ _) ?_
    by_cases h1 : 0 ≤ d.cache[i].f0 ∧ d.cache[i].f0 ≤ (d.secs.length : Int) - 1
    · refine Ev.pos (by simpa using h1) ?_
      by_cases h2 : (d.cache[i].f1.length : Int) > 160
      · exact Ev.pos h2 (Ev.done (diskOk_no (no (fun h => by have := h.2; omega))).symm)
      · refine Ev.neg h2 ?_
        rw [w64 (n := (i : Int) + 1) (by omega) (by omega), cast_succ]
        exact ih (i + 1) (by omega) (hiff.trans (drop_all (by omega) ⟨h1, by omega⟩))
    · exact Ev.neg (by simpa using h1) (Ev.done (diskOk_no (no (fun h => h1 h.1))).symm)
theorem impl_DiskOk_l0 (d : Dk) (hs : d.secs.length ≤ 1048576) (hc : d.cache.length ≤ 1048576) (hpre : (1 ≤ d.secs.length ∧ d.secs.length ≤ 40) ∧ d.cache.length ≤ 30 ∧ (-1 ≤ d.fuse ∧ d.fuse ≤ 1000)) (n : Nat) :
    ∀ (i : Nat), i + n = d.secs.length → ((∀ x ∈ d.secs, x.length ≤ 160) ↔ ∀ x ∈ d.secs.drop i, x.length ≤ 160) → Ev (fun k => impl_DiskOk.l0 k d.secs (d.secs.length : Int) (i : Int) d.secs d.cache d.fuse d.down) (diskOk d) := by
  induction n with
  | zero =>
    intro i hi hiff
    rw [List.drop_of_length_le (by omega)] at hiff
    refine Ev.step (fun k => impl_DiskOk.l0.eq_2 _ _ _ _ _ _ _ k) (Ev.neg (by omega) ?_)
    exact impl_DiskOk_l1 d hs hc ⟨hpre.1, hpre.2.1, hpre.2.2, hiff.2 (fun x hx => by cases hx)⟩ d.cache.length 0 (by omega) (by simp)
  | succ n ih =>
    intro i hi hiff
    have he : rd_L9 d.secs (i : Int) = d.secs[i] := getD_nat d.secs _ (by omega)
    refine Ev.step (fun k => impl_DiskOk.l0.eq_2 _ _ _ _ _ _ _ k) (Ev.pos (by omega) (Ev.pos (by omega) (Ev.pos (by omega) ?_)))
    rw [he]
    by_cases h2 : (d.secs[i].length : Int) > 160
    · exact Ev.pos h2 (Ev.done (diskOk_no (fun h => by have := h.2.2.2.1 _ (List.getElem_mem (show i < d.secs.length by omega)); omega)).symm)
    · refine Ev.neg h2 ?_
      rw [w64 (n := (i : Int) + 1) (by omega) (by omega), cast_succ]
      exact ih (i + 1) (by omega) (hiff.trans (drop_all (by omega) (by omega)))
theorem impl_diskOk (d : Dk) (hs : d.secs.length ≤ 1048576) (hc : d.cache.length ≤ 1048576) : Ev (fun k => impl_DiskOk.f k d.secs d.cache d.fuse d.down) (diskOk d) := by
  unfold impl_DiskOk.f
  have bad : ¬ DiskOk d → ∀ b : Bool, b = true → Ev (fun k => impl_DiskOk.j0 k b d.secs d.cache d.fuse d.down) (diskOk d) := fun h b hb => Ev.step (fun k => impl_DiskOk.j0.eq_2 _ _ _ _ _ k) (Ev.pos hb (Ev.done (diskOk_no h).symm))
  refine Ev.then (isIn _ _ _) ?_
  by_cases h1 : 1 ≤ d.secs.length ∧ d.secs.length ≤ 40
  · refine Ev.pos (by simp; omega) ?_
    by_cases h2 : (d.cache.length : Int) > 30
    · exact Ev.pos h2 (bad (fun h => by have := h.2.1; omega) _ rfl)
    · refine Ev.neg h2 (Ev.then (isIn _ _ _) ?_)
      by_cases h3 : -1 ≤ d.fuse ∧ d.fuse ≤ 1000
      · refine Ev.step (fun k => impl_DiskOk.j0.eq_2 _ _ _ _ _ k) (Ev.neg (by simp; omega) ?_)
        exact impl_DiskOk_l0 d hs hc ⟨h1, by omega, h3⟩ d.secs.length 0 (by omega) (by simp)
      · exact bad (fun h => h3 h.2.2.1) _ (by simp; omega)
  · exact Ev.neg (by simp; omega) (bad (fun h => h1 h.1) _ rfl)
theorem spec_DiskOk_l1 (d : Dk) (hs : d.secs.length ≤ 1048576) (hc : d.cache.length ≤ 1048576) (hpre : ∀ x ∈ d.secs, x.length ≤ 160) (n : Nat) :
    ∀ (i : Nat), i + n = d.cache.length → ((∀ x ∈ d.cache, WrOk d.secs.length x) ↔ ∀ x ∈ d.cache.drop i, WrOk d.secs.length x) → Ev (fun k => spec_DiskOk.l1 k (i : Int) d.secs d.cache d.fuse d.down) (diskOk d) := by
  induction n with
  | zero =>
    intro i hi hiff
    rw [List.drop_of_length_le (by omega)] at hiff
    have hall := hiff.2 (fun x hx => by cases hx)
    refine Ev.step (fun k => spec_DiskOk.l1.eq_2 _ _ _ _ _ k) (Ev.neg (by omega) (Ev.then (l1In _ _ _) ?_))
    by_cases h1 : 1 ≤ d.secs.length ∧ d.secs.length ≤ 40
    · refine Ev.pos (by simp; omega) ?_
      by_cases h2 : (d.cache.length : Int) ≤ 30
      · refine Ev.pos h2 (Ev.then (l1In _ _ _) (Ev.done ?_))
        by_cases h3 : -1 ≤ d.fuse ∧ d.fuse ≤ 1000
        · rw [(diskOk_iff d).2 ⟨h1, by omega, h3, hpre, hall⟩]; simpa using h3
        · rw [diskOk_no (fun h => h3 h.2.2.1)]; simpa using h3
      · exact Ev.neg h2 (Ev.done (diskOk_no (fun h => by have := h.2.1; omega)).symm)
    · exact Ev.neg (by simp; omega) (Ev.done (diskOk_no (fun h => h1 h.1)).symm)
  | succ n ih =>
    intro i hi hiff
    have he : rd_T91 d.cache (i : Int) = d.cache[i] := getD_nat d.cache _ (by omega)
    have no : ¬ WrOk d.secs.length d.cache[i] → ¬ DiskOk d := fun h hd => h (hd.2.2.2.2 _ (List.getElem_mem _))
    refine Ev.step (fun k => spec_DiskOk.l1.eq_2 _ _ _ _ _ k) (Ev.pos (by omega) (Ev.pos (by omega) ?_))
    rw [he, w64 (n := (d.secs.length : Int) - 1) (by omega) (by omega)]
    refine Ev.then (l1In _ _ _) ?_
    by_cases h1 : 0 ≤ d.cache[i].f0 ∧ d.cache[i].f0 ≤ (d.secs.length : Int) - 1
    · refine Ev.pos (by simpa using h1) ?_
      by_cases h2 : (d.cache[i].f1.length : Int) > 160
      · exact Ev.pos h2 (Ev.done (diskOk_no (no (fun h => by have := h.2; omega))).symm)
      · refine Ev.neg h2 ?_
        rw [w64 (n := (i : Int) + 1) (by omega) (by omega), cast_succ]
        exact ih (i + 1) (by omega) (hiff.trans (drop_all (by omega) ⟨h1, by omega⟩))
    · exact Ev.neg (by simpa using h1) (Ev.done (diskOk_no (no (fun h => h1 h.1))).symm)
theorem spec_DiskOk_l0 (d : Dk) (hs : d.secs.length ≤ 1048576) (hc : d.cache.length ≤ 1048576) (n : Nat) :
    ∀ (i : Nat), i + n = d.secs.length → ((∀ x ∈ d.secs, x.length ≤ 160) ↔ ∀ x ∈ d.secs.drop i, x.length ≤ 160) → Ev (fun k => spec_DiskOk.l0 k (i : Int) d.secs d.cache d.fuse d.down) (diskOk d) := by
  induction n with
  | zero =>
    intro i hi hiff
    rw [List.drop_of_length_le (by omega)] at hiff
    refine Ev.step (fun k => spec_DiskOk.l0.eq_2 _ _ _ _ _ k) (Ev.neg (by omega) ?_)
    exact spec_DiskOk_l1 d hs hc (hiff.2 (fun x hx => by cases hx)) d.cache.length 0 (by omega) (by simp)
  | succ n ih =>
    intro i hi hiff
    have he : rd_L9 d.secs (i : Int) = d.secs[i] := getD_nat d.secs _ (by omega)
    refine Ev.step (fun k => spec_DiskOk.l0.eq_2 _ _ _ _ _ k) (Ev.pos (by omega) (Ev.pos (by omega) ?_))
    rw [he]
    by_cases h2 : (d.secs[i].length : Int) > 160
    · exact Ev.pos h2 (Ev.done (diskOk_no (fun h => by have := h.2.2.2.1 _ (List.getElem_mem (show i < d.secs.length by omega)); omega)).symm)
    · refine Ev.neg h2 ?_
      rw [w64 (n := (i : Int) + 1) (by omega) (by omega), cast_succ]
      exact ih (i + 1) (by omega) (hiff.trans (drop_all (by omega) (by omega)))
theorem spec_diskOk (d : Dk) (hs : d.secs.length ≤ 1048576) (hc : d.cache.length ≤ 1048576) : Ev (fun k => spec_DiskOk.f k d.secs d.cache d.fuse d.down) (diskOk d) := by
  unfold spec_DiskOk.f
  exact spec_DiskOk_l0 d hs hc d.secs.length 0 (by omega) (by simp)
/-- What a law's disk is: the one that came in, copied, and what is known of it where its size is not above the bound. -/
theorem fits_of {secs : List (List Int)} {cache : List LWr} (fuse : Int) (down : Bool) (hs : ∀ x ∈ secs, (x.length ≤ maxLen ∧ ∀ y ∈ x, (Lit.int .u8 y).wf = true)) (hc : ∀ x ∈ cache, ((Lit.int .i64 x.f0).wf = true ∧ (x.f1.length ≤ maxLen ∧ ∀ y ∈ x.f1, (Lit.int .u8 y).wf = true)))
    (h : (secs.length ≤ 1048576 ∧ ∀ x ∈ secs, x.length ≤ 1048576) ∧ (cache.length ≤ 1048576 ∧ ∀ x ∈ cache, x.f1.length ≤ 1048576)) : Fits ⟨secs, cache.map wrOf, fuse, down⟩ := by
  refine ⟨h.1.1, fun x hx => ⟨h.1.2 x hx, Bytes.of_wf (hs x hx).2⟩, by simpa using h.2.1, fun x hx => ?_⟩
  obtain ⟨y, hy, rfl⟩ := List.mem_map.1 hx
  exact ⟨h.2.2 y hy, Bytes.of_wf (hc y hy).2.2⟩
end Go.Proofs.Ytdanfcjaamcaiaa.Fn
