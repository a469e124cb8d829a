/- What the printed functions on lists of records come to. No memory is in sight here. -/
import Derived.Test.YtdanfcjaamcaiaaPxd
import Derived.Test.YtdanfcjaamcaiaaMark
namespace Go.Proofs.Ytdanfcjaamcaiaa.Fn
set_option linter.unusedVariables false
set_option linter.unusedSimpArgs false
open Go.RowKit Go.Proofs.YtdanfcjaamcaiaaW.PrintWords Go.Proofs.Ytdanfcjaamcaiaa.P Go.Proofs.Ytdanfcjaamcaiaa.Base

abbrev Rec := S98
theorem rec_eq {x y : Rec} (h0 : x.f0 = y.f0) (h1 : x.f1 = y.f1) (h2 : x.f2 = y.f2) (h3 : x.f3 = y.f3) : x = y := by
  cases x; cases y; simp_all
/-! ### comparisons -/
theorem eqRec (x y : Rec) : laws_eqRec.f x.f0 x.f1 x.f2 x.f3 y.f0 y.f1 y.f2 y.f3 = some (eqB x y) := by
  unfold laws_eqRec.f
  by_cases h : x = y
  · subst h; simp [eqB_same]
  · rw [eqB_not h]
    repeat' split
    all_goals first | rfl | skip
    rename_i h0 h1 h2 h3
    exact absurd (rec_eq h0 h1 h2 (text_inj h3)) h
theorem eqRecS_l0 (l m : List Rec) (hl : l.length ≤ 1048576) (hm : l.length = m.length) (d : Nat) : ∀ (i : Nat), i + d = l.length → Ev (fun k => laws_eqRecS.l0 k l m (i : Int)) (eqB (l.drop i) (m.drop i)) := by
  induction d with
  | zero =>
    intro i hi
    refine Ev.step (fun k => laws_eqRecS.l0.eq_2 _ _ _ k) (Ev.neg (by omega) (Ev.done ?_))
    rw [List.drop_of_length_le (by omega), List.drop_of_length_le (by omega), eqB_same]
  | succ d ih =>
    intro i hi
    refine Ev.step (fun k => laws_eqRecS.l0.eq_2 _ _ _ k) (Ev.pos (by omega) (Ev.pos (by omega) (Ev.pos (by omega) (Ev.then (eqRec _ _) ?_))))
    rw [drop_get l z98 (by omega), drop_get m z98 (by omega), w64 (n := (i : Int) + 1) (by omega) (by omega), cast_succ, eqB_cons]
    by_cases h : eqB (rd_T98 l (i : Int)) (rd_T98 m (i : Int)) = true
    · refine Ev.pos h (Ev.eq (ih (i + 1) (by omega)) ?_)
      unfold rd_T98 at h
      rw [h, Bool.true_and]
    · refine Ev.neg h (Ev.done ?_)
      unfold rd_T98 at h
      rw [Bool.not_eq_true] at h
      rw [h, Bool.false_and]
theorem eqRecS (l m : List Rec) (hl : l.length ≤ 1048576) : Ev (fun k => laws_eqRecS.f k l m) (eqB l m) := by
  unfold laws_eqRecS.f
  by_cases h : l.length = m.length
  · exact Ev.pos (by omega) (eqRecS_l0 l m hl h l.length 0 (by omega))
  · exact Ev.neg (by omega) (Ev.done (eqB_not (fun e => h (by rw [e]))).symm)
/-! ### marks -/
noncomputable def markR (c : Int) : Nat → List Rec
  | 0 => []
  | n + 1 => ⟨c, c + 1, c + 2, markT (c + 3)⟩ :: markR (c + 4) n
theorem markR_length (c : Int) (n : Nat) : (markR c n).length = n := by
  induction n generalizing c with
  | zero => rfl
  | succ n ih => simp [markR, ih]
theorem markR_get (c : Int) (n i : Nat) (h : i < n) : (markR c n)[i]'(by rw [markR_length]; exact h) = ⟨c + 4 * i, c + 4 * i + 1, c + 4 * i + 2, markT (c + 4 * i + 3)⟩ := by
  induction n generalizing c i with
  | zero => omega
  | succ n ih =>
    cases i with
    | zero => simp [markR]
    | succ i =>
      simp only [markR, List.getElem_cons_succ]
      rw [ih (c + 4) i (by omega), show c + 4 + 4 * (i : Int) = c + 4 * ((i + 1 : Nat) : Int) by omega]
theorem markRecS_l0 (n : Nat) (c : Int) (hc : 0 ≤ c) (hn : c + 4 * n ≤ 4611686018427387900) (d : Nat) : ∀ (i : Nat) (o : List Rec), i + d = n → o.length = n → o.take i = (markR c n).take i → Ev (fun k => laws_markRecS.l0 k o (c + 4 * i) (i : Int)) (c + 4 * n, markR c n) := by
  induction d with
  | zero =>
    intro i o hi ho ht
    refine Ev.step (fun k => laws_markRecS.l0.eq_2 _ _ _ k) (Ev.neg (by omega) (Ev.done ?_))
    rw [take_all (by rw [markR_length]; exact ho) (by rw [markR_length]; omega) ht, show i = n by omega]
  | succ d ih =>
    intro i o hi ho ht
    refine Ev.step (fun k => laws_markRecS.l0.eq_2 _ _ _ k) (Ev.pos (by omega) (Ev.pos (by omega) (Ev.then rfl (Ev.then rfl (Ev.then rfl ?_)))))
    have hol : i < o.length := by omega
    rw [w64 (n := c + 4 * i + 1) (by omega) (by omega), w64 (n := c + 4 * i + 1 + 1) (by omega) (by omega), w64 (n := c + 4 * i + 1 + 1 + 1) (by omega) (by omega), w64 (n := c + 4 * i + 1 + 1 + 1 + 1) (by omega) (by omega), w64 (n := (i : Int) + 1) (by omega) (by omega), cast_succ]
    refine Ev.bind (markText _ (by omega)) ?_
    have he : ∀ x : Rec, rd_T98 (o.set i x) (i : Int) = x := fun x => getD_set o z98 hol x
    simp only [Int.toNat_natCast, List.set_set, he]
    rw [show c + 4 * (i : Int) + 1 + 1 + 1 + 1 = c + 4 * ((i + 1 : Nat) : Int) by omega]
    refine ih (i + 1) _ (by omega) (by rw [List.length_set]; exact ho) (set_take (by rw [markR_length]; exact ho) (by rw [markR_length]; omega) ht ?_)
    rw [markR_get c n i (by omega), show c + 4 * (i : Int) + 1 + 1 = c + 4 * i + 2 by omega, show c + 4 * (i : Int) + 2 + 1 = c + 4 * i + 3 by omega]
theorem markRecS (l : List Rec) (hl : l.length ≤ 1048576) : Ev (fun k => laws_markRecS.f k l 1) (1 + 4 * l.length, markR 1 l.length) := by
  unfold laws_markRecS.f
  have h := markRecS_l0 l.length 1 (by omega) (by omega) l.length 0 l (by omega) rfl (by simp)
  rwa [show (1 : Int) + 4 * ((0 : Nat) : Int) = 1 by omega] at h
theorem heldRecS_l0 (n : Nat) (c : Int) (hc : 0 ≤ c) (hn : c + 4 * n ≤ 4611686018427387900) (d : Nat) : ∀ (i : Nat), i + d = n → Ev (fun k => laws_heldRecS.l0 k (markR c n) (c + 4 * i) (i : Int)) (c + 4 * n) := by
  induction d with
  | zero =>
    intro i hi
    refine Ev.step (fun k => laws_heldRecS.l0.eq_2 _ _ _ k) (Ev.neg (by rw [markR_length]; omega) (Ev.done ?_))
    rw [show i = n by omega]
  | succ d ih =>
    intro i hi
    have he : rd_T98 (markR c n) (i : Int) = ⟨c + 4 * i, c + 4 * i + 1, c + 4 * i + 2, markT (c + 4 * i + 3)⟩ := by
      unfold rd_T98
      rw [getD_nat _ _ (by rw [markR_length]; omega), markR_get c n i (by omega)]
    refine Ev.step (fun k => laws_heldRecS.l0.eq_2 _ _ _ k) (Ev.pos (by rw [markR_length]; omega) (Ev.pos (by omega) ?_))
    rw [he, w64 (n := c + 4 * i + 1) (by omega) (by omega), w64 (n := c + 4 * i + 1 + 1) (by omega) (by omega), w64 (n := c + 4 * i + 1 + 1 + 1) (by omega) (by omega), w64 (n := c + 4 * i + 1 + 1 + 1 + 1) (by omega) (by omega), w64 (n := (i : Int) + 1) (by omega) (by omega), cast_succ]
    refine Ev.pos rfl (Ev.pos rfl (Ev.pos (by simp only []; omega) (Ev.bind (markText _ (by omega)) (Ev.pos ?_ ?_))))
    · rw [show c + 4 * (i : Int) + 1 + 1 + 1 = c + 4 * i + 3 by omega]
    · rw [show c + 4 * (i : Int) + 1 + 1 + 1 + 1 = c + 4 * ((i + 1 : Nat) : Int) by omega]
      exact ih (i + 1) (by omega)
theorem heldRecS (n : Nat) (hn : n ≤ 1048576) : Ev (fun k => laws_heldRecS.f k (markR 1 n) 1) (1 + 4 * n) := by
  unfold laws_heldRecS.f
  have h := heldRecS_l0 n 1 (by omega) (by omega) n 0 (by omega)
  rwa [show (1 : Int) + 4 * ((0 : Nat) : Int) = 1 by omega] at h
/-! ### the records of a state -/
def recsOf (gen : Int) (text : ByteArray) (pgen : Int) (ptext : ByteArray) (epoch owner : Int) : List Rec :=
  (if gen = 0 then [] else [⟨1, gen, 0, text⟩, ⟨2, gen, 0, ⟨#[]⟩⟩]) ++ (if pgen = 0 then [] else [⟨1, pgen, 0, ptext⟩]) ++ (if epoch = 0 then [] else [⟨3, epoch, owner, ⟨#[]⟩⟩])
theorem recsOf_length (gen : Int) (text : ByteArray) (pgen : Int) (ptext : ByteArray) (epoch owner : Int) : (recsOf gen text pgen ptext epoch owner).length ≤ 4 := by
  unfold recsOf
  simp only [List.length_append]
  repeat' split
  all_goals simp
theorem spec_recsOf (gen : Int) (text : ByteArray) (pgen : Int) (ptext : ByteArray) (epoch owner : Int) : Ev (fun k => spec_RecsOf.f k gen text pgen ptext epoch owner) (recsOf gen text pgen ptext epoch owner) := by
  unfold spec_RecsOf.f recsOf
  have tail : ∀ (l : List Rec), l.length ≤ 2 → Ev (fun k => spec_RecsOf.j0 k l gen text pgen ptext epoch owner) (l ++ (if pgen = 0 then [] else [⟨1, pgen, 0, ptext⟩]) ++ (if epoch = 0 then [] else [⟨3, epoch, owner, ⟨#[]⟩⟩])) := by
    intro l hl
    refine Ev.step (fun k => spec_RecsOf.j0.eq_2 _ _ _ _ _ _ _ k) ?_
    by_cases hp : pgen = 0
    · refine Ev.pos hp ?_
      by_cases he : epoch = 0
      · exact Ev.pos he (Ev.done (by simp [hp, he]))
      · exact Ev.neg he (Ev.pos (by omega) (Ev.done (by simp [hp, he])))
    · refine Ev.neg hp (Ev.pos (by omega) (Ev.then rfl ?_))
      by_cases he : epoch = 0
      · exact Ev.pos he (Ev.done (by simp [hp, he]))
      · exact Ev.neg he (Ev.pos (by simp; omega) (Ev.done (by simp [hp, he])))
  refine Ev.then rfl ?_
  by_cases hg : gen = 0
  · refine Ev.pos hg (Ev.eq (tail [] (by simp)) (by simp [hg]))
  · refine Ev.neg hg (Ev.then rfl (Ev.pos (by simp) (Ev.eq (tail _ (by simp)) (by simp [hg]))))
theorem impl_recsOf (gen : Int) (text : ByteArray) (pgen : Int) (ptext : ByteArray) (epoch owner : Int) : Ev (fun k => impl_RecsOf.f k gen text pgen ptext epoch owner) (recsOf gen text pgen ptext epoch owner) := by
  unfold impl_RecsOf.f recsOf
  have tail : ∀ (l : List Rec), l.length ≤ 2 → Ev (fun k => impl_RecsOf.j0 k l gen text pgen ptext epoch owner) (l ++ (if pgen = 0 then [] else [⟨1, pgen, 0, ptext⟩]) ++ (if epoch = 0 then [] else [⟨3, epoch, owner, ⟨#[]⟩⟩])) := by
    intro l hl
    refine Ev.step (fun k => impl_RecsOf.j0.eq_2 _ _ _ _ _ _ _ k) ?_
    by_cases hp : pgen = 0
    · refine Ev.pos hp ?_
      by_cases he : epoch = 0
      · exact Ev.pos he (Ev.done (by simp [hp, he]))
      · exact Ev.neg he (Ev.pos (by omega) (Ev.done (by simp [hp, he])))
    · refine Ev.neg hp (Ev.pos (by omega) (Ev.then rfl ?_))
      by_cases he : epoch = 0
      · exact Ev.pos he (Ev.done (by simp [hp, he]))
      · exact Ev.neg he (Ev.pos (by simp; omega) (Ev.done (by simp [hp, he])))
  refine Ev.then rfl ?_
  by_cases hg : gen = 0
  · refine Ev.pos hg (Ev.eq (tail [] (by simp)) (by simp [hg]))
  · refine Ev.neg hg (Ev.then rfl (Ev.pos (by simp) (Ev.eq (tail _ (by simp)) (by simp [hg]))))
theorem szKnown (gen : Int) (text : ByteArray) (pgen : Int) (ptext : ByteArray) (epoch owner left : Int) (ht : text.size ≤ maxLen) (hp : ptext.size ≤ maxLen) (h0 : 0 ≤ left) (h1 : left ≤ 1048576) :
    ∃ r, laws_szKnown.f gen text pgen ptext epoch owner left = some r ∧ r ≤ left ∧ (0 ≤ r → (text.size : Int) ≤ left ∧ (ptext.size : Int) ≤ left) := by
  unfold laws_szKnown.f
  have hm : maxLen = 9223372036854775807 := by decide
  rw [w64 (n := left - (text.size : Int)) (by omega) (by omega)]
  by_cases h : left - (text.size : Int) < 0
  · rw [if_pos h]; exact ⟨-1, rfl, by omega, by omega⟩
  · rw [if_neg h, w64 (n := left - (text.size : Int) - (ptext.size : Int)) (by omega) (by omega)]
    by_cases h' : left - (text.size : Int) - (ptext.size : Int) < 0
    · rw [if_pos h']; exact ⟨-1, rfl, by omega, by omega⟩
    · rw [if_neg h']; exact ⟨_, rfl, by omega, by omega⟩
end Go.Proofs.Ytdanfcjaamcaiaa.Fn
