/- What the laws' own functions on lists of frames come to. No memory is in sight here. -/
import Derived.Test.YtdanfcjaamcaiaaPxd
import Derived.Test.YtdanfcjaamcaiaaFrames
import Derived.Test.YtdanfcjaamcaiaaMark
namespace Go.Proofs.Ytdanfcjaamcaiaa.Fn
set_option linter.unusedVariables false
set_option linter.unusedSimpArgs false
open Go.RowKit Go.Proofs.YtdanfcjaamcaiaaW.PrintWords Go.Proofs.Ytdanfcjaamcaiaa.P Go.Proofs.Ytdanfcjaamcaiaa.Base

theorem eqFrame' (x y : Frame) : laws_eqFrame.f x.f0 x.f1 x.f2 y.f0 y.f1 y.f2 = some (eqB x y) := by
  unfold laws_eqFrame.f
  by_cases h : x = y
  · subst h; simp [eqB_same]
  · rw [eqB_not h]
    repeat' split
    all_goals first | rfl | skip
    rename_i h0 h1 h2
    exact absurd (frame_eq h0 (text_inj h1) h2) h
theorem eqFrameS_l0 (l m : List Frame) (hl : l.length ≤ 1048576) (hm : l.length = m.length) (d : Nat) : ∀ (i : Nat), i + d = l.length → Ev (fun k => laws_eqFrameS.l0 k l m (i : Int)) (eqB (l.drop i) (m.drop i)) := by
  induction d with
  | zero =>
    intro i hi
    refine Ev.step (fun k => laws_eqFrameS.l0.eq_2 _ _ _ k) (Ev.neg (by omega) (Ev.done ?_))
    rw [List.drop_of_length_le (by omega), List.drop_of_length_le (by omega), eqB_same]
  | succ d ih =>
    intro i hi
    refine Ev.step (fun k => laws_eqFrameS.l0.eq_2 _ _ _ k) (Ev.pos (by omega) (Ev.pos (by omega) (Ev.pos (by omega) (Ev.then (eqFrame' _ _) ?_))))
    rw [drop_get l z60 (by omega), drop_get m z60 (by omega), w64 (n := (i : Int) + 1) (by omega) (by omega), cast_succ, eqB_cons]
    by_cases h : eqB (rd_T60 l (i : Int)) (rd_T60 m (i : Int)) = true
    · refine Ev.pos h (Ev.eq (ih (i + 1) (by omega)) ?_)
      unfold rd_T60 at h
      rw [h, Bool.true_and]
    · refine Ev.neg h (Ev.done ?_)
      unfold rd_T60 at h
      rw [Bool.not_eq_true] at h
      rw [h, Bool.false_and]
theorem eqFrameS (l m : List Frame) (hl : l.length ≤ 1048576) : Ev (fun k => laws_eqFrameS.f k l m) (eqB l m) := by
  unfold laws_eqFrameS.f
  by_cases h : l.length = m.length
  · exact Ev.pos (by omega) (eqFrameS_l0 l m hl h l.length 0 (by omega))
  · exact Ev.neg (by omega) (Ev.done (eqB_not (fun e => h (by rw [e]))).symm)
noncomputable def markF (c : Int) : Nat → List Frame
  | 0 => []
  | n + 1 => ⟨c, markT (c + 1), c + 2⟩ :: markF (c + 3) n
theorem markF_length (c : Int) (n : Nat) : (markF c n).length = n := by
  induction n generalizing c with
  | zero => rfl
  | succ n ih => simp [markF, ih]
theorem markF_get (c : Int) (n i : Nat) (h : i < n) : (markF c n)[i]'(by rw [markF_length]; exact h) = ⟨c + 3 * i, markT (c + 3 * i + 1), c + 3 * i + 2⟩ := by
  induction n generalizing c i with
  | zero => omega
  | succ n ih =>
    cases i with
    | zero => simp [markF]
    | succ i =>
      simp only [markF, List.getElem_cons_succ]
      rw [ih (c + 3) i (by omega), show c + 3 + 3 * (i : Int) = c + 3 * ((i + 1 : Nat) : Int) by omega]
theorem markFrameS_l0 (n : Nat) (c : Int) (hc : 0 ≤ c) (hn : c + 3 * n ≤ 4611686018427387900) (d : Nat) : ∀ (i : Nat) (o : List Frame), i + d = n → o.length = n → o.take i = (markF c n).take i → Ev (fun k => laws_markFrameS.l0 k o (c + 3 * i) (i : Int)) (c + 3 * n, markF c n) := by
  induction d with
  | zero =>
    intro i o hi ho ht
    refine Ev.step (fun k => laws_markFrameS.l0.eq_2 _ _ _ k) (Ev.neg (by omega) (Ev.done ?_))
    rw [take_all (by rw [markF_length]; exact ho) (by rw [markF_length]; omega) ht, show i = n by omega]
  | succ d ih =>
    intro i o hi ho ht
    have hol : i < o.length := by omega
    refine Ev.step (fun k => laws_markFrameS.l0.eq_2 _ _ _ k) (Ev.pos (by omega) (Ev.pos (by omega) (Ev.then rfl ?_)))
    rw [w64 (n := c + 3 * i + 1) (by omega) (by omega), w64 (n := c + 3 * i + 1 + 1) (by omega) (by omega), w64 (n := c + 3 * i + 1 + 1 + 1) (by omega) (by omega), w64 (n := (i : Int) + 1) (by omega) (by omega), cast_succ]
    refine Ev.bind (markText _ (by omega)) (Ev.then rfl ?_)
    have he : ∀ x : Frame, rd_T60 (o.set i x) (i : Int) = x := fun x => getD_set o z60 hol x
    simp only [Int.toNat_natCast, List.set_set, he]
    rw [show c + 3 * (i : Int) + 1 + 1 + 1 = c + 3 * ((i + 1 : Nat) : Int) by omega]
    refine ih (i + 1) _ (by omega) (by rw [List.length_set]; exact ho) (set_take (by rw [markF_length]; exact ho) (by rw [markF_length]; omega) ht ?_)
    rw [markF_get c n i (by omega), show c + 3 * (i : Int) + 1 + 1 = c + 3 * i + 2 by omega]
theorem markFrameS (l : List Frame) (hl : l.length ≤ 1048576) : Ev (fun k => laws_markFrameS.f k l 1) (1 + 3 * l.length, markF 1 l.length) := by
  unfold laws_markFrameS.f
  have h := markFrameS_l0 l.length 1 (by omega) (by omega) l.length 0 l (by omega) rfl (by simp)
  rwa [show (1 : Int) + 3 * ((0 : Nat) : Int) = 1 by omega] at h
theorem heldFrameS_l0 (n : Nat) (c : Int) (hc : 0 ≤ c) (hn : c + 3 * n ≤ 4611686018427387900) (d : Nat) : ∀ (i : Nat), i + d = n → Ev (fun k => laws_heldFrameS.l0 k (markF c n) (c + 3 * i) (i : Int)) (c + 3 * n) := by
  induction d with
  | zero =>
    intro i hi
    refine Ev.step (fun k => laws_heldFrameS.l0.eq_2 _ _ _ k) (Ev.neg (by rw [markF_length]; omega) (Ev.done ?_))
    rw [show i = n by omega]
  | succ d ih =>
    intro i hi
    have he : rd_T60 (markF c n) (i : Int) = ⟨c + 3 * i, markT (c + 3 * i + 1), c + 3 * i + 2⟩ := by
      unfold rd_T60
      rw [getD_nat _ _ (by rw [markF_length]; omega), markF_get c n i (by omega)]
    refine Ev.step (fun k => laws_heldFrameS.l0.eq_2 _ _ _ k) (Ev.pos (by rw [markF_length]; omega) (Ev.pos (by omega) ?_))
    rw [he, w64 (n := c + 3 * i + 1) (by omega) (by omega), w64 (n := c + 3 * i + 1 + 1) (by omega) (by omega), w64 (n := c + 3 * i + 1 + 1 + 1) (by omega) (by omega), w64 (n := (i : Int) + 1) (by omega) (by omega), cast_succ]
    refine Ev.pos rfl (Ev.bind (markText _ (by omega)) (Ev.pos rfl (Ev.pos (by simp only []; omega) ?_)))
    rw [show c + 3 * (i : Int) + 1 + 1 + 1 = c + 3 * ((i + 1 : Nat) : Int) by omega]
    exact ih (i + 1) (by omega)
theorem heldFrameS (n : Nat) (hn : n ≤ 1048576) : Ev (fun k => laws_heldFrameS.f k (markF 1 n) 1) (1 + 3 * n) := by
  unfold laws_heldFrameS.f
  have h := heldFrameS_l0 n 1 (by omega) (by omega) n 0 (by omega)
  rwa [show (1 : Int) + 3 * ((0 : Nat) : Int) = 1 by omega] at h
end Go.Proofs.Ytdanfcjaamcaiaa.Fn
