/- The pure statement of the law FnFramesRead: both readers read the same frames; what was read is what is written; more bytes change nothing. -/
import Derived.Test.YtldfehmaophfjaaPxd
import Derived.Test.YtldfehmaophfjaaDrawFrames
import Derived.Test.YtldfehmaophfjaaFramesBack
namespace Go.Proofs.Ytldfehmaophfjaa.Pure
set_option linter.unusedVariables false
set_option linter.unusedSimpArgs false
open Go.RowKit Go.Proofs.YtldfehmaophfjaaW.PrintWords Go.Proofs.Ytldfehmaophfjaa.P Go.Proofs.Ytldfehmaophfjaa.Base Go.Proofs.Ytldfehmaophfjaa.Fn
theorem sameFrames_l0 (l : List Fn.Frame) (hl : l.length ≤ 1048576) (d : Nat) : ∀ (i : Nat), i + d = l.length → Ev (fun k => laws_sameFrames.l0 k l l (i : Int)) true := by
  induction d with
  | zero =>
    intro i hi
    exact Ev.step (fun k => laws_sameFrames.l0.eq_2 _ _ _ k) (Ev.neg (by omega) (Ev.done rfl))
  | succ d ih =>
    intro i hi
    refine Ev.step (fun k => laws_sameFrames.l0.eq_2 _ _ _ k) (Ev.pos (by omega) (Ev.pos (by omega) (Ev.pos (by omega) (Ev.neg (by simp) ?_))))
    rw [w64 (n := (i : Int) + 1) (by omega) (by omega), cast_succ]
    exact ih (i + 1) (by omega)
theorem sameFrames (l : List Fn.Frame) (hl : l.length ≤ 1048576) : Ev (fun k => laws_sameFrames.f k l l) true := by
  unfold laws_sameFrames.f
  exact Ev.pos rfl (sameFrames_l0 l hl l.length 0 (by omega))
theorem same_self (l : List Int) : laws_same.f l l = some true := by unfold laws_same.f; simp
theorem j2_ok (b : List Int) (hb : Bytes b) (hl : b.length ≤ 1048576) (x16 x17 : Int) (h16 : ¬ (getFrame b).2.2.2.2 = 1 → x16 = (getFrame b).2.2.2.1) (h17 : ¬ (getFrame b).2.2.2.2 = 1 → x17 = (getFrame b).2.2.2.2) (hs : (getFrame b).2.1.size ≤ 9223372036854775807) :
    Ev (fun k => laws_FnFramesRead.j2 k b (getFrame b).2.2.2.1 (getFrame b).2.2.2.2 x16 x17 false (getFrame b).1 (getFrame b).2.1 (getFrame b).2.2.1) true := by
  refine Ev.step (fun k => laws_FnFramesRead.j2.eq_2 _ _ _ _ _ _ _ _ _ k) (Ev.neg (by simp) ?_)
  by_cases h1 : (getFrame b).2.2.2.2 = 1
  · exact Ev.pos h1 (Ev.done rfl)
  refine Ev.neg h1 (Ev.pos (h17 h1) (Ev.pos (h16 h1) ?_))
  by_cases h0 : (getFrame b).2.2.2.2 = 0
  · have hg := getFrame_good hb h0
    refine Ev.pos h0 (Ev.bind (impl_putFrame _ _ _ hs) (Ev.pos (by omega) (Ev.pos (by omega) ?_)))
    rw [putFrame_getFrame hb h0]
    exact Ev.then (same_self _) (Ev.done rfl)
  · exact Ev.neg h0 (Ev.done rfl)
theorem getFrame_size (l : List Int) (hl : l.length ≤ 140737488351232) : (getFrame l).2.1.size ≤ 9223372036854775807 := by
  have hf := frameText_size l hl
  unfold getFrame
  repeat' split
  all_goals first | exact hf | (dsimp only [noFrame]; decide) | decide
theorem frames_size (d : Nat) : ∀ (l : List Int), l.length ≤ 140737488351232 → ∀ x ∈ (frames d l).1, x.f1.size ≤ 9223372036854775807 := by
  induction d with
  | zero => intro l _ x hx; simp [frames] at hx
  | succ d ih =>
    intro l hl x hx
    unfold frames at hx
    by_cases h0 : l = []
    · rw [if_pos h0] at hx; simp at hx
    rw [if_neg h0] at hx
    by_cases hc : (getFrame l).2.2.2.2 = 0
    · rw [if_pos hc] at hx
      rcases List.mem_cons.1 hx with rfl | hx
      · exact getFrame_size l hl
      · exact ih _ (by rw [List.length_drop]; omega) x hx
    · rw [if_neg hc] at hx; simp at hx
theorem FramesRead_l0 (b c : List Int) (hb : Bytes b) (hbl : b.length ≤ 1048576) (hcb : Bytes c) (hcl : c.length ≤ 2000) (x16 x17 : Int) (h16 : ¬ (getFrame b).2.2.2.2 = 1 → x16 = (getFrame b).2.2.2.1) (h17 : ¬ (getFrame b).2.2.2.2 = 1 → x17 = (getFrame b).2.2.2.2) (d : Nat) : ∀ (i : Nat) (o : List Int), i + d = (frames c.length c).1.length → o ++ allFrames ((frames c.length c).1.drop i) = allFrames (frames c.length c).1 →
    Ev (fun k => laws_FnFramesRead.l0 k b (getFrame b).2.2.2.1 (getFrame b).2.2.2.2 c (frames c.length c).1 (frames c.length c).2 x16 x17 o (i : Int) (getFrame b).1 (getFrame b).2.1 (getFrame b).2.2.1) true := by
  obtain ⟨n, hn, ha, hz⟩ := frames_back c.length c hcb (Nat.le_refl _)
  have hfl := frames_length (d := c.length) hcb
  induction d with
  | zero =>
    intro i o hi ho
    rw [List.drop_of_length_le (by omega), show allFrames [] = [] from rfl, List.append_nil] at ho
    have hol : o.length = n := by rw [ho, ha, List.length_take]; omega
    refine Ev.step (fun k => laws_FnFramesRead.l0.eq_2 _ _ _ _ _ _ _ _ _ _ _ _ _ k) (Ev.neg (by omega) (Ev.neg (by omega) (Ev.pos (by omega) (Ev.pos (by omega) ?_))))
    rw [Int.toNat_natCast, hol, ho, ha]
    refine Ev.then (same_self _) (Ev.pos rfl ?_)
    have hj := j2_ok b hb hbl x16 x17 h16 h17 (getFrame_size b (by omega))
    by_cases he : (frames c.length c).2 = 0
    · refine Ev.pos he (Ev.eq ?_ rfl)
      rw [show ((n : Int) != (c.length : Int)) = false by rw [hz he]; simp]
      exact hj
    · exact Ev.neg he hj
  | succ d ih =>
    intro i o hi ho
    have he : rd_T47 (frames c.length c).1 (i : Int) = (frames c.length c).1[i] := getD_nat _ _ (by omega)
    refine Ev.step (fun k => laws_FnFramesRead.l0.eq_2 _ _ _ _ _ _ _ _ _ _ _ _ _ k) (Ev.pos (by omega) (Ev.pos (by omega) ?_))
    rw [he]
    have hol : o.length ≤ 2000 := by
      have := congrArg List.length ho
      rw [List.length_append, ha, List.length_take] at this
      omega
    have hpl := putFrame_length (frames c.length c).1[i].f0 (frames c.length c).1[i].f1 (frames c.length c).1[i].f2
    refine Ev.bind (impl_putFrame _ _ _ (frames_size _ c (by omega) _ (List.getElem_mem _))) (Ev.pos (by omega) ?_)
    rw [w64 (n := (i : Int) + 1) (by omega) (by omega), cast_succ]
    refine ih (i + 1) _ (by omega) ?_
    rw [List.append_assoc, ← allFrames_cons, ← List.drop_eq_getElem_cons (by omega)]
    exact ho
theorem FnFramesRead : laws_FnFramesRead.Pure := by
  intro l hl1 hl2 hl3
  refine Ev.rounds ?_
  have hbl : Bytes l := Bytes.of_wf hl3
  unfold laws_FnFramesRead.f
  refine Ev.then (big l) ?_
  by_cases hbig : (l.length : Int) > 1048576
  · exact Ev.pos (by simpa using hbig) (Ev.done rfl)
  refine Ev.neg (by simpa using hbig) ?_
  obtain ⟨b, e1, hb, hbn⟩ := drawGetFrame l (by omega)
  obtain ⟨c, e2, hc, hcn⟩ := drawFrames l (by omega)
  obtain ⟨y, ey, y0, y1⟩ := at_ l hbl (by omega) 2 (by omega) (by omega)
  have hfl := frames_length (d := c.length) hc
  refine Ev.bind e1 (Ev.bind (impl_getFrame b hb (by omega)) (Ev.bind (spec_getFrame b hb (by omega)) (Ev.bind e2 (Ev.bind (impl_frames c hc (by omega)) (Ev.bind (spec_frames c hc (by omega)) ?_)))))
  refine Ev.neg (by simp) (Ev.pos rfl (Ev.pos rfl (Ev.bind (sameFrames _ (by omega)) (Ev.pos rfl ?_))))
  refine Ev.step (fun k => laws_FnFramesRead.j0.eq_2 _ _ _ _ _ _ _ _ _ _ _ k) (Ev.neg (by simp) (Ev.then rfl (Ev.pos (by simp; omega) (Ev.then rfl (Ev.then ey (Ev.pos (by simp; omega) ?_))))))
  rw [List.nil_append, Int.emod_eq_of_lt y0 (by omega)]
  have hby : Bytes (b ++ [y]) := hb.append (Bytes.cons ⟨y0, y1⟩ Bytes.nil)
  refine Ev.bind (impl_getFrame _ hby (by simp; omega)) ?_
  exact FramesRead_l0 b c hb (by omega) hc (by omega) _ _ (fun h => by rw [getFrame_append hb _ h]) (fun h => by rw [getFrame_append hb _ h]) _ 0 [] (by rw [Nat.zero_add]) (by simp)
end Go.Proofs.Ytldfehmaophfjaa.Pure
