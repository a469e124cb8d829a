-- Written by xprint.py (by way of the kit's print program) out of the translation.
import Derived.Test.YtldfehmaophfjaaDoorPx0
import Derived.Test.YtldfehmaophfjaaDoorPxd
import Derived.Test.YtldfehmaophfjaaDoorPx2
import Derived.Test.YtldfehmaophfjaaDoorPx8
namespace Go.Proofs.YtldfehmaophfjaaDoor.P
open Go.RowKit Go.Proofs.YtldfehmaophfjaaDoorW.PrintWords Go.Proofs.YtldfehmaophfjaaDoorW.PrintLast Go.Proofs.YtldfehmaophfjaaDoorW.PrintMore
attribute [local go_sem] max2_int min2_int max_two min_two max_three min_three max_four min_four   -- for this text's walks alone
set_option linter.unusedVariables false
set_option linter.unusedSimpArgs false

/-! ### laws_szKnown: function 37 -/
set_option maxHeartbeats 8000000 in
set_option maxRecDepth 100000 in
theorem laws_szKnown.calls (a0_0 : Int) (a0_1 : ByteArray) (a0_2 : Int) (a0_3 : ByteArray) (a0_4 : Int) (a0_5 : Int) (a1 : Int) (r : Int) (w : World) (h : laws_szKnown.f a0_0 a0_1 a0_2 a0_3 a0_4 a0_5 a1 = some r) :
    Calls Tryd.prog 37 #[.agg #[.int .i64 a0_0, .string a0_1, .int .i64 a0_2, .string a0_3, .int .i64 a0_4, .int .i64 a0_5], .int .i64 a1] w fun e w' => e = .returned (.int .i64 r) ∧ Below w.heap.size w w' := by
  have hu64 := Tryd.underlying64
  have HB := Aside0.mk (Below.refl w.heap.size w)
  have H : (if (wrap64 (a1 - (a0_1.size : Int))) < 0 then (some (-1)) else (if (wrap64 ((wrap64 (a1 - (a0_1.size : Int))) - (a0_3.size : Int))) < 0 then (some (-1)) else (some (wrap64 ((wrap64 (a1 - (a0_1.size : Int))) - (a0_3.size : Int)))))) = some r := h
  clear h
  by_cases c3 : (wrap64 (a1 - (a0_1.size : Int))) < 0
  · rw [if_pos c3] at H
    have c3b0 : decide ((wrap64 (a1 - (a0_1.size : Int))) < 0) = true := decide_eq_true c3
    clear c3
    obtain rfl := Option.some.inj H
    go_enter Tryd.func37, Tryd.ntmps37
    go_wp2_with (first | ((with_reducible refine gate_dst (N := 2) rfl ?_); refine box_event ?hg (N := 2) ?hd (cs := #[.int .i64 a0_0, .string a0_1, .int .i64 a0_2, .string a0_3, .int .i64 a0_4, .int .i64 a0_5]) (t := 64) ?hr ?_; (case hd => rfl); (case hg => rfl); (case hr => first | (go_simp; done) | (go_simp; rfl)); intro gb550 hg w4 hbox hb; have n0_ := Aside0.mk (below_step (by repeat (first | (with_reducible first | exact HB.out | apply below_alloc | apply pw_below_drewN | apply below_drew1) | exact HB.out)) hb); have n1_ := Aside0.mk (hbox); have n2_ := Aside0.mk ((by rw [hg]; exact (below_size (by repeat (first | (with_reducible first | exact HB.out | apply below_alloc | apply pw_below_drewN | apply below_drew1) | exact HB.out))) : w.heap.size ≤ gb550)); have n3_ := Aside0.mk ((by rw [hg]; exact (below_size (by repeat (first | (with_reducible first | exact HB.out | apply below_alloc | apply pw_below_drewN | apply below_drew1) | exact HB.out))) : w.heap.size ≤ gb550)); clear HB; have HB := n0_; have BK550 := n1_; have GW550 := n2_; have GE550 := n3_; clear n0_ n1_ n2_ n3_; clear hb hbox hg; have hcz5_0 : w4.cell? ⟨gb550, 0, none⟩ = some (.int .i64 a0_0) := (blk_cell BK550.out 0).trans rfl; have hcz5_1 : w4.cell? ⟨gb550, 1, none⟩ = some (.string a0_1) := (blk_cell BK550.out 1).trans rfl; have hcz5_2 : w4.cell? ⟨gb550, 2, none⟩ = some (.int .i64 a0_2) := (blk_cell BK550.out 2).trans rfl; have hcz5_3 : w4.cell? ⟨gb550, 3, none⟩ = some (.string a0_3) := (blk_cell BK550.out 3).trans rfl; have hcz5_4 : w4.cell? ⟨gb550, 4, none⟩ = some (.int .i64 a0_4) := (blk_cell BK550.out 4).trans rfl; have hcz5_5 : w4.cell? ⟨gb550, 5, none⟩ = some (.int .i64 a0_5) := (blk_cell BK550.out 5).trans rfl; have hfz5_0 := blk_frozen BK550.out 0; have hfz5_1 := blk_frozen BK550.out 1; have hfz5_2 := blk_frozen BK550.out 2; have hfz5_3 := blk_frozen BK550.out 3; have hfz5_4 := blk_frozen BK550.out 4; have hfz5_5 := blk_frozen BK550.out 5))
    go_ret
    exact ⟨by first | rfl | (simp [errW_none, errW_some] <;> rfl) | (simp [*, errW_none, errW_some] <;> rfl), by repeat (first | (with_reducible first | exact HB.out | apply below_alloc | apply pw_below_drewN | apply below_drew1 | refine below_set ?_ GE550.out) | exact HB.out)⟩
  · rw [if_neg c3] at H
    have c3b0 : decide ((wrap64 (a1 - (a0_1.size : Int))) < 0) = false := decide_eq_false c3
    clear c3
    by_cases c6 : (wrap64 ((wrap64 (a1 - (a0_1.size : Int))) - (a0_3.size : Int))) < 0
    · rw [if_pos c6] at H
      have c6b0 : decide ((wrap64 ((wrap64 (a1 - (a0_1.size : Int))) - (a0_3.size : Int))) < 0) = true := decide_eq_true c6
      clear c6
      obtain rfl := Option.some.inj H
      go_enter Tryd.func37, Tryd.ntmps37
      go_wp2_with (first | ((with_reducible refine gate_dst (N := 2) rfl ?_); refine box_event ?hg (N := 2) ?hd (cs := #[.int .i64 a0_0, .string a0_1, .int .i64 a0_2, .string a0_3, .int .i64 a0_4, .int .i64 a0_5]) (t := 64) ?hr ?_; (case hd => rfl); (case hg => rfl); (case hr => first | (go_simp; done) | (go_simp; rfl)); intro gb550 hg w7 hbox hb; have n0_ := Aside0.mk (below_step (by repeat (first | (with_reducible first | exact HB.out | apply below_alloc | apply pw_below_drewN | apply below_drew1) | exact HB.out)) hb); have n1_ := Aside0.mk (hbox); have n2_ := Aside0.mk ((by rw [hg]; exact (below_size (by repeat (first | (with_reducible first | exact HB.out | apply below_alloc | apply pw_below_drewN | apply below_drew1) | exact HB.out))) : w.heap.size ≤ gb550)); have n3_ := Aside0.mk ((by rw [hg]; exact (below_size (by repeat (first | (with_reducible first | exact HB.out | apply below_alloc | apply pw_below_drewN | apply below_drew1) | exact HB.out))) : w.heap.size ≤ gb550)); clear HB; have HB := n0_; have BK550 := n1_; have GW550 := n2_; have GE550 := n3_; clear n0_ n1_ n2_ n3_; clear hb hbox hg; have hcz8_0 : w7.cell? ⟨gb550, 0, none⟩ = some (.int .i64 a0_0) := (blk_cell BK550.out 0).trans rfl; have hcz8_1 : w7.cell? ⟨gb550, 1, none⟩ = some (.string a0_1) := (blk_cell BK550.out 1).trans rfl; have hcz8_2 : w7.cell? ⟨gb550, 2, none⟩ = some (.int .i64 a0_2) := (blk_cell BK550.out 2).trans rfl; have hcz8_3 : w7.cell? ⟨gb550, 3, none⟩ = some (.string a0_3) := (blk_cell BK550.out 3).trans rfl; have hcz8_4 : w7.cell? ⟨gb550, 4, none⟩ = some (.int .i64 a0_4) := (blk_cell BK550.out 4).trans rfl; have hcz8_5 : w7.cell? ⟨gb550, 5, none⟩ = some (.int .i64 a0_5) := (blk_cell BK550.out 5).trans rfl; have hfz8_0 := blk_frozen BK550.out 0; have hfz8_1 := blk_frozen BK550.out 1; have hfz8_2 := blk_frozen BK550.out 2; have hfz8_3 := blk_frozen BK550.out 3; have hfz8_4 := blk_frozen BK550.out 4; have hfz8_5 := blk_frozen BK550.out 5))
      go_ret
      exact ⟨by first | rfl | (simp [errW_none, errW_some] <;> rfl) | (simp [*, errW_none, errW_some] <;> rfl), by repeat (first | (with_reducible first | exact HB.out | apply below_alloc | apply pw_below_drewN | apply below_drew1 | refine below_set ?_ GE550.out) | exact HB.out)⟩
    · rw [if_neg c6] at H
      have c6b0 : decide ((wrap64 ((wrap64 (a1 - (a0_1.size : Int))) - (a0_3.size : Int))) < 0) = false := decide_eq_false c6
      clear c6
      obtain rfl := Option.some.inj H
      go_enter Tryd.func37, Tryd.ntmps37
      go_wp2_with (first | ((with_reducible refine gate_dst (N := 2) rfl ?_); refine box_event ?hg (N := 2) ?hd (cs := #[.int .i64 a0_0, .string a0_1, .int .i64 a0_2, .string a0_3, .int .i64 a0_4, .int .i64 a0_5]) (t := 64) ?hr ?_; (case hd => rfl); (case hg => rfl); (case hr => first | (go_simp; done) | (go_simp; rfl)); intro gb550 hg w9 hbox hb; have n0_ := Aside0.mk (below_step (by repeat (first | (with_reducible first | exact HB.out | apply below_alloc | apply pw_below_drewN | apply below_drew1) | exact HB.out)) hb); have n1_ := Aside0.mk (hbox); have n2_ := Aside0.mk ((by rw [hg]; exact (below_size (by repeat (first | (with_reducible first | exact HB.out | apply below_alloc | apply pw_below_drewN | apply below_drew1) | exact HB.out))) : w.heap.size ≤ gb550)); have n3_ := Aside0.mk ((by rw [hg]; exact (below_size (by repeat (first | (with_reducible first | exact HB.out | apply below_alloc | apply pw_below_drewN | apply below_drew1) | exact HB.out))) : w.heap.size ≤ gb550)); clear HB; have HB := n0_; have BK550 := n1_; have GW550 := n2_; have GE550 := n3_; clear n0_ n1_ n2_ n3_; clear hb hbox hg; have hcz10_0 : w9.cell? ⟨gb550, 0, none⟩ = some (.int .i64 a0_0) := (blk_cell BK550.out 0).trans rfl; have hcz10_1 : w9.cell? ⟨gb550, 1, none⟩ = some (.string a0_1) := (blk_cell BK550.out 1).trans rfl; have hcz10_2 : w9.cell? ⟨gb550, 2, none⟩ = some (.int .i64 a0_2) := (blk_cell BK550.out 2).trans rfl; have hcz10_3 : w9.cell? ⟨gb550, 3, none⟩ = some (.string a0_3) := (blk_cell BK550.out 3).trans rfl; have hcz10_4 : w9.cell? ⟨gb550, 4, none⟩ = some (.int .i64 a0_4) := (blk_cell BK550.out 4).trans rfl; have hcz10_5 : w9.cell? ⟨gb550, 5, none⟩ = some (.int .i64 a0_5) := (blk_cell BK550.out 5).trans rfl; have hfz10_0 := blk_frozen BK550.out 0; have hfz10_1 := blk_frozen BK550.out 1; have hfz10_2 := blk_frozen BK550.out 2; have hfz10_3 := blk_frozen BK550.out 3; have hfz10_4 := blk_frozen BK550.out 4; have hfz10_5 := blk_frozen BK550.out 5))
      go_ret
      exact ⟨by first | rfl | (simp [errW_none, errW_some] <;> rfl) | (simp [*, errW_none, errW_some] <;> rfl), by repeat (first | (with_reducible first | exact HB.out | apply below_alloc | apply pw_below_drewN | apply below_drew1 | refine below_set ?_ GE550.out) | exact HB.out)⟩

/-! ### spec_KnownOk: function 38 -/
theorem spec_KnownOk.mono_l : ∀ k, (∀ y0 y1 y2 y3 y4 y5 y6, LeO (spec_KnownOk.j0 k y0 y1 y2 y3 y4 y5 y6) (spec_KnownOk.j0 (k + 1) y0 y1 y2 y3 y4 y5 y6)) ∧ (∀ y0 y1 y2 y3 y4 y5 y6, LeO (spec_KnownOk.j1 k y0 y1 y2 y3 y4 y5 y6) (spec_KnownOk.j1 (k + 1) y0 y1 y2 y3 y4 y5 y6))
  | 0 => ⟨fun _ _ _ _ _ _ _ r h => by simp [spec_KnownOk.j0] at h, fun _ _ _ _ _ _ _ r h => by simp [spec_KnownOk.j1] at h⟩
  | k + 1 => by
    obtain ⟨ih0, ih1⟩ := spec_KnownOk.mono_l k
    refine ⟨?_, ?_⟩
    · intro y0 y1 y2 y3 y4 y5 y6
      unfold spec_KnownOk.j0
      repeat' first
      | (with_reducible exact ih0 _ _ _ _ _ _ _)
      | (with_reducible exact ih1 _ _ _ _ _ _ _)
      | (with_reducible exact spec_l4Text.mono _ _)
      | (with_reducible exact LeO.refl _)
      | (with_reducible exact LeO.none _)
      | (with_reducible refine LeO.ite ?_ ?_)
      | (with_reducible refine LeO.bind ?_ (fun _ => ?_))
      | exact ih0 _ _ _ _ _ _ _
      | exact ih1 _ _ _ _ _ _ _
      | exact spec_l4Text.mono _ _
      | exact LeO.none _
      | refine LeO.ite ?_ ?_
      | refine LeO.bind ?_ (fun _ => ?_)
    · intro y0 y1 y2 y3 y4 y5 y6
      unfold spec_KnownOk.j1
      repeat' first
      | (with_reducible exact ih0 _ _ _ _ _ _ _)
      | (with_reducible exact ih1 _ _ _ _ _ _ _)
      | (with_reducible exact spec_l4Text.mono _ _)
      | (with_reducible exact LeO.refl _)
      | (with_reducible exact LeO.none _)
      | (with_reducible refine LeO.ite ?_ ?_)
      | (with_reducible refine LeO.bind ?_ (fun _ => ?_))
      | exact ih0 _ _ _ _ _ _ _
      | exact ih1 _ _ _ _ _ _ _
      | exact spec_l4Text.mono _ _
      | exact LeO.none _
      | refine LeO.ite ?_ ?_
      | refine LeO.bind ?_ (fun _ => ?_)
theorem spec_KnownOk.mono : ∀ a0 a1 a2 a3 a4 a5 k, LeO (spec_KnownOk.f k a0 a1 a2 a3 a4 a5) (spec_KnownOk.f (k + 1) a0 a1 a2 a3 a4 a5) := by
  intro a0 a1 a2 a3 a4 a5 k
  obtain ⟨ih0, ih1⟩ := spec_KnownOk.mono_l k
  unfold spec_KnownOk.f
  repeat' first
      | (with_reducible exact ih0 _ _ _ _ _ _ _)
      | (with_reducible exact ih1 _ _ _ _ _ _ _)
      | (with_reducible exact spec_l4Text.mono _ _)
      | (with_reducible exact LeO.refl _)
      | (with_reducible exact LeO.none _)
      | (with_reducible refine LeO.ite ?_ ?_)
      | (with_reducible refine LeO.bind ?_ (fun _ => ?_))
      | exact ih0 _ _ _ _ _ _ _
      | exact ih1 _ _ _ _ _ _ _
      | exact spec_l4Text.mono _ _
      | exact LeO.none _
      | refine LeO.ite ?_ ?_
      | refine LeO.bind ?_ (fun _ => ?_)
set_option maxHeartbeats 8000000 in
set_option maxRecDepth 100000 in
theorem spec_KnownOk.calls (k : Nat) (a0_0 : Int) (a0_1 : ByteArray) (a0_2 : Int) (a0_3 : ByteArray) (a0_4 : Int) (a0_5 : Int) (r : Bool) (w : World) (h : spec_KnownOk.f k a0_0 a0_1 a0_2 a0_3 a0_4 a0_5 = some r) :
    Calls Tryd.prog 38 #[.agg #[.int .i64 a0_0, .string a0_1, .int .i64 a0_2, .string a0_3, .int .i64 a0_4, .int .i64 a0_5]] w fun e w' => e = .returned (.bool r) ∧ Below w.heap.size w w' := by
  have hu67 := Tryd.underlying67
  have HB := Aside0.mk (Below.refl w.heap.size w)
  have H : ((spec_l1In.f a0_0 0 60000).bind fun t552 => (if t552 = true then ((spec_l1In.f a0_2 0 60000).bind fun t553 => (if t553 = true then ((spec_l1In.f a0_4 0 60000).bind fun t554 => (if t554 = true then ((spec_l1In.f a0_5 0 1).bind fun t555 => (if t555 = true then (if a0_4 = 0 then (spec_KnownOk.j0 k (a0_5 != 0) a0_0 a0_1 a0_2 a0_3 a0_4 a0_5) else (spec_KnownOk.j0 k false a0_0 a0_1 a0_2 a0_3 a0_4 a0_5)) else (spec_KnownOk.j0 k true a0_0 a0_1 a0_2 a0_3 a0_4 a0_5))) else (spec_KnownOk.j0 k true a0_0 a0_1 a0_2 a0_3 a0_4 a0_5))) else (spec_KnownOk.j0 k true a0_0 a0_1 a0_2 a0_3 a0_4 a0_5))) else (spec_KnownOk.j0 k true a0_0 a0_1 a0_2 a0_3 a0_4 a0_5))) = some r := h
  clear h
  have HC2 := Aside0.mk H
  clear H
  go_enter Tryd.func38, Tryd.ntmps38
  go_upto_region 1 with (first | ((with_reducible refine gate_dst (N := 1) rfl ?_); refine box_event ?hg (N := 1) ?hd (cs := #[.int .i64 a0_0, .string a0_1, .int .i64 a0_2, .string a0_3, .int .i64 a0_4, .int .i64 a0_5]) (t := 67) ?hr ?_; (case hd => rfl); (case hg => rfl); (case hr => first | (go_simp; done) | (go_simp; rfl)); intro gb551 hg w3 hbox hb; have n0_ := Aside0.mk (below_step (by repeat (first | (with_reducible first | exact HB.out | apply below_alloc | apply pw_below_drewN | apply below_drew1) | exact HB.out)) hb); have n1_ := Aside0.mk (hbox); have n2_ := Aside0.mk ((by rw [hg]; exact (below_size (by repeat (first | (with_reducible first | exact HB.out | apply below_alloc | apply pw_below_drewN | apply below_drew1) | exact HB.out))) : w.heap.size ≤ gb551)); have n3_ := Aside0.mk ((by rw [hg]; exact (below_size (by repeat (first | (with_reducible first | exact HB.out | apply below_alloc | apply pw_below_drewN | apply below_drew1) | exact HB.out))) : w.heap.size ≤ gb551)); clear HB; have HB := n0_; have BK551 := n1_; have GW551 := n2_; have GE551 := n3_; clear n0_ n1_ n2_ n3_; clear hb hbox hg))
  (try simp only [Act.put, List.setIfInBounds_toArray, List.set_cons_zero, List.set_cons_succ])
  go_cut [34] (fun v34 wc => ∃ (kq : Nat) (x34_1 : Bool), v34 = .bool x34_1 ∧ Aside0 (spec_KnownOk.j0 kq x34_1 a0_0 a0_1 a0_2 a0_3 a0_4 a0_5 = some r) ∧ Aside0 (kq ≤ k) ∧ Aside0 (wc.heap[gb551]? = some (.cells #[.int .i64 a0_0, .string a0_1, .int .i64 a0_2, .string a0_3, .int .i64 a0_4, .int .i64 a0_5] 67 (0, 0))) ∧ Aside0 (Below w.heap.size w wc))
  case first =>
    have H := HC2.out
    clear HC2
    replace H := Option.bind_eq_some_iff.mp H
    obtain ⟨t552, A40, H⟩ := H
    replace H : (if t552 = true then ((spec_l1In.f a0_2 0 60000).bind fun t553 => (if t553 = true then ((spec_l1In.f a0_4 0 60000).bind fun t554 => (if t554 = true then ((spec_l1In.f a0_5 0 1).bind fun t555 => (if t555 = true then (if a0_4 = 0 then (spec_KnownOk.j0 k (a0_5 != 0) a0_0 a0_1 a0_2 a0_3 a0_4 a0_5) else (spec_KnownOk.j0 k false a0_0 a0_1 a0_2 a0_3 a0_4 a0_5)) else (spec_KnownOk.j0 k true a0_0 a0_1 a0_2 a0_3 a0_4 a0_5))) else (spec_KnownOk.j0 k true a0_0 a0_1 a0_2 a0_3 a0_4 a0_5))) else (spec_KnownOk.j0 k true a0_0 a0_1 a0_2 a0_3 a0_4 a0_5))) else (spec_KnownOk.j0 k true a0_0 a0_1 a0_2 a0_3 a0_4 a0_5)) = some r := H
    have A4 := Aside0.mk A40
    clear A40
    by_cases c5 : t552 = true
    · subst c5
      have H1 : ((spec_l1In.f a0_2 0 60000).bind fun t553 => (if t553 = true then ((spec_l1In.f a0_4 0 60000).bind fun t554 => (if t554 = true then ((spec_l1In.f a0_5 0 1).bind fun t555 => (if t555 = true then (if a0_4 = 0 then (spec_KnownOk.j0 k (a0_5 != 0) a0_0 a0_1 a0_2 a0_3 a0_4 a0_5) else (spec_KnownOk.j0 k false a0_0 a0_1 a0_2 a0_3 a0_4 a0_5)) else (spec_KnownOk.j0 k true a0_0 a0_1 a0_2 a0_3 a0_4 a0_5))) else (spec_KnownOk.j0 k true a0_0 a0_1 a0_2 a0_3 a0_4 a0_5))) else (spec_KnownOk.j0 k true a0_0 a0_1 a0_2 a0_3 a0_4 a0_5))) = some r := by rw [if_pos rfl] at H; exact H
      clear H
      have H := H1
      clear H1
      replace H := Option.bind_eq_some_iff.mp H
      obtain ⟨t553, A60, H⟩ := H
      replace H : (if t553 = true then ((spec_l1In.f a0_4 0 60000).bind fun t554 => (if t554 = true then ((spec_l1In.f a0_5 0 1).bind fun t555 => (if t555 = true then (if a0_4 = 0 then (spec_KnownOk.j0 k (a0_5 != 0) a0_0 a0_1 a0_2 a0_3 a0_4 a0_5) else (spec_KnownOk.j0 k false a0_0 a0_1 a0_2 a0_3 a0_4 a0_5)) else (spec_KnownOk.j0 k true a0_0 a0_1 a0_2 a0_3 a0_4 a0_5))) else (spec_KnownOk.j0 k true a0_0 a0_1 a0_2 a0_3 a0_4 a0_5))) else (spec_KnownOk.j0 k true a0_0 a0_1 a0_2 a0_3 a0_4 a0_5)) = some r := H
      have A6 := Aside0.mk A60
      clear A60
      by_cases c7 : t553 = true
      · subst c7
        have H1 : ((spec_l1In.f a0_4 0 60000).bind fun t554 => (if t554 = true then ((spec_l1In.f a0_5 0 1).bind fun t555 => (if t555 = true then (if a0_4 = 0 then (spec_KnownOk.j0 k (a0_5 != 0) a0_0 a0_1 a0_2 a0_3 a0_4 a0_5) else (spec_KnownOk.j0 k false a0_0 a0_1 a0_2 a0_3 a0_4 a0_5)) else (spec_KnownOk.j0 k true a0_0 a0_1 a0_2 a0_3 a0_4 a0_5))) else (spec_KnownOk.j0 k true a0_0 a0_1 a0_2 a0_3 a0_4 a0_5))) = some r := by rw [if_pos rfl] at H; exact H
        clear H
        have H := H1
        clear H1
        replace H := Option.bind_eq_some_iff.mp H
        obtain ⟨t554, A80, H⟩ := H
        replace H : (if t554 = true then ((spec_l1In.f a0_5 0 1).bind fun t555 => (if t555 = true then (if a0_4 = 0 then (spec_KnownOk.j0 k (a0_5 != 0) a0_0 a0_1 a0_2 a0_3 a0_4 a0_5) else (spec_KnownOk.j0 k false a0_0 a0_1 a0_2 a0_3 a0_4 a0_5)) else (spec_KnownOk.j0 k true a0_0 a0_1 a0_2 a0_3 a0_4 a0_5))) else (spec_KnownOk.j0 k true a0_0 a0_1 a0_2 a0_3 a0_4 a0_5)) = some r := H
        have A8 := Aside0.mk A80
        clear A80
        by_cases c9 : t554 = true
        · subst c9
          have H1 : ((spec_l1In.f a0_5 0 1).bind fun t555 => (if t555 = true then (if a0_4 = 0 then (spec_KnownOk.j0 k (a0_5 != 0) a0_0 a0_1 a0_2 a0_3 a0_4 a0_5) else (spec_KnownOk.j0 k false a0_0 a0_1 a0_2 a0_3 a0_4 a0_5)) else (spec_KnownOk.j0 k true a0_0 a0_1 a0_2 a0_3 a0_4 a0_5))) = some r := by rw [if_pos rfl] at H; exact H
          clear H
          have H := H1
          clear H1
          replace H := Option.bind_eq_some_iff.mp H
          obtain ⟨t555, A100, H⟩ := H
          replace H : (if t555 = true then (if a0_4 = 0 then (spec_KnownOk.j0 k (a0_5 != 0) a0_0 a0_1 a0_2 a0_3 a0_4 a0_5) else (spec_KnownOk.j0 k false a0_0 a0_1 a0_2 a0_3 a0_4 a0_5)) else (spec_KnownOk.j0 k true a0_0 a0_1 a0_2 a0_3 a0_4 a0_5)) = some r := H
          have A10 := Aside0.mk A100
          clear A100
          by_cases c11 : t555 = true
          · subst c11
            have H1 : (if a0_4 = 0 then (spec_KnownOk.j0 k (a0_5 != 0) a0_0 a0_1 a0_2 a0_3 a0_4 a0_5) else (spec_KnownOk.j0 k false a0_0 a0_1 a0_2 a0_3 a0_4 a0_5)) = some r := by rw [if_pos rfl] at H; exact H
            clear H
            have H := H1
            clear H1
            by_cases c12 : a0_4 = 0
            · rw [if_pos c12] at H
              have c12b0 : (a0_4 == 0) = true := beq_iff_eq.mpr c12
              have c12b1 : (a0_4 != 0) = false := bne_eq_false_iff_eq.mpr c12
              clear c12
              (first | rw [c12b0] | (simp only [i64_w, i32_w]; rw [c12b0]) | skip)
              have H' := Aside0.mk H
              clear H
              have hcz13_0 : w3.cell? ⟨gb551, 0, none⟩ = some (.int .i64 a0_0) := (blk_cell BK551.out 0).trans rfl
              have hcz13_1 : w3.cell? ⟨gb551, 1, none⟩ = some (.string a0_1) := (blk_cell BK551.out 1).trans rfl
              have hcz13_2 : w3.cell? ⟨gb551, 2, none⟩ = some (.int .i64 a0_2) := (blk_cell BK551.out 2).trans rfl
              have hcz13_3 : w3.cell? ⟨gb551, 3, none⟩ = some (.string a0_3) := (blk_cell BK551.out 3).trans rfl
              have hcz13_4 : w3.cell? ⟨gb551, 4, none⟩ = some (.int .i64 a0_4) := (blk_cell BK551.out 4).trans rfl
              have hcz13_5 : w3.cell? ⟨gb551, 5, none⟩ = some (.int .i64 a0_5) := (blk_cell BK551.out 5).trans rfl
              have hfz13_0 := blk_frozen BK551.out 0
              have hfz13_1 := blk_frozen BK551.out 1
              have hfz13_2 := blk_frozen BK551.out 2
              have hfz13_3 := blk_frozen BK551.out 3
              have hfz13_4 := blk_frozen BK551.out 4
              have hfz13_5 := blk_frozen BK551.out 5
              go_wp2_with (first | ((with_reducible refine gate_callee (f := 54) rfl ?_); refine goesL_ (some 5) rfl rfl Tryd.func54 (by kernel_rfl) rfl #[.int .i64 a0_0, .int .i64 0, .int .i64 60000] rfl (by (try simp only [List.map_toArray, List.map_cons, List.map_nil]); first | done | rfl | (simp only [List.length_drop, List.length_take]; rfl)) ?_; (with_reducible refine (spec_l1In.calls a0_0 0 60000 true _ A4.out).mono ?_); rintro e w' ⟨rfl, ⟨nd, rfl⟩⟩; refine ⟨_, rfl, ?_⟩) | (go_at_call 54; (with_reducible refine (spec_l1In.calls a0_2 0 60000 true _ A6.out).mono ?_); rintro e w' ⟨rfl, ⟨nd, rfl⟩⟩) | (go_at_call 54; (with_reducible refine (spec_l1In.calls a0_4 0 60000 true _ A8.out).mono ?_); rintro e w' ⟨rfl, ⟨nd, rfl⟩⟩) | (go_at_call 54; (with_reducible refine (spec_l1In.calls a0_5 0 1 true _ A10.out).mono ?_); rintro e w' ⟨rfl, ⟨nd, rfl⟩⟩))
              go_meet
              case rel => exact ⟨_, ((a0_5 != 0)), (by first | rfl | (simp; done) | (simp [*]; done)), H', ⟨by first | omega | exact Nat.le_refl _⟩, ⟨by (with_reducible repeat (first | refine blk_drewN ?_ _ | refine blk_drew ?_ | refine blk_alloc ?_ _)); exact BK551.out⟩, ⟨by repeat (first | (with_reducible first | exact HB.out | apply below_alloc | apply pw_below_drewN | apply below_drew1 | refine below_set ?_ GE551.out) | exact HB.out)⟩⟩
            · rw [if_neg c12] at H
              have c12b0 : (a0_4 == 0) = false := beq_eq_false_iff_ne.mpr c12
              have c12b1 : (a0_4 != 0) = true := bne_iff_ne.mpr c12
              (first | rw [c12b0] | (simp only [i64_w, i32_w]; rw [c12b0]) | skip)
              have H' := Aside0.mk H
              clear H
              have hcz14_0 : w3.cell? ⟨gb551, 0, none⟩ = some (.int .i64 a0_0) := (blk_cell BK551.out 0).trans rfl
              have hcz14_1 : w3.cell? ⟨gb551, 1, none⟩ = some (.string a0_1) := (blk_cell BK551.out 1).trans rfl
              have hcz14_2 : w3.cell? ⟨gb551, 2, none⟩ = some (.int .i64 a0_2) := (blk_cell BK551.out 2).trans rfl
              have hcz14_3 : w3.cell? ⟨gb551, 3, none⟩ = some (.string a0_3) := (blk_cell BK551.out 3).trans rfl
              have hcz14_4 : w3.cell? ⟨gb551, 4, none⟩ = some (.int .i64 a0_4) := (blk_cell BK551.out 4).trans rfl
              have hcz14_5 : w3.cell? ⟨gb551, 5, none⟩ = some (.int .i64 a0_5) := (blk_cell BK551.out 5).trans rfl
              have hfz14_0 := blk_frozen BK551.out 0
              have hfz14_1 := blk_frozen BK551.out 1
              have hfz14_2 := blk_frozen BK551.out 2
              have hfz14_3 := blk_frozen BK551.out 3
              have hfz14_4 := blk_frozen BK551.out 4
              have hfz14_5 := blk_frozen BK551.out 5
              go_wp2_with (first | ((with_reducible refine gate_callee (f := 54) rfl ?_); refine goesL_ (some 5) rfl rfl Tryd.func54 (by kernel_rfl) rfl #[.int .i64 a0_0, .int .i64 0, .int .i64 60000] rfl (by (try simp only [List.map_toArray, List.map_cons, List.map_nil]); first | done | rfl | (simp only [List.length_drop, List.length_take]; rfl)) ?_; (with_reducible refine (spec_l1In.calls a0_0 0 60000 true _ A4.out).mono ?_); rintro e w' ⟨rfl, ⟨nd, rfl⟩⟩; refine ⟨_, rfl, ?_⟩) | (go_at_call 54; (with_reducible refine (spec_l1In.calls a0_2 0 60000 true _ A6.out).mono ?_); rintro e w' ⟨rfl, ⟨nd, rfl⟩⟩) | (go_at_call 54; (with_reducible refine (spec_l1In.calls a0_4 0 60000 true _ A8.out).mono ?_); rintro e w' ⟨rfl, ⟨nd, rfl⟩⟩) | (go_at_call 54; (with_reducible refine (spec_l1In.calls a0_5 0 1 true _ A10.out).mono ?_); rintro e w' ⟨rfl, ⟨nd, rfl⟩⟩))
              go_meet
              case rel => exact ⟨_, (false), (by first | rfl | (simp; done) | (simp [*]; done)), H', ⟨by first | omega | exact Nat.le_refl _⟩, ⟨by (with_reducible repeat (first | refine blk_drewN ?_ _ | refine blk_drew ?_ | refine blk_alloc ?_ _)); exact BK551.out⟩, ⟨by repeat (first | (with_reducible first | exact HB.out | apply below_alloc | apply pw_below_drewN | apply below_drew1 | refine below_set ?_ GE551.out) | exact HB.out)⟩⟩
          · replace c11 := Bool.eq_false_iff.mpr c11
            subst c11
            have H1 : (spec_KnownOk.j0 k true a0_0 a0_1 a0_2 a0_3 a0_4 a0_5) = some r := by rw [if_neg (show ¬ (false = true) by decide)] at H; exact H
            clear H
            have H := H1
            clear H1
            have H' := Aside0.mk H
            clear H
            have hcz15_0 : w3.cell? ⟨gb551, 0, none⟩ = some (.int .i64 a0_0) := (blk_cell BK551.out 0).trans rfl
            have hcz15_1 : w3.cell? ⟨gb551, 1, none⟩ = some (.string a0_1) := (blk_cell BK551.out 1).trans rfl
            have hcz15_2 : w3.cell? ⟨gb551, 2, none⟩ = some (.int .i64 a0_2) := (blk_cell BK551.out 2).trans rfl
            have hcz15_3 : w3.cell? ⟨gb551, 3, none⟩ = some (.string a0_3) := (blk_cell BK551.out 3).trans rfl
            have hcz15_4 : w3.cell? ⟨gb551, 4, none⟩ = some (.int .i64 a0_4) := (blk_cell BK551.out 4).trans rfl
            have hcz15_5 : w3.cell? ⟨gb551, 5, none⟩ = some (.int .i64 a0_5) := (blk_cell BK551.out 5).trans rfl
            have hfz15_0 := blk_frozen BK551.out 0
            have hfz15_1 := blk_frozen BK551.out 1
            have hfz15_2 := blk_frozen BK551.out 2
            have hfz15_3 := blk_frozen BK551.out 3
            have hfz15_4 := blk_frozen BK551.out 4
            have hfz15_5 := blk_frozen BK551.out 5
            go_wp2_with (first | ((with_reducible refine gate_callee (f := 54) rfl ?_); refine goesL_ (some 5) rfl rfl Tryd.func54 (by kernel_rfl) rfl #[.int .i64 a0_0, .int .i64 0, .int .i64 60000] rfl (by (try simp only [List.map_toArray, List.map_cons, List.map_nil]); first | done | rfl | (simp only [List.length_drop, List.length_take]; rfl)) ?_; (with_reducible refine (spec_l1In.calls a0_0 0 60000 true _ A4.out).mono ?_); rintro e w' ⟨rfl, ⟨nd, rfl⟩⟩; refine ⟨_, rfl, ?_⟩) | (go_at_call 54; (with_reducible refine (spec_l1In.calls a0_2 0 60000 true _ A6.out).mono ?_); rintro e w' ⟨rfl, ⟨nd, rfl⟩⟩) | (go_at_call 54; (with_reducible refine (spec_l1In.calls a0_4 0 60000 true _ A8.out).mono ?_); rintro e w' ⟨rfl, ⟨nd, rfl⟩⟩) | (go_at_call 54; (with_reducible refine (spec_l1In.calls a0_5 0 1 false _ A10.out).mono ?_); rintro e w' ⟨rfl, ⟨nd, rfl⟩⟩))
            go_meet
            case rel => exact ⟨_, (true), (by first | rfl | (simp; done) | (simp [*]; done)), H', ⟨by first | omega | exact Nat.le_refl _⟩, ⟨by (with_reducible repeat (first | refine blk_drewN ?_ _ | refine blk_drew ?_ | refine blk_alloc ?_ _)); exact BK551.out⟩, ⟨by repeat (first | (with_reducible first | exact HB.out | apply below_alloc | apply pw_below_drewN | apply below_drew1 | refine below_set ?_ GE551.out) | exact HB.out)⟩⟩
        · replace c9 := Bool.eq_false_iff.mpr c9
          subst c9
          have H1 : (spec_KnownOk.j0 k true a0_0 a0_1 a0_2 a0_3 a0_4 a0_5) = some r := by rw [if_neg (show ¬ (false = true) by decide)] at H; exact H
          clear H
          have H := H1
          clear H1
          have H' := Aside0.mk H
          clear H
          have hcz16_0 : w3.cell? ⟨gb551, 0, none⟩ = some (.int .i64 a0_0) := (blk_cell BK551.out 0).trans rfl
          have hcz16_1 : w3.cell? ⟨gb551, 1, none⟩ = some (.string a0_1) := (blk_cell BK551.out 1).trans rfl
          have hcz16_2 : w3.cell? ⟨gb551, 2, none⟩ = some (.int .i64 a0_2) := (blk_cell BK551.out 2).trans rfl
          have hcz16_3 : w3.cell? ⟨gb551, 3, none⟩ = some (.string a0_3) := (blk_cell BK551.out 3).trans rfl
          have hcz16_4 : w3.cell? ⟨gb551, 4, none⟩ = some (.int .i64 a0_4) := (blk_cell BK551.out 4).trans rfl
          have hcz16_5 : w3.cell? ⟨gb551, 5, none⟩ = some (.int .i64 a0_5) := (blk_cell BK551.out 5).trans rfl
          have hfz16_0 := blk_frozen BK551.out 0
          have hfz16_1 := blk_frozen BK551.out 1
          have hfz16_2 := blk_frozen BK551.out 2
          have hfz16_3 := blk_frozen BK551.out 3
          have hfz16_4 := blk_frozen BK551.out 4
          have hfz16_5 := blk_frozen BK551.out 5
          go_wp2_with (first | ((with_reducible refine gate_callee (f := 54) rfl ?_); refine goesL_ (some 5) rfl rfl Tryd.func54 (by kernel_rfl) rfl #[.int .i64 a0_0, .int .i64 0, .int .i64 60000] rfl (by (try simp only [List.map_toArray, List.map_cons, List.map_nil]); first | done | rfl | (simp only [List.length_drop, List.length_take]; rfl)) ?_; (with_reducible refine (spec_l1In.calls a0_0 0 60000 true _ A4.out).mono ?_); rintro e w' ⟨rfl, ⟨nd, rfl⟩⟩; refine ⟨_, rfl, ?_⟩) | (go_at_call 54; (with_reducible refine (spec_l1In.calls a0_2 0 60000 true _ A6.out).mono ?_); rintro e w' ⟨rfl, ⟨nd, rfl⟩⟩) | (go_at_call 54; (with_reducible refine (spec_l1In.calls a0_4 0 60000 false _ A8.out).mono ?_); rintro e w' ⟨rfl, ⟨nd, rfl⟩⟩))
          go_meet
          case rel => exact ⟨_, (true), (by first | rfl | (simp; done) | (simp [*]; done)), H', ⟨by first | omega | exact Nat.le_refl _⟩, ⟨by (with_reducible repeat (first | refine blk_drewN ?_ _ | refine blk_drew ?_ | refine blk_alloc ?_ _)); exact BK551.out⟩, ⟨by repeat (first | (with_reducible first | exact HB.out | apply below_alloc | apply pw_below_drewN | apply below_drew1 | refine below_set ?_ GE551.out) | exact HB.out)⟩⟩
      · replace c7 := Bool.eq_false_iff.mpr c7
        subst c7
        have H1 : (spec_KnownOk.j0 k true a0_0 a0_1 a0_2 a0_3 a0_4 a0_5) = some r := by rw [if_neg (show ¬ (false = true) by decide)] at H; exact H
        clear H
        have H := H1
        clear H1
        have H' := Aside0.mk H
        clear H
        have hcz17_0 : w3.cell? ⟨gb551, 0, none⟩ = some (.int .i64 a0_0) := (blk_cell BK551.out 0).trans rfl
        have hcz17_1 : w3.cell? ⟨gb551, 1, none⟩ = some (.string a0_1) := (blk_cell BK551.out 1).trans rfl
        have hcz17_2 : w3.cell? ⟨gb551, 2, none⟩ = some (.int .i64 a0_2) := (blk_cell BK551.out 2).trans rfl
        have hcz17_3 : w3.cell? ⟨gb551, 3, none⟩ = some (.string a0_3) := (blk_cell BK551.out 3).trans rfl
        have hcz17_4 : w3.cell? ⟨gb551, 4, none⟩ = some (.int .i64 a0_4) := (blk_cell BK551.out 4).trans rfl
        have hcz17_5 : w3.cell? ⟨gb551, 5, none⟩ = some (.int .i64 a0_5) := (blk_cell BK551.out 5).trans rfl
        have hfz17_0 := blk_frozen BK551.out 0
        have hfz17_1 := blk_frozen BK551.out 1
        have hfz17_2 := blk_frozen BK551.out 2
        have hfz17_3 := blk_frozen BK551.out 3
        have hfz17_4 := blk_frozen BK551.out 4
        have hfz17_5 := blk_frozen BK551.out 5
        go_wp2_with (first | ((with_reducible refine gate_callee (f := 54) rfl ?_); refine goesL_ (some 5) rfl rfl Tryd.func54 (by kernel_rfl) rfl #[.int .i64 a0_0, .int .i64 0, .int .i64 60000] rfl (by (try simp only [List.map_toArray, List.map_cons, List.map_nil]); first | done | rfl | (simp only [List.length_drop, List.length_take]; rfl)) ?_; (with_reducible refine (spec_l1In.calls a0_0 0 60000 true _ A4.out).mono ?_); rintro e w' ⟨rfl, ⟨nd, rfl⟩⟩; refine ⟨_, rfl, ?_⟩) | (go_at_call 54; (with_reducible refine (spec_l1In.calls a0_2 0 60000 false _ A6.out).mono ?_); rintro e w' ⟨rfl, ⟨nd, rfl⟩⟩))
        go_meet
        case rel => exact ⟨_, (true), (by first | rfl | (simp; done) | (simp [*]; done)), H', ⟨by first | omega | exact Nat.le_refl _⟩, ⟨by (with_reducible repeat (first | refine blk_drewN ?_ _ | refine blk_drew ?_ | refine blk_alloc ?_ _)); exact BK551.out⟩, ⟨by repeat (first | (with_reducible first | exact HB.out | apply below_alloc | apply pw_below_drewN | apply below_drew1 | refine below_set ?_ GE551.out) | exact HB.out)⟩⟩
    · replace c5 := Bool.eq_false_iff.mpr c5
      subst c5
      have H1 : (spec_KnownOk.j0 k true a0_0 a0_1 a0_2 a0_3 a0_4 a0_5) = some r := by rw [if_neg (show ¬ (false = true) by decide)] at H; exact H
      clear H
      have H := H1
      clear H1
      have H' := Aside0.mk H
      clear H
      have hcz18_0 : w3.cell? ⟨gb551, 0, none⟩ = some (.int .i64 a0_0) := (blk_cell BK551.out 0).trans rfl
      have hcz18_1 : w3.cell? ⟨gb551, 1, none⟩ = some (.string a0_1) := (blk_cell BK551.out 1).trans rfl
      have hcz18_2 : w3.cell? ⟨gb551, 2, none⟩ = some (.int .i64 a0_2) := (blk_cell BK551.out 2).trans rfl
      have hcz18_3 : w3.cell? ⟨gb551, 3, none⟩ = some (.string a0_3) := (blk_cell BK551.out 3).trans rfl
      have hcz18_4 : w3.cell? ⟨gb551, 4, none⟩ = some (.int .i64 a0_4) := (blk_cell BK551.out 4).trans rfl
      have hcz18_5 : w3.cell? ⟨gb551, 5, none⟩ = some (.int .i64 a0_5) := (blk_cell BK551.out 5).trans rfl
      have hfz18_0 := blk_frozen BK551.out 0
      have hfz18_1 := blk_frozen BK551.out 1
      have hfz18_2 := blk_frozen BK551.out 2
      have hfz18_3 := blk_frozen BK551.out 3
      have hfz18_4 := blk_frozen BK551.out 4
      have hfz18_5 := blk_frozen BK551.out 5
      go_wp2_with (first | ((with_reducible refine gate_callee (f := 54) rfl ?_); refine goesL_ (some 5) rfl rfl Tryd.func54 (by kernel_rfl) rfl #[.int .i64 a0_0, .int .i64 0, .int .i64 60000] rfl (by (try simp only [List.map_toArray, List.map_cons, List.map_nil]); first | done | rfl | (simp only [List.length_drop, List.length_take]; rfl)) ?_; (with_reducible refine (spec_l1In.calls a0_0 0 60000 false _ A4.out).mono ?_); rintro e w' ⟨rfl, ⟨nd, rfl⟩⟩; refine ⟨_, rfl, ?_⟩))
      go_meet
      case rel => exact ⟨_, (true), (by first | rfl | (simp; done) | (simp [*]; done)), H', ⟨by first | omega | exact Nat.le_refl _⟩, ⟨by (with_reducible repeat (first | refine blk_drewN ?_ _ | refine blk_drew ?_ | refine blk_alloc ?_ _)); exact BK551.out⟩, ⟨by repeat (first | (with_reducible first | exact HB.out | apply below_alloc | apply pw_below_drewN | apply below_drew1 | refine below_set ?_ GE551.out) | exact HB.out)⟩⟩
  case rest =>
    clear HC2
    try clear c1
    try clear p2
    try clear c3
    try clear c5
    try clear c7
    try clear c9
    try clear c11
    try clear c12
    try clear c12b0
    try clear c12b1
    try clear hcz13_0
    try clear hcz13_1
    try clear hcz13_2
    try clear hcz13_3
    try clear hcz13_4
    try clear hcz13_5
    try clear hcz14_0
    try clear hcz14_1
    try clear hcz14_2
    try clear hcz14_3
    try clear hcz14_4
    try clear hcz14_5
    try clear hcz15_0
    try clear hcz15_1
    try clear hcz15_2
    try clear hcz15_3
    try clear hcz15_4
    try clear hcz15_5
    try clear hcz16_0
    try clear hcz16_1
    try clear hcz16_2
    try clear hcz16_3
    try clear hcz16_4
    try clear hcz16_5
    try clear hcz17_0
    try clear hcz17_1
    try clear hcz17_2
    try clear hcz17_3
    try clear hcz17_4
    try clear hcz17_5
    try clear hcz18_0
    try clear hcz18_1
    try clear hcz18_2
    try clear hcz18_3
    try clear hcz18_4
    try clear hcz18_5
    try clear hfz13_0
    try clear hfz13_1
    try clear hfz13_2
    try clear hfz13_3
    try clear hfz13_4
    try clear hfz13_5
    try clear hfz14_0
    try clear hfz14_1
    try clear hfz14_2
    try clear hfz14_3
    try clear hfz14_4
    try clear hfz14_5
    try clear hfz15_0
    try clear hfz15_1
    try clear hfz15_2
    try clear hfz15_3
    try clear hfz15_4
    try clear hfz15_5
    try clear hfz16_0
    try clear hfz16_1
    try clear hfz16_2
    try clear hfz16_3
    try clear hfz16_4
    try clear hfz16_5
    try clear hfz17_0
    try clear hfz17_1
    try clear hfz17_2
    try clear hfz17_3
    try clear hfz17_4
    try clear hfz17_5
    try clear hfz18_0
    try clear hfz18_1
    try clear hfz18_2
    try clear hfz18_3
    try clear hfz18_4
    try clear hfz18_5
    obtain ⟨kq, x34_1, rfl, HA, HJ1, BK551, HB⟩ := hcut
    cases kq with
    | zero => exact absurd HA.out (by simp [spec_KnownOk.j0])
    | succ kj1 =>
      have H := HA.out
      clear HA
      simp only [spec_KnownOk.j0] at H
      by_cases c19 : x34_1 = true
      · subst c19
        have H1 : (some false) = some r := by rw [if_pos rfl] at H; exact H
        clear H
        have H := H1
        clear H1
        obtain rfl := Option.some.inj H
        go_wp2
        go_ret
        exact ⟨by first | rfl | (simp [errW_none, errW_some] <;> rfl) | (simp [*, errW_none, errW_some] <;> rfl), by repeat (first | (with_reducible first | exact HB.out | apply below_alloc | apply pw_below_drewN | apply below_drew1 | refine below_set ?_ GE551.out) | exact HB.out)⟩
      · replace c19 := Bool.eq_false_iff.mpr c19
        subst c19
        have H1 : (if a0_0 = 0 then (if a0_1.toList = ([] : List UInt8) then (if a0_0 > 0 then ((spec_l4Text.f kj1 a0_1).bind fun t556 => (spec_KnownOk.j1 kj1 (!t556) a0_0 a0_1 a0_2 a0_3 a0_4 a0_5)) else (spec_KnownOk.j1 kj1 false a0_0 a0_1 a0_2 a0_3 a0_4 a0_5)) else (spec_KnownOk.j1 kj1 true a0_0 a0_1 a0_2 a0_3 a0_4 a0_5)) else (if a0_0 > 0 then ((spec_l4Text.f kj1 a0_1).bind fun t557 => (spec_KnownOk.j1 kj1 (!t557) a0_0 a0_1 a0_2 a0_3 a0_4 a0_5)) else (spec_KnownOk.j1 kj1 false a0_0 a0_1 a0_2 a0_3 a0_4 a0_5))) = some r := by rw [if_neg (show ¬ (false = true) by decide)] at H; exact H
        clear H
        have H := H1
        clear H1
        have HC20 := Aside0.mk H
        clear H
        go_upto_region 3 with (fail)
        go_cut [53] (fun v53 wc => ∃ (kq : Nat) (x53_19 : Bool), v53 = .bool x53_19 ∧ Aside0 (spec_KnownOk.j1 kq x53_19 a0_0 a0_1 a0_2 a0_3 a0_4 a0_5 = some r) ∧ Aside0 (kq ≤ kj1) ∧ Aside0 (wc.heap[gb551]? = some (.cells #[.int .i64 a0_0, .string a0_1, .int .i64 a0_2, .string a0_3, .int .i64 a0_4, .int .i64 a0_5] 67 (0, 0))) ∧ Aside0 (Below w.heap.size w wc))
        case first =>
          have H := HC20.out
          clear HC20
          by_cases c21 : a0_0 = 0
          · rw [if_pos c21] at H
            have c21b0 : (a0_0 == 0) = true := beq_iff_eq.mpr c21
            have c21b1 : (a0_0 != 0) = false := bne_eq_false_iff_eq.mpr c21
            clear c21
            (first | rw [c21b0] | (simp only [i64_w, i32_w]; rw [c21b0]) | skip)
            by_cases c22 : a0_1.toList = ([] : List UInt8)
            · rw [if_pos c22] at H
              have c22b0 : (a0_1.toList == ([] : List UInt8)) = true := beq_iff_eq.mpr c22
              have c22b1 : (a0_1.toList != ([] : List UInt8)) = false := bne_eq_false_iff_eq.mpr c22
              clear c22
              by_cases c23 : a0_0 > 0
              · rw [if_pos c23] at H
                have c23b0 : decide (0 < a0_0) = true := decide_eq_true c23
                clear c23
                replace H := Option.bind_eq_some_iff.mp H
                obtain ⟨t556, A240, H⟩ := H
                replace H : (spec_KnownOk.j1 kj1 (!t556) a0_0 a0_1 a0_2 a0_3 a0_4 a0_5) = some r := H
                have A24 := Aside0.mk A240
                clear A240
                have H' := Aside0.mk H
                clear H
                have hcz25_0 : wc.cell? ⟨gb551, 0, none⟩ = some (.int .i64 a0_0) := (blk_cell BK551.out 0).trans rfl
                have hcz25_1 : wc.cell? ⟨gb551, 1, none⟩ = some (.string a0_1) := (blk_cell BK551.out 1).trans rfl
                have hcz25_2 : wc.cell? ⟨gb551, 2, none⟩ = some (.int .i64 a0_2) := (blk_cell BK551.out 2).trans rfl
                have hcz25_3 : wc.cell? ⟨gb551, 3, none⟩ = some (.string a0_3) := (blk_cell BK551.out 3).trans rfl
                have hcz25_4 : wc.cell? ⟨gb551, 4, none⟩ = some (.int .i64 a0_4) := (blk_cell BK551.out 4).trans rfl
                have hcz25_5 : wc.cell? ⟨gb551, 5, none⟩ = some (.int .i64 a0_5) := (blk_cell BK551.out 5).trans rfl
                have hfz25_0 := blk_frozen BK551.out 0
                have hfz25_1 := blk_frozen BK551.out 1
                have hfz25_2 := blk_frozen BK551.out 2
                have hfz25_3 := blk_frozen BK551.out 3
                have hfz25_4 := blk_frozen BK551.out 4
                have hfz25_5 := blk_frozen BK551.out 5
                go_wp2_with (first | (go_at_call 61; (with_reducible refine (spec_l4Text.calls kj1 a0_1 t556 _ A24.out).mono ?_); rintro e w26 ⟨rfl, hb⟩; have n0_ := Aside0.mk (blk_below (g := gb551) (o := .cells #[.int .i64 a0_0, .string a0_1, .int .i64 a0_2, .string a0_3, .int .i64 a0_4, .int .i64 a0_5] 67 (0, 0)) (by (with_reducible repeat (first | refine blk_drewN ?_ _ | refine blk_drew ?_ | refine blk_alloc ?_ _)); exact BK551.out) hb); have n1_ := Aside0.mk (below_step (by repeat (first | (with_reducible first | exact HB.out | apply below_alloc | apply pw_below_drewN | apply below_drew1 | refine below_set ?_ GE551.out) | exact HB.out)) hb); clear BK551; clear HB; have BK551 := n0_; have HB := n1_; clear n0_ n1_; (try clear hb); (try clear hb2); (try clear hk); (try clear hi)))
                go_meet
                case rel => exact ⟨_, (!t556), (by first | rfl | (simp; done) | (simp [*]; done)), H', ⟨by have := HJ1.out; first | omega | exact Nat.le_refl _⟩, ⟨by (with_reducible repeat (first | refine blk_drewN ?_ _ | refine blk_drew ?_ | refine blk_alloc ?_ _)); exact BK551.out⟩, ⟨by repeat (first | (with_reducible first | exact HB.out | apply below_alloc | apply pw_below_drewN | apply below_drew1 | refine below_set ?_ GE551.out) | exact HB.out)⟩⟩
              · rw [if_neg c23] at H
                have c23b0 : decide (0 < a0_0) = false := decide_eq_false c23
                clear c23
                have H' := Aside0.mk H
                clear H
                have hcz27_0 : wc.cell? ⟨gb551, 0, none⟩ = some (.int .i64 a0_0) := (blk_cell BK551.out 0).trans rfl
                have hcz27_1 : wc.cell? ⟨gb551, 1, none⟩ = some (.string a0_1) := (blk_cell BK551.out 1).trans rfl
                have hcz27_2 : wc.cell? ⟨gb551, 2, none⟩ = some (.int .i64 a0_2) := (blk_cell BK551.out 2).trans rfl
                have hcz27_3 : wc.cell? ⟨gb551, 3, none⟩ = some (.string a0_3) := (blk_cell BK551.out 3).trans rfl
                have hcz27_4 : wc.cell? ⟨gb551, 4, none⟩ = some (.int .i64 a0_4) := (blk_cell BK551.out 4).trans rfl
                have hcz27_5 : wc.cell? ⟨gb551, 5, none⟩ = some (.int .i64 a0_5) := (blk_cell BK551.out 5).trans rfl
                have hfz27_0 := blk_frozen BK551.out 0
                have hfz27_1 := blk_frozen BK551.out 1
                have hfz27_2 := blk_frozen BK551.out 2
                have hfz27_3 := blk_frozen BK551.out 3
                have hfz27_4 := blk_frozen BK551.out 4
                have hfz27_5 := blk_frozen BK551.out 5
                go_wp2
                go_meet
                case rel => exact ⟨_, (false), (by first | rfl | (simp; done) | (simp [*]; done)), H', ⟨by have := HJ1.out; first | omega | exact Nat.le_refl _⟩, ⟨by (with_reducible repeat (first | refine blk_drewN ?_ _ | refine blk_drew ?_ | refine blk_alloc ?_ _)); exact BK551.out⟩, ⟨by repeat (first | (with_reducible first | exact HB.out | apply below_alloc | apply pw_below_drewN | apply below_drew1 | refine below_set ?_ GE551.out) | exact HB.out)⟩⟩
            · rw [if_neg c22] at H
              have c22b0 : (a0_1.toList == ([] : List UInt8)) = false := beq_eq_false_iff_ne.mpr c22
              have c22b1 : (a0_1.toList != ([] : List UInt8)) = true := bne_iff_ne.mpr c22
              have H' := Aside0.mk H
              clear H
              have hcz28_0 : wc.cell? ⟨gb551, 0, none⟩ = some (.int .i64 a0_0) := (blk_cell BK551.out 0).trans rfl
              have hcz28_1 : wc.cell? ⟨gb551, 1, none⟩ = some (.string a0_1) := (blk_cell BK551.out 1).trans rfl
              have hcz28_2 : wc.cell? ⟨gb551, 2, none⟩ = some (.int .i64 a0_2) := (blk_cell BK551.out 2).trans rfl
              have hcz28_3 : wc.cell? ⟨gb551, 3, none⟩ = some (.string a0_3) := (blk_cell BK551.out 3).trans rfl
              have hcz28_4 : wc.cell? ⟨gb551, 4, none⟩ = some (.int .i64 a0_4) := (blk_cell BK551.out 4).trans rfl
              have hcz28_5 : wc.cell? ⟨gb551, 5, none⟩ = some (.int .i64 a0_5) := (blk_cell BK551.out 5).trans rfl
              have hfz28_0 := blk_frozen BK551.out 0
              have hfz28_1 := blk_frozen BK551.out 1
              have hfz28_2 := blk_frozen BK551.out 2
              have hfz28_3 := blk_frozen BK551.out 3
              have hfz28_4 := blk_frozen BK551.out 4
              have hfz28_5 := blk_frozen BK551.out 5
              go_wp2
              go_meet
              case rel => exact ⟨_, (true), (by first | rfl | (simp; done) | (simp [*]; done)), H', ⟨by have := HJ1.out; first | omega | exact Nat.le_refl _⟩, ⟨by (with_reducible repeat (first | refine blk_drewN ?_ _ | refine blk_drew ?_ | refine blk_alloc ?_ _)); exact BK551.out⟩, ⟨by repeat (first | (with_reducible first | exact HB.out | apply below_alloc | apply pw_below_drewN | apply below_drew1 | refine below_set ?_ GE551.out) | exact HB.out)⟩⟩
          · rw [if_neg c21] at H
            have c21b0 : (a0_0 == 0) = false := beq_eq_false_iff_ne.mpr c21
            have c21b1 : (a0_0 != 0) = true := bne_iff_ne.mpr c21
            (first | rw [c21b0] | (simp only [i64_w, i32_w]; rw [c21b0]) | skip)
            by_cases c29 : a0_0 > 0
            · rw [if_pos c29] at H
              have c29b0 : decide (0 < a0_0) = true := decide_eq_true c29
              clear c29
              replace H := Option.bind_eq_some_iff.mp H
              obtain ⟨t557, A300, H⟩ := H
              replace H : (spec_KnownOk.j1 kj1 (!t557) a0_0 a0_1 a0_2 a0_3 a0_4 a0_5) = some r := H
              have A30 := Aside0.mk A300
              clear A300
              have H' := Aside0.mk H
              clear H
              have hcz31_0 : wc.cell? ⟨gb551, 0, none⟩ = some (.int .i64 a0_0) := (blk_cell BK551.out 0).trans rfl
              have hcz31_1 : wc.cell? ⟨gb551, 1, none⟩ = some (.string a0_1) := (blk_cell BK551.out 1).trans rfl
              have hcz31_2 : wc.cell? ⟨gb551, 2, none⟩ = some (.int .i64 a0_2) := (blk_cell BK551.out 2).trans rfl
              have hcz31_3 : wc.cell? ⟨gb551, 3, none⟩ = some (.string a0_3) := (blk_cell BK551.out 3).trans rfl
              have hcz31_4 : wc.cell? ⟨gb551, 4, none⟩ = some (.int .i64 a0_4) := (blk_cell BK551.out 4).trans rfl
              have hcz31_5 : wc.cell? ⟨gb551, 5, none⟩ = some (.int .i64 a0_5) := (blk_cell BK551.out 5).trans rfl
              have hfz31_0 := blk_frozen BK551.out 0
              have hfz31_1 := blk_frozen BK551.out 1
              have hfz31_2 := blk_frozen BK551.out 2
              have hfz31_3 := blk_frozen BK551.out 3
              have hfz31_4 := blk_frozen BK551.out 4
              have hfz31_5 := blk_frozen BK551.out 5
              go_wp2_with (first | (go_at_call 61; (with_reducible refine (spec_l4Text.calls kj1 a0_1 t557 _ A30.out).mono ?_); rintro e w32 ⟨rfl, hb⟩; have n0_ := Aside0.mk (blk_below (g := gb551) (o := .cells #[.int .i64 a0_0, .string a0_1, .int .i64 a0_2, .string a0_3, .int .i64 a0_4, .int .i64 a0_5] 67 (0, 0)) (by (with_reducible repeat (first | refine blk_drewN ?_ _ | refine blk_drew ?_ | refine blk_alloc ?_ _)); exact BK551.out) hb); have n1_ := Aside0.mk (below_step (by repeat (first | (with_reducible first | exact HB.out | apply below_alloc | apply pw_below_drewN | apply below_drew1 | refine below_set ?_ GE551.out) | exact HB.out)) hb); clear BK551; clear HB; have BK551 := n0_; have HB := n1_; clear n0_ n1_; (try clear hb); (try clear hb2); (try clear hk); (try clear hi)))
              go_meet
              case rel => exact ⟨_, (!t557), (by first | rfl | (simp; done) | (simp [*]; done)), H', ⟨by have := HJ1.out; first | omega | exact Nat.le_refl _⟩, ⟨by (with_reducible repeat (first | refine blk_drewN ?_ _ | refine blk_drew ?_ | refine blk_alloc ?_ _)); exact BK551.out⟩, ⟨by repeat (first | (with_reducible first | exact HB.out | apply below_alloc | apply pw_below_drewN | apply below_drew1 | refine below_set ?_ GE551.out) | exact HB.out)⟩⟩
            · rw [if_neg c29] at H
              have c29b0 : decide (0 < a0_0) = false := decide_eq_false c29
              clear c29
              have H' := Aside0.mk H
              clear H
              have hcz33_0 : wc.cell? ⟨gb551, 0, none⟩ = some (.int .i64 a0_0) := (blk_cell BK551.out 0).trans rfl
              have hcz33_1 : wc.cell? ⟨gb551, 1, none⟩ = some (.string a0_1) := (blk_cell BK551.out 1).trans rfl
              have hcz33_2 : wc.cell? ⟨gb551, 2, none⟩ = some (.int .i64 a0_2) := (blk_cell BK551.out 2).trans rfl
              have hcz33_3 : wc.cell? ⟨gb551, 3, none⟩ = some (.string a0_3) := (blk_cell BK551.out 3).trans rfl
              have hcz33_4 : wc.cell? ⟨gb551, 4, none⟩ = some (.int .i64 a0_4) := (blk_cell BK551.out 4).trans rfl
              have hcz33_5 : wc.cell? ⟨gb551, 5, none⟩ = some (.int .i64 a0_5) := (blk_cell BK551.out 5).trans rfl
              have hfz33_0 := blk_frozen BK551.out 0
              have hfz33_1 := blk_frozen BK551.out 1
              have hfz33_2 := blk_frozen BK551.out 2
              have hfz33_3 := blk_frozen BK551.out 3
              have hfz33_4 := blk_frozen BK551.out 4
              have hfz33_5 := blk_frozen BK551.out 5
              go_wp2
              go_meet
              case rel => exact ⟨_, (false), (by first | rfl | (simp; done) | (simp [*]; done)), H', ⟨by have := HJ1.out; first | omega | exact Nat.le_refl _⟩, ⟨by (with_reducible repeat (first | refine blk_drewN ?_ _ | refine blk_drew ?_ | refine blk_alloc ?_ _)); exact BK551.out⟩, ⟨by repeat (first | (with_reducible first | exact HB.out | apply below_alloc | apply pw_below_drewN | apply below_drew1 | refine below_set ?_ GE551.out) | exact HB.out)⟩⟩
        case rest =>
          clear HC20
          try clear c1
          try clear c2
          try clear p2
          try clear c3
          try clear c5
          try clear c7
          try clear c9
          try clear c11
          try clear c12
          try clear c12b0
          try clear c12b1
          try clear c19
          try clear c21
          try clear c21b0
          try clear c21b1
          try clear c22
          try clear c22b0
          try clear c22b1
          try clear c23
          try clear c23b0
          try clear c29
          try clear c29b0
          try clear hcz13_0
          try clear hcz13_1
          try clear hcz13_2
          try clear hcz13_3
          try clear hcz13_4
          try clear hcz13_5
          try clear hcz14_0
          try clear hcz14_1
          try clear hcz14_2
          try clear hcz14_3
          try clear hcz14_4
          try clear hcz14_5
          try clear hcz15_0
          try clear hcz15_1
          try clear hcz15_2
          try clear hcz15_3
          try clear hcz15_4
          try clear hcz15_5
          try clear hcz16_0
          try clear hcz16_1
          try clear hcz16_2
          try clear hcz16_3
          try clear hcz16_4
          try clear hcz16_5
          try clear hcz17_0
          try clear hcz17_1
          try clear hcz17_2
          try clear hcz17_3
          try clear hcz17_4
          try clear hcz17_5
          try clear hcz18_0
          try clear hcz18_1
          try clear hcz18_2
          try clear hcz18_3
          try clear hcz18_4
          try clear hcz18_5
          try clear hcz25_0
          try clear hcz25_1
          try clear hcz25_2
          try clear hcz25_3
          try clear hcz25_4
          try clear hcz25_5
          try clear hcz27_0
          try clear hcz27_1
          try clear hcz27_2
          try clear hcz27_3
          try clear hcz27_4
          try clear hcz27_5
          try clear hcz28_0
          try clear hcz28_1
          try clear hcz28_2
          try clear hcz28_3
          try clear hcz28_4
          try clear hcz28_5
          try clear hcz31_0
          try clear hcz31_1
          try clear hcz31_2
          try clear hcz31_3
          try clear hcz31_4
          try clear hcz31_5
          try clear hcz33_0
          try clear hcz33_1
          try clear hcz33_2
          try clear hcz33_3
          try clear hcz33_4
          try clear hcz33_5
          try clear hfz13_0
          try clear hfz13_1
          try clear hfz13_2
          try clear hfz13_3
          try clear hfz13_4
          try clear hfz13_5
          try clear hfz14_0
          try clear hfz14_1
          try clear hfz14_2
          try clear hfz14_3
          try clear hfz14_4
          try clear hfz14_5
          try clear hfz15_0
          try clear hfz15_1
          try clear hfz15_2
          try clear hfz15_3
          try clear hfz15_4
          try clear hfz15_5
          try clear hfz16_0
          try clear hfz16_1
          try clear hfz16_2
          try clear hfz16_3
          try clear hfz16_4
          try clear hfz16_5
          try clear hfz17_0
          try clear hfz17_1
          try clear hfz17_2
          try clear hfz17_3
          try clear hfz17_4
          try clear hfz17_5
          try clear hfz18_0
          try clear hfz18_1
          try clear hfz18_2
          try clear hfz18_3
          try clear hfz18_4
          try clear hfz18_5
          try clear hfz25_0
          try clear hfz25_1
          try clear hfz25_2
          try clear hfz25_3
          try clear hfz25_4
          try clear hfz25_5
          try clear hfz27_0
          try clear hfz27_1
          try clear hfz27_2
          try clear hfz27_3
          try clear hfz27_4
          try clear hfz27_5
          try clear hfz28_0
          try clear hfz28_1
          try clear hfz28_2
          try clear hfz28_3
          try clear hfz28_4
          try clear hfz28_5
          try clear hfz31_0
          try clear hfz31_1
          try clear hfz31_2
          try clear hfz31_3
          try clear hfz31_4
          try clear hfz31_5
          try clear hfz33_0
          try clear hfz33_1
          try clear hfz33_2
          try clear hfz33_3
          try clear hfz33_4
          try clear hfz33_5
          try clear p2
          obtain ⟨kq, x53_19, rfl, HA, HJ19, BK551, HB⟩ := hcut
          cases kq with
          | zero => exact absurd HA.out (by simp [spec_KnownOk.j1])
          | succ kj19 =>
            have H := HA.out
            clear HA
            simp only [spec_KnownOk.j1] at H
            by_cases c34 : x53_19 = true
            · subst c34
              have H1 : (some false) = some r := by rw [if_pos rfl] at H; exact H
              clear H
              have H := H1
              clear H1
              obtain rfl := Option.some.inj H
              go_wp2
              go_ret
              exact ⟨by first | rfl | (simp [errW_none, errW_some] <;> rfl) | (simp [*, errW_none, errW_some] <;> rfl), by repeat (first | (with_reducible first | exact HB.out | apply below_alloc | apply pw_below_drewN | apply below_drew1 | refine below_set ?_ GE551.out) | exact HB.out)⟩
            · replace c34 := Bool.eq_false_iff.mpr c34
              subst c34
              have H1 : (if a0_2 = 0 then (some (a0_3.toList == ([] : List UInt8))) else (if a0_2 > a0_0 then ((spec_l4Text.f kj19 a0_3).bind fun t558 => (some t558)) else (some false))) = some r := by rw [if_neg (show ¬ (false = true) by decide)] at H; exact H
              clear H
              have H := H1
              clear H1
              by_cases c35 : a0_2 = 0
              · rw [if_pos c35] at H
                have c35b0 : (a0_2 == 0) = true := beq_iff_eq.mpr c35
                have c35b1 : (a0_2 != 0) = false := bne_eq_false_iff_eq.mpr c35
                clear c35
                obtain rfl := Option.some.inj H
                have hcz36_0 : wc.cell? ⟨gb551, 0, none⟩ = some (.int .i64 a0_0) := (blk_cell BK551.out 0).trans rfl
                have hcz36_1 : wc.cell? ⟨gb551, 1, none⟩ = some (.string a0_1) := (blk_cell BK551.out 1).trans rfl
                have hcz36_2 : wc.cell? ⟨gb551, 2, none⟩ = some (.int .i64 a0_2) := (blk_cell BK551.out 2).trans rfl
                have hcz36_3 : wc.cell? ⟨gb551, 3, none⟩ = some (.string a0_3) := (blk_cell BK551.out 3).trans rfl
                have hcz36_4 : wc.cell? ⟨gb551, 4, none⟩ = some (.int .i64 a0_4) := (blk_cell BK551.out 4).trans rfl
                have hcz36_5 : wc.cell? ⟨gb551, 5, none⟩ = some (.int .i64 a0_5) := (blk_cell BK551.out 5).trans rfl
                have hfz36_0 := blk_frozen BK551.out 0
                have hfz36_1 := blk_frozen BK551.out 1
                have hfz36_2 := blk_frozen BK551.out 2
                have hfz36_3 := blk_frozen BK551.out 3
                have hfz36_4 := blk_frozen BK551.out 4
                have hfz36_5 := blk_frozen BK551.out 5
                go_wp2
                go_ret
                exact ⟨by first | rfl | (simp [errW_none, errW_some] <;> rfl) | (simp [*, errW_none, errW_some] <;> rfl), by repeat (first | (with_reducible first | exact HB.out | apply below_alloc | apply pw_below_drewN | apply below_drew1 | refine below_set ?_ GE551.out) | exact HB.out)⟩
              · rw [if_neg c35] at H
                have c35b0 : (a0_2 == 0) = false := beq_eq_false_iff_ne.mpr c35
                have c35b1 : (a0_2 != 0) = true := bne_iff_ne.mpr c35
                by_cases c37 : a0_2 > a0_0
                · rw [if_pos c37] at H
                  have c37b0 : decide (a0_0 < a0_2) = true := decide_eq_true c37
                  clear c37
                  replace H := Option.bind_eq_some_iff.mp H
                  obtain ⟨t558, A380, H⟩ := H
                  replace H : (some t558) = some r := H
                  have A38 := Aside0.mk A380
                  clear A380
                  obtain rfl := Option.some.inj H
                  have hcz39_0 : wc.cell? ⟨gb551, 0, none⟩ = some (.int .i64 a0_0) := (blk_cell BK551.out 0).trans rfl
                  have hcz39_1 : wc.cell? ⟨gb551, 1, none⟩ = some (.string a0_1) := (blk_cell BK551.out 1).trans rfl
                  have hcz39_2 : wc.cell? ⟨gb551, 2, none⟩ = some (.int .i64 a0_2) := (blk_cell BK551.out 2).trans rfl
                  have hcz39_3 : wc.cell? ⟨gb551, 3, none⟩ = some (.string a0_3) := (blk_cell BK551.out 3).trans rfl
                  have hcz39_4 : wc.cell? ⟨gb551, 4, none⟩ = some (.int .i64 a0_4) := (blk_cell BK551.out 4).trans rfl
                  have hcz39_5 : wc.cell? ⟨gb551, 5, none⟩ = some (.int .i64 a0_5) := (blk_cell BK551.out 5).trans rfl
                  have hfz39_0 := blk_frozen BK551.out 0
                  have hfz39_1 := blk_frozen BK551.out 1
                  have hfz39_2 := blk_frozen BK551.out 2
                  have hfz39_3 := blk_frozen BK551.out 3
                  have hfz39_4 := blk_frozen BK551.out 4
                  have hfz39_5 := blk_frozen BK551.out 5
                  go_wp2_with (first | (go_at_call 61; (with_reducible refine (spec_l4Text.calls kj19 a0_3 t558 _ A38.out).mono ?_); rintro e w40 ⟨rfl, hb⟩; have n0_ := Aside0.mk (blk_below (g := gb551) (o := .cells #[.int .i64 a0_0, .string a0_1, .int .i64 a0_2, .string a0_3, .int .i64 a0_4, .int .i64 a0_5] 67 (0, 0)) (by (with_reducible repeat (first | refine blk_drewN ?_ _ | refine blk_drew ?_ | refine blk_alloc ?_ _)); exact BK551.out) hb); have n1_ := Aside0.mk (below_step (by repeat (first | (with_reducible first | exact HB.out | apply below_alloc | apply pw_below_drewN | apply below_drew1 | refine below_set ?_ GE551.out) | exact HB.out)) hb); clear BK551; clear HB; have BK551 := n0_; have HB := n1_; clear n0_ n1_; (try clear hb); (try clear hb2); (try clear hk); (try clear hi)))
                  go_ret
                  exact ⟨by first | rfl | (simp [errW_none, errW_some] <;> rfl) | (simp [*, errW_none, errW_some] <;> rfl), by repeat (first | (with_reducible first | exact HB.out | apply below_alloc | apply pw_below_drewN | apply below_drew1 | refine below_set ?_ GE551.out) | exact HB.out)⟩
                · rw [if_neg c37] at H
                  have c37b0 : decide (a0_0 < a0_2) = false := decide_eq_false c37
                  clear c37
                  obtain rfl := Option.some.inj H
                  have hcz41_0 : wc.cell? ⟨gb551, 0, none⟩ = some (.int .i64 a0_0) := (blk_cell BK551.out 0).trans rfl
                  have hcz41_1 : wc.cell? ⟨gb551, 1, none⟩ = some (.string a0_1) := (blk_cell BK551.out 1).trans rfl
                  have hcz41_2 : wc.cell? ⟨gb551, 2, none⟩ = some (.int .i64 a0_2) := (blk_cell BK551.out 2).trans rfl
                  have hcz41_3 : wc.cell? ⟨gb551, 3, none⟩ = some (.string a0_3) := (blk_cell BK551.out 3).trans rfl
                  have hcz41_4 : wc.cell? ⟨gb551, 4, none⟩ = some (.int .i64 a0_4) := (blk_cell BK551.out 4).trans rfl
                  have hcz41_5 : wc.cell? ⟨gb551, 5, none⟩ = some (.int .i64 a0_5) := (blk_cell BK551.out 5).trans rfl
                  have hfz41_0 := blk_frozen BK551.out 0
                  have hfz41_1 := blk_frozen BK551.out 1
                  have hfz41_2 := blk_frozen BK551.out 2
                  have hfz41_3 := blk_frozen BK551.out 3
                  have hfz41_4 := blk_frozen BK551.out 4
                  have hfz41_5 := blk_frozen BK551.out 5
                  go_wp2
                  go_ret
                  exact ⟨by first | rfl | (simp [errW_none, errW_some] <;> rfl) | (simp [*, errW_none, errW_some] <;> rfl), by repeat (first | (with_reducible first | exact HB.out | apply below_alloc | apply pw_below_drewN | apply below_drew1 | refine below_set ?_ GE551.out) | exact HB.out)⟩

/-! ### laws_toKnown: function 39 -/
set_option maxHeartbeats 8000000 in
set_option maxRecDepth 100000 in
theorem laws_toKnown.calls (a0_0 : Int) (a0_1 : ByteArray) (a0_2 : Int) (a0_3 : ByteArray) (a0_4 : Int) (a0_5 : Int) (r1 : Int) (r2 : ByteArray) (r3 : Int) (r4 : ByteArray) (r5 : Int) (r6 : Int) (w : World) (h : laws_toKnown.f a0_0 a0_1 a0_2 a0_3 a0_4 a0_5 = some (r1, r2, r3, r4, r5, r6)) :
    Calls Tryd.prog 39 #[.agg #[.int .i64 a0_0, .string a0_1, .int .i64 a0_2, .string a0_3, .int .i64 a0_4, .int .i64 a0_5]] w fun e w' => e = .returned (.agg #[.int .i64 r1, .string r2, .int .i64 r3, .string r4, .int .i64 r5, .int .i64 r6]) ∧ Below w.heap.size w w' := by
  have hu64 := Tryd.underlying64
  have hu67 := Tryd.underlying67
  have HB := Aside0.mk (Below.refl w.heap.size w)
  have H : (some (a0_0, a0_1, a0_2, a0_3, a0_4, a0_5)) = some (r1, r2, r3, r4, r5, r6) := h
  clear h
  simp only [Option.some.injEq, Prod.mk.injEq] at H
  obtain ⟨rfl, rfl, rfl, rfl, rfl, rfl⟩ := H
  go_enter Tryd.func39, Tryd.ntmps39
  go_wp2_with (first | ((with_reducible refine gate_dst (N := 1) rfl ?_); refine box_event ?hg (N := 1) ?hd (cs := #[.int .i64 a0_0, .string a0_1, .int .i64 a0_2, .string a0_3, .int .i64 a0_4, .int .i64 a0_5]) (t := 64) ?hr ?_; (case hd => rfl); (case hg => rfl); (case hr => first | (go_simp; done) | (go_simp; rfl)); intro gb559 hg w2 hbox hb; have n0_ := Aside0.mk (below_step (by repeat (first | (with_reducible first | exact HB.out | apply below_alloc | apply pw_below_drewN | apply below_drew1) | exact HB.out)) hb); have n1_ := Aside0.mk (hbox); have n2_ := Aside0.mk ((by rw [hg]; exact (below_size (by repeat (first | (with_reducible first | exact HB.out | apply below_alloc | apply pw_below_drewN | apply below_drew1) | exact HB.out))) : w.heap.size ≤ gb559)); have n3_ := Aside0.mk ((by rw [hg]; exact (below_size (by repeat (first | (with_reducible first | exact HB.out | apply below_alloc | apply pw_below_drewN | apply below_drew1) | exact HB.out))) : w.heap.size ≤ gb559)); clear HB; have HB := n0_; have BK559 := n1_; have GW559 := n2_; have GE559 := n3_; clear n0_ n1_ n2_ n3_; clear hb hbox hg) | ((with_reducible refine gate_dst (N := 2) rfl ?_); refine box_event ?hg (N := 2) ?hd (cs := #[.int .i64 0, .string (⟨#[]⟩ : ByteArray), .int .i64 0, .string (⟨#[]⟩ : ByteArray), .int .i64 0, .int .i64 0]) (t := 67) ?hr ?_; (case hd => rfl); (case hg => rfl); (case hr => first | (go_simp; done) | (go_simp; rfl)); intro gb560 hg w3 hbox hb; have n0_ := Aside0.mk (blk_below (g := gb559) (o := .cells #[.int .i64 a0_0, .string a0_1, .int .i64 a0_2, .string a0_3, .int .i64 a0_4, .int .i64 a0_5] 64 (0, 0)) (by (with_reducible repeat (first | refine blk_drewN ?_ _ | refine blk_drew ?_ | refine blk_alloc ?_ _)); exact BK559.out) hb); have n1_ := Aside0.mk (below_step (by repeat (first | (with_reducible first | exact HB.out | apply below_alloc | apply pw_below_drewN | apply below_drew1 | refine below_set ?_ GE559.out) | exact HB.out)) hb); have n2_ := Aside0.mk (hbox); have n3_ := Aside0.mk ((by rw [hg]; exact (below_size (by repeat (first | (with_reducible first | exact HB.out | apply below_alloc | apply pw_below_drewN | apply below_drew1 | refine below_set ?_ GE559.out) | exact HB.out))) : w.heap.size ≤ gb560)); have n4_ := Aside0.mk ((by rw [hg]; exact (below_size (by repeat (first | (with_reducible first | exact HB.out | apply below_alloc | apply pw_below_drewN | apply below_drew1 | refine below_set ?_ GE559.out) | exact HB.out))) : w.heap.size ≤ gb560)); have n5_ := Aside0.mk ((by rw [hg]; exact Nat.ne_of_lt (blk_lt (g := gb559) (o := .cells #[.int .i64 a0_0, .string a0_1, .int .i64 a0_2, .string a0_3, .int .i64 a0_4, .int .i64 a0_5] 64 (0, 0)) (by (with_reducible repeat (first | refine blk_drewN ?_ _ | refine blk_drew ?_ | refine blk_alloc ?_ _)); exact BK559.out)) : gb559 ≠ gb560)); have n6_ := Aside0.mk ((by rw [hg]; exact Nat.ne_of_gt (blk_lt (g := gb559) (o := .cells #[.int .i64 a0_0, .string a0_1, .int .i64 a0_2, .string a0_3, .int .i64 a0_4, .int .i64 a0_5] 64 (0, 0)) (by (with_reducible repeat (first | refine blk_drewN ?_ _ | refine blk_drew ?_ | refine blk_alloc ?_ _)); exact BK559.out)) : gb560 ≠ gb559)); clear BK559; clear HB; have BK559 := n0_; have HB := n1_; have BK560 := n2_; have GW560 := n3_; have GE560 := n4_; have NB559_560 := n5_; have NB560_559 := n6_; clear n0_ n1_ n2_ n3_ n4_ n5_ n6_; clear hb hbox hg) | ((with_reducible refine gate_dst (N := 3) rfl ?_); refine box_event ?hg (N := 3) ?hd (cs := #[.int .i64 0, .string (⟨#[]⟩ : ByteArray), .int .i64 0, .string (⟨#[]⟩ : ByteArray), .int .i64 0, .int .i64 0]) (t := 67) ?hr ?_; (case hd => rfl); (case hg => rfl); (case hr => first | (go_simp; done) | (go_simp; rfl)); intro gb561 hg w4 hbox hb; have n0_ := Aside0.mk (blk_below (g := gb559) (o := .cells #[.int .i64 a0_0, .string a0_1, .int .i64 a0_2, .string a0_3, .int .i64 a0_4, .int .i64 a0_5] 64 (0, 0)) (by (with_reducible repeat (first | refine blk_drewN ?_ _ | refine blk_drew ?_ | refine blk_alloc ?_ _)); exact BK559.out) hb); have n1_ := Aside0.mk (blk_below (g := gb560) (o := .cells #[.int .i64 0, .string (⟨#[]⟩ : ByteArray), .int .i64 0, .string (⟨#[]⟩ : ByteArray), .int .i64 0, .int .i64 0] 67 (0, 0)) (by (with_reducible repeat (first | refine blk_drewN ?_ _ | refine blk_drew ?_ | refine blk_alloc ?_ _)); exact BK560.out) hb); have n2_ := Aside0.mk (below_step (by repeat (first | (with_reducible first | exact HB.out | apply below_alloc | apply pw_below_drewN | apply below_drew1 | refine below_set ?_ GE559.out | refine below_set ?_ GE560.out) | exact HB.out)) hb); have n3_ := Aside0.mk (hbox); have n4_ := Aside0.mk ((by rw [hg]; exact (below_size (by repeat (first | (with_reducible first | exact HB.out | apply below_alloc | apply pw_below_drewN | apply below_drew1 | refine below_set ?_ GE559.out | refine below_set ?_ GE560.out) | exact HB.out))) : w.heap.size ≤ gb561)); have n5_ := Aside0.mk ((by rw [hg]; exact (below_size (by repeat (first | (with_reducible first | exact HB.out | apply below_alloc | apply pw_below_drewN | apply below_drew1 | refine below_set ?_ GE559.out | refine below_set ?_ GE560.out) | exact HB.out))) : w.heap.size ≤ gb561)); have n6_ := Aside0.mk ((by rw [hg]; exact Nat.ne_of_lt (blk_lt (g := gb559) (o := .cells #[.int .i64 a0_0, .string a0_1, .int .i64 a0_2, .string a0_3, .int .i64 a0_4, .int .i64 a0_5] 64 (0, 0)) (by (with_reducible repeat (first | refine blk_drewN ?_ _ | refine blk_drew ?_ | refine blk_alloc ?_ _)); exact BK559.out)) : gb559 ≠ gb561)); have n7_ := Aside0.mk ((by rw [hg]; exact Nat.ne_of_gt (blk_lt (g := gb559) (o := .cells #[.int .i64 a0_0, .string a0_1, .int .i64 a0_2, .string a0_3, .int .i64 a0_4, .int .i64 a0_5] 64 (0, 0)) (by (with_reducible repeat (first | refine blk_drewN ?_ _ | refine blk_drew ?_ | refine blk_alloc ?_ _)); exact BK559.out)) : gb561 ≠ gb559)); have n8_ := Aside0.mk ((by rw [hg]; exact Nat.ne_of_lt (blk_lt (g := gb560) (o := .cells #[.int .i64 0, .string (⟨#[]⟩ : ByteArray), .int .i64 0, .string (⟨#[]⟩ : ByteArray), .int .i64 0, .int .i64 0] 67 (0, 0)) (by (with_reducible repeat (first | refine blk_drewN ?_ _ | refine blk_drew ?_ | refine blk_alloc ?_ _)); exact BK560.out)) : gb560 ≠ gb561)); have n9_ := Aside0.mk ((by rw [hg]; exact Nat.ne_of_gt (blk_lt (g := gb560) (o := .cells #[.int .i64 0, .string (⟨#[]⟩ : ByteArray), .int .i64 0, .string (⟨#[]⟩ : ByteArray), .int .i64 0, .int .i64 0] 67 (0, 0)) (by (with_reducible repeat (first | refine blk_drewN ?_ _ | refine blk_drew ?_ | refine blk_alloc ?_ _)); exact BK560.out)) : gb561 ≠ gb560)); clear BK559; clear BK560; clear HB; have BK559 := n0_; have BK560 := n1_; have HB := n2_; have BK561 := n3_; have GW561 := n4_; have GE561 := n5_; have NB559_561 := n6_; have NB561_559 := n7_; have NB560_561 := n8_; have NB561_560 := n9_; clear n0_ n1_ n2_ n3_ n4_ n5_ n6_ n7_ n8_ n9_; clear hb hbox hg; have hnb5 := NB559_560.out; have hnc5 := NB560_559.out; have hnb6 := NB559_561.out; have hnc6 := NB561_559.out; have hcz7_0 : w4.cell? ⟨gb559, 0, none⟩ = some (.int .i64 a0_0) := (blk_cell BK559.out 0).trans rfl; have hcz7_1 : w4.cell? ⟨gb559, 1, none⟩ = some (.string a0_1) := (blk_cell BK559.out 1).trans rfl; have hcz7_2 : w4.cell? ⟨gb559, 2, none⟩ = some (.int .i64 a0_2) := (blk_cell BK559.out 2).trans rfl; have hcz7_3 : w4.cell? ⟨gb559, 3, none⟩ = some (.string a0_3) := (blk_cell BK559.out 3).trans rfl; have hcz7_4 : w4.cell? ⟨gb559, 4, none⟩ = some (.int .i64 a0_4) := (blk_cell BK559.out 4).trans rfl; have hcz7_5 : w4.cell? ⟨gb559, 5, none⟩ = some (.int .i64 a0_5) := (blk_cell BK559.out 5).trans rfl; have hfz7_0 := blk_frozen BK559.out 0; have hfz7_1 := blk_frozen BK559.out 1; have hfz7_2 := blk_frozen BK559.out 2; have hfz7_3 := blk_frozen BK559.out 3; have hfz7_4 := blk_frozen BK559.out 4; have hfz7_5 := blk_frozen BK559.out 5; have hnb8 := NB561_560.out; have hnc8 := NB560_561.out; have hcz9_0 : w4.cell? ⟨gb561, 0, none⟩ = some (.int .i64 0) := (blk_cell BK561.out 0).trans rfl; have hcz9_1 : w4.cell? ⟨gb561, 1, none⟩ = some (.string (⟨#[]⟩ : ByteArray)) := (blk_cell BK561.out 1).trans rfl; have hcz9_2 : w4.cell? ⟨gb561, 2, none⟩ = some (.int .i64 0) := (blk_cell BK561.out 2).trans rfl; have hcz9_3 : w4.cell? ⟨gb561, 3, none⟩ = some (.string (⟨#[]⟩ : ByteArray)) := (blk_cell BK561.out 3).trans rfl; have hcz9_4 : w4.cell? ⟨gb561, 4, none⟩ = some (.int .i64 0) := (blk_cell BK561.out 4).trans rfl; have hcz9_5 : w4.cell? ⟨gb561, 5, none⟩ = some (.int .i64 0) := (blk_cell BK561.out 5).trans rfl; have hfz9_0 := blk_frozen BK561.out 0; have hfz9_1 := blk_frozen BK561.out 1; have hfz9_2 := blk_frozen BK561.out 2; have hfz9_3 := blk_frozen BK561.out 3; have hfz9_4 := blk_frozen BK561.out 4; have hfz9_5 := blk_frozen BK561.out 5; have hcz10_0 : w4.cell? ⟨gb560, 0, none⟩ = some (.int .i64 0) := (blk_cell BK560.out 0).trans rfl; have hcz10_1 : w4.cell? ⟨gb560, 1, none⟩ = some (.string (⟨#[]⟩ : ByteArray)) := (blk_cell BK560.out 1).trans rfl; have hcz10_2 : w4.cell? ⟨gb560, 2, none⟩ = some (.int .i64 0) := (blk_cell BK560.out 2).trans rfl; have hcz10_3 : w4.cell? ⟨gb560, 3, none⟩ = some (.string (⟨#[]⟩ : ByteArray)) := (blk_cell BK560.out 3).trans rfl; have hcz10_4 : w4.cell? ⟨gb560, 4, none⟩ = some (.int .i64 0) := (blk_cell BK560.out 4).trans rfl; have hcz10_5 : w4.cell? ⟨gb560, 5, none⟩ = some (.int .i64 0) := (blk_cell BK560.out 5).trans rfl; have hfz10_0 := blk_frozen BK560.out 0; have hfz10_1 := blk_frozen BK560.out 1; have hfz10_2 := blk_frozen BK560.out 2; have hfz10_3 := blk_frozen BK560.out 3; have hfz10_4 := blk_frozen BK560.out 4; have hfz10_5 := blk_frozen BK560.out 5))
  refine bodyPost_ret (results_cell_row rfl _ _ gb560 67 #[.int .i64 a0_0, .string a0_1, .int .i64 a0_2, .string a0_3, .int .i64 a0_4, .int .i64 a0_5] (0, 0) _ rfl (by (with_reducible repeat (first | refine blk_drewN ?_ _ | refine blk_drew ?_ | refine blk_alloc ?_ _)); refine blk_put (cs := #[.int .i64 a0_0, .string a0_1, .int .i64 a0_2, .string a0_3, .int .i64 a0_4, .int .i64 0]) ?_ 5 _ rfl; (with_reducible repeat (first | refine blk_drewN ?_ _ | refine blk_drew ?_ | refine blk_alloc ?_ _)); refine blk_put (cs := #[.int .i64 a0_0, .string a0_1, .int .i64 a0_2, .string a0_3, .int .i64 0, .int .i64 0]) ?_ 4 _ rfl; (with_reducible repeat (first | refine blk_drewN ?_ _ | refine blk_drew ?_ | refine blk_alloc ?_ _)); refine blk_put (cs := #[.int .i64 a0_0, .string a0_1, .int .i64 a0_2, .string (⟨#[]⟩ : ByteArray), .int .i64 0, .int .i64 0]) ?_ 3 _ rfl; (with_reducible repeat (first | refine blk_drewN ?_ _ | refine blk_drew ?_ | refine blk_alloc ?_ _)); refine blk_put (cs := #[.int .i64 a0_0, .string a0_1, .int .i64 0, .string (⟨#[]⟩ : ByteArray), .int .i64 0, .int .i64 0]) ?_ 2 _ rfl; (with_reducible repeat (first | refine blk_drewN ?_ _ | refine blk_drew ?_ | refine blk_alloc ?_ _)); refine blk_put (cs := #[.int .i64 a0_0, .string (⟨#[]⟩ : ByteArray), .int .i64 0, .string (⟨#[]⟩ : ByteArray), .int .i64 0, .int .i64 0]) ?_ 1 _ rfl; (with_reducible repeat (first | refine blk_drewN ?_ _ | refine blk_drew ?_ | refine blk_alloc ?_ _)); refine blk_put (cs := #[.int .i64 0, .string (⟨#[]⟩ : ByteArray), .int .i64 0, .string (⟨#[]⟩ : ByteArray), .int .i64 0, .int .i64 0]) ?_ 0 _ rfl; (with_reducible repeat (first | refine blk_drewN ?_ _ | refine blk_drew ?_ | refine blk_alloc ?_ _)); refine blk_far ?_ NB560_561.out _; (with_reducible repeat (first | refine blk_drewN ?_ _ | refine blk_drew ?_ | refine blk_alloc ?_ _)); refine blk_far ?_ NB560_561.out _; (with_reducible repeat (first | refine blk_drewN ?_ _ | refine blk_drew ?_ | refine blk_alloc ?_ _)); refine blk_far ?_ NB560_561.out _; (with_reducible repeat (first | refine blk_drewN ?_ _ | refine blk_drew ?_ | refine blk_alloc ?_ _)); refine blk_far ?_ NB560_561.out _; (with_reducible repeat (first | refine blk_drewN ?_ _ | refine blk_drew ?_ | refine blk_alloc ?_ _)); refine blk_far ?_ NB560_561.out _; (with_reducible repeat (first | refine blk_drewN ?_ _ | refine blk_drew ?_ | refine blk_alloc ?_ _)); refine blk_far ?_ NB560_561.out _; (with_reducible repeat (first | refine blk_drewN ?_ _ | refine blk_drew ?_ | refine blk_alloc ?_ _)); exact BK560.out) Tryd.underlying67 rfl (by kernel_rfl)) rfl ?_
  exact ⟨by first | rfl | (simp [errW_none, errW_some] <;> rfl) | (simp [*, errW_none, errW_some] <;> rfl), by repeat (first | (with_reducible first | exact HB.out | apply below_alloc | apply pw_below_drewN | apply below_drew1 | refine below_set ?_ GE559.out | refine below_set ?_ GE560.out | refine below_set ?_ GE561.out) | exact HB.out)⟩

/-! ### impl_genOk: function 63 -/
theorem impl_genOk.mono : ∀ a0 a1 k, LeO (impl_genOk.f k a0 a1) (impl_genOk.f (k + 1) a0 a1) := by
  intro a0 a1 k
  unfold impl_genOk.f
  repeat' first
      | (with_reducible exact impl_confOk.mono _ _)
      | (with_reducible exact LeO.refl _)
      | (with_reducible exact LeO.none _)
      | (with_reducible refine LeO.ite ?_ ?_)
      | (with_reducible refine LeO.bind ?_ (fun _ => ?_))
      | exact impl_confOk.mono _ _
      | exact LeO.none _
      | refine LeO.ite ?_ ?_
      | refine LeO.bind ?_ (fun _ => ?_)
set_option maxHeartbeats 8000000 in
set_option maxRecDepth 100000 in
theorem impl_genOk.calls (k : Nat) (a0 : Int) (a1 : ByteArray) (r : Bool) (w : World) (hgw : GW w) (h : impl_genOk.f k a0 a1 = some r) :
    Calls Tryd.prog 63 #[.int .i64 a0, .string a1] w fun e w' => e = .returned (.bool r) ∧ Below w.heap.size w w' := by
  have HGW := Aside0.mk hgw
  clear hgw
  have HB := Aside0.mk (Below.refl w.heap.size w)
  have H : (if a0 = 0 then (some (a1.toList == ([] : List UInt8))) else ((impl_isIn.f a0 1 60000).bind fun t562 => (if t562 = true then ((impl_confOk.f k a1).bind fun t563 => (some t563)) else (some false)))) = some r := h
  clear h
  by_cases c3 : a0 = 0
  · rw [if_pos c3] at H
    have c3b0 : (a0 == 0) = true := beq_iff_eq.mpr c3
    have c3b1 : (a0 != 0) = false := bne_eq_false_iff_eq.mpr c3
    clear c3
    obtain rfl := Option.some.inj H
    go_enter Tryd.func63, Tryd.ntmps63
    go_wp2
    go_ret
    exact ⟨by first | rfl | (simp [errW_none, errW_some] <;> rfl) | (simp [*, errW_none, errW_some] <;> rfl), by repeat (first | (with_reducible first | exact HB.out | apply below_alloc | apply pw_below_drewN | apply below_drew1) | exact HB.out)⟩
  · rw [if_neg c3] at H
    have c3b0 : (a0 == 0) = false := beq_eq_false_iff_ne.mpr c3
    have c3b1 : (a0 != 0) = true := bne_iff_ne.mpr c3
    replace H := Option.bind_eq_some_iff.mp H
    obtain ⟨t562, A40, H⟩ := H
    replace H : (if t562 = true then ((impl_confOk.f k a1).bind fun t563 => (some t563)) else (some false)) = some r := H
    have A4 := Aside0.mk A40
    clear A40
    by_cases c5 : t562 = true
    · subst c5
      have H1 : ((impl_confOk.f k a1).bind fun t563 => (some t563)) = some r := by rw [if_pos rfl] at H; exact H
      clear H
      have H := H1
      clear H1
      replace H := Option.bind_eq_some_iff.mp H
      obtain ⟨t563, A60, H⟩ := H
      replace H : (some t563) = some r := H
      have A6 := Aside0.mk A60
      clear A60
      obtain rfl := Option.some.inj H
      go_enter Tryd.func63, Tryd.ntmps63
      go_wp2_with (first | ((with_reducible refine gate_callee (f := 49) rfl ?_); refine goesL_ (some 10) rfl rfl Tryd.func49 (by kernel_rfl) rfl #[.int .i64 a0, .int .i64 1, .int .i64 60000] rfl (by (try simp only [List.map_toArray, List.map_cons, List.map_nil]); first | done | rfl | (simp only [List.length_drop, List.length_take]; rfl)) ?_; (with_reducible refine (impl_isIn.calls a0 1 60000 true _ A4.out).mono ?_); rintro e w' ⟨rfl, ⟨nd, rfl⟩⟩; refine ⟨_, rfl, ?_⟩) | (go_at_call 62; (with_reducible refine (impl_confOk.calls k a1 t563 _ ?side1 A6.out).mono ?_); (case side1 => exact GW.below HGW.out (by repeat (first | (with_reducible first | exact HB.out | apply below_alloc | apply pw_below_drewN | apply below_drew1) | exact HB.out))); rintro e w7 ⟨rfl, hb⟩; have n0_ := Aside0.mk (below_step (by repeat (first | (with_reducible first | exact HB.out | apply below_alloc | apply pw_below_drewN | apply below_drew1) | exact HB.out)) hb); clear HB; have HB := n0_; clear n0_; (try clear hb); (try clear hb2); (try clear hk); (try clear hi)))
      go_ret
      exact ⟨by first | rfl | (simp [errW_none, errW_some] <;> rfl) | (simp [*, errW_none, errW_some] <;> rfl), by repeat (first | (with_reducible first | exact HB.out | apply below_alloc | apply pw_below_drewN | apply below_drew1) | exact HB.out)⟩
    · replace c5 := Bool.eq_false_iff.mpr c5
      subst c5
      have H1 : (some false) = some r := by rw [if_neg (show ¬ (false = true) by decide)] at H; exact H
      clear H
      have H := H1
      clear H1
      obtain rfl := Option.some.inj H
      go_enter Tryd.func63, Tryd.ntmps63
      go_wp2_with (first | ((with_reducible refine gate_callee (f := 49) rfl ?_); refine goesL_ (some 10) rfl rfl Tryd.func49 (by kernel_rfl) rfl #[.int .i64 a0, .int .i64 1, .int .i64 60000] rfl (by (try simp only [List.map_toArray, List.map_cons, List.map_nil]); first | done | rfl | (simp only [List.length_drop, List.length_take]; rfl)) ?_; (with_reducible refine (impl_isIn.calls a0 1 60000 false _ A4.out).mono ?_); rintro e w' ⟨rfl, ⟨nd, rfl⟩⟩; refine ⟨_, rfl, ?_⟩))
      go_ret
      exact ⟨by first | rfl | (simp [errW_none, errW_some] <;> rfl) | (simp [*, errW_none, errW_some] <;> rfl), by repeat (first | (with_reducible first | exact HB.out | apply below_alloc | apply pw_below_drewN | apply below_drew1) | exact HB.out)⟩

/-! ### impl_KnownOk: function 40 -/
theorem impl_KnownOk.mono : ∀ a0 a1 a2 a3 a4 a5 k, LeO (impl_KnownOk.f k a0 a1 a2 a3 a4 a5) (impl_KnownOk.f (k + 1) a0 a1 a2 a3 a4 a5) := by
  intro a0 a1 a2 a3 a4 a5 k
  unfold impl_KnownOk.f
  repeat' first
      | (with_reducible exact impl_genOk.mono _ _ _)
      | (with_reducible exact LeO.refl _)
      | (with_reducible exact LeO.none _)
      | (with_reducible refine LeO.ite ?_ ?_)
      | (with_reducible refine LeO.bind ?_ (fun _ => ?_))
      | exact impl_genOk.mono _ _ _
      | exact LeO.none _
      | refine LeO.ite ?_ ?_
      | refine LeO.bind ?_ (fun _ => ?_)
set_option maxHeartbeats 8000000 in
set_option maxRecDepth 100000 in
theorem impl_KnownOk.calls (k : Nat) (a0_0 : Int) (a0_1 : ByteArray) (a0_2 : Int) (a0_3 : ByteArray) (a0_4 : Int) (a0_5 : Int) (r : Bool) (w : World) (hgw : GW w) (h : impl_KnownOk.f k a0_0 a0_1 a0_2 a0_3 a0_4 a0_5 = some r) :
    Calls Tryd.prog 40 #[.agg #[.int .i64 a0_0, .string a0_1, .int .i64 a0_2, .string a0_3, .int .i64 a0_4, .int .i64 a0_5]] w fun e w' => e = .returned (.bool r) ∧ Below w.heap.size w w' := by
  have HGW := Aside0.mk hgw
  clear hgw
  have hu67 := Tryd.underlying67
  have HB := Aside0.mk (Below.refl w.heap.size w)
  have H : ((impl_genOk.f k a0_0 a0_1).bind fun t565 => (if t565 = true then ((impl_genOk.f k a0_2 a0_3).bind fun t566 => (if t566 = true then ((impl_isIn.f a0_4 0 60000).bind fun t567 => (if t567 = true then ((impl_isIn.f a0_5 0 1).bind fun t568 => (if t568 = true then (if a0_4 > 0 then (if a0_2 = 0 then (some true) else (some (decide (a0_2 > a0_0)))) else (if a0_5 = 0 then (if a0_2 = 0 then (some true) else (some (decide (a0_2 > a0_0)))) else (some false))) else (some false))) else (some false))) else (some false))) else (some false))) = some r := h
  clear h
  replace H := Option.bind_eq_some_iff.mp H
  obtain ⟨t565, A20, H⟩ := H
  replace H : (if t565 = true then ((impl_genOk.f k a0_2 a0_3).bind fun t566 => (if t566 = true then ((impl_isIn.f a0_4 0 60000).bind fun t567 => (if t567 = true then ((impl_isIn.f a0_5 0 1).bind fun t568 => (if t568 = true then (if a0_4 > 0 then (if a0_2 = 0 then (some true) else (some (decide (a0_2 > a0_0)))) else (if a0_5 = 0 then (if a0_2 = 0 then (some true) else (some (decide (a0_2 > a0_0)))) else (some false))) else (some false))) else (some false))) else (some false))) else (some false)) = some r := H
  have A2 := Aside0.mk A20
  clear A20
  by_cases c3 : t565 = true
  · subst c3
    have H1 : ((impl_genOk.f k a0_2 a0_3).bind fun t566 => (if t566 = true then ((impl_isIn.f a0_4 0 60000).bind fun t567 => (if t567 = true then ((impl_isIn.f a0_5 0 1).bind fun t568 => (if t568 = true then (if a0_4 > 0 then (if a0_2 = 0 then (some true) else (some (decide (a0_2 > a0_0)))) else (if a0_5 = 0 then (if a0_2 = 0 then (some true) else (some (decide (a0_2 > a0_0)))) else (some false))) else (some false))) else (some false))) else (some false))) = some r := by rw [if_pos rfl] at H; exact H
    clear H
    have H := H1
    clear H1
    replace H := Option.bind_eq_some_iff.mp H
    obtain ⟨t566, A40, H⟩ := H
    replace H : (if t566 = true then ((impl_isIn.f a0_4 0 60000).bind fun t567 => (if t567 = true then ((impl_isIn.f a0_5 0 1).bind fun t568 => (if t568 = true then (if a0_4 > 0 then (if a0_2 = 0 then (some true) else (some (decide (a0_2 > a0_0)))) else (if a0_5 = 0 then (if a0_2 = 0 then (some true) else (some (decide (a0_2 > a0_0)))) else (some false))) else (some false))) else (some false))) else (some false)) = some r := H
    have A4 := Aside0.mk A40
    clear A40
    by_cases c5 : t566 = true
    · subst c5
      have H1 : ((impl_isIn.f a0_4 0 60000).bind fun t567 => (if t567 = true then ((impl_isIn.f a0_5 0 1).bind fun t568 => (if t568 = true then (if a0_4 > 0 then (if a0_2 = 0 then (some true) else (some (decide (a0_2 > a0_0)))) else (if a0_5 = 0 then (if a0_2 = 0 then (some true) else (some (decide (a0_2 > a0_0)))) else (some false))) else (some false))) else (some false))) = some r := by rw [if_pos rfl] at H; exact H
      clear H
      have H := H1
      clear H1
      replace H := Option.bind_eq_some_iff.mp H
      obtain ⟨t567, A60, H⟩ := H
      replace H : (if t567 = true then ((impl_isIn.f a0_5 0 1).bind fun t568 => (if t568 = true then (if a0_4 > 0 then (if a0_2 = 0 then (some true) else (some (decide (a0_2 > a0_0)))) else (if a0_5 = 0 then (if a0_2 = 0 then (some true) else (some (decide (a0_2 > a0_0)))) else (some false))) else (some false))) else (some false)) = some r := H
      have A6 := Aside0.mk A60
      clear A60
      by_cases c7 : t567 = true
      · subst c7
        have H1 : ((impl_isIn.f a0_5 0 1).bind fun t568 => (if t568 = true then (if a0_4 > 0 then (if a0_2 = 0 then (some true) else (some (decide (a0_2 > a0_0)))) else (if a0_5 = 0 then (if a0_2 = 0 then (some true) else (some (decide (a0_2 > a0_0)))) else (some false))) else (some false))) = some r := by rw [if_pos rfl] at H; exact H
        clear H
        have H := H1
        clear H1
        replace H := Option.bind_eq_some_iff.mp H
        obtain ⟨t568, A80, H⟩ := H
        replace H : (if t568 = true then (if a0_4 > 0 then (if a0_2 = 0 then (some true) else (some (decide (a0_2 > a0_0)))) else (if a0_5 = 0 then (if a0_2 = 0 then (some true) else (some (decide (a0_2 > a0_0)))) else (some false))) else (some false)) = some r := H
        have A8 := Aside0.mk A80
        clear A80
        by_cases c9 : t568 = true
        · subst c9
          have H1 : (if a0_4 > 0 then (if a0_2 = 0 then (some true) else (some (decide (a0_2 > a0_0)))) else (if a0_5 = 0 then (if a0_2 = 0 then (some true) else (some (decide (a0_2 > a0_0)))) else (some false))) = some r := by rw [if_pos rfl] at H; exact H
          clear H
          have H := H1
          clear H1
          by_cases c10 : a0_4 > 0
          · rw [if_pos c10] at H
            have c10b0 : decide (0 < a0_4) = true := decide_eq_true c10
            clear c10
            by_cases c11 : a0_2 = 0
            · rw [if_pos c11] at H
              have c11b0 : (a0_2 == 0) = true := beq_iff_eq.mpr c11
              have c11b1 : (a0_2 != 0) = false := bne_eq_false_iff_eq.mpr c11
              clear c11
              obtain rfl := Option.some.inj H
              go_enter Tryd.func40, Tryd.ntmps40
              go_wp2_with (first | ((with_reducible refine gate_dst (N := 1) rfl ?_); refine box_event ?hg (N := 1) ?hd (cs := #[.int .i64 a0_0, .string a0_1, .int .i64 a0_2, .string a0_3, .int .i64 a0_4, .int .i64 a0_5]) (t := 67) ?hr ?_; (case hd => rfl); (case hg => rfl); (case hr => first | (go_simp; done) | (go_simp; rfl)); intro gb564 hg w12 hbox hb; have n0_ := Aside0.mk (below_step (by repeat (first | (with_reducible first | exact HB.out | apply below_alloc | apply pw_below_drewN | apply below_drew1) | exact HB.out)) hb); have n1_ := Aside0.mk (hbox); have n2_ := Aside0.mk ((by rw [hg]; exact (below_size (by repeat (first | (with_reducible first | exact HB.out | apply below_alloc | apply pw_below_drewN | apply below_drew1) | exact HB.out))) : w.heap.size ≤ gb564)); have n3_ := Aside0.mk ((by rw [hg]; exact (below_size (by repeat (first | (with_reducible first | exact HB.out | apply below_alloc | apply pw_below_drewN | apply below_drew1) | exact HB.out))) : w.heap.size ≤ gb564)); clear HB; have HB := n0_; have BK564 := n1_; have GW564 := n2_; have GE564 := n3_; clear n0_ n1_ n2_ n3_; clear hb hbox hg; have hcz13_0 : w12.cell? ⟨gb564, 0, none⟩ = some (.int .i64 a0_0) := (blk_cell BK564.out 0).trans rfl; have hcz13_1 : w12.cell? ⟨gb564, 1, none⟩ = some (.string a0_1) := (blk_cell BK564.out 1).trans rfl; have hcz13_2 : w12.cell? ⟨gb564, 2, none⟩ = some (.int .i64 a0_2) := (blk_cell BK564.out 2).trans rfl; have hcz13_3 : w12.cell? ⟨gb564, 3, none⟩ = some (.string a0_3) := (blk_cell BK564.out 3).trans rfl; have hcz13_4 : w12.cell? ⟨gb564, 4, none⟩ = some (.int .i64 a0_4) := (blk_cell BK564.out 4).trans rfl; have hcz13_5 : w12.cell? ⟨gb564, 5, none⟩ = some (.int .i64 a0_5) := (blk_cell BK564.out 5).trans rfl; have hfz13_0 := blk_frozen BK564.out 0; have hfz13_1 := blk_frozen BK564.out 1; have hfz13_2 := blk_frozen BK564.out 2; have hfz13_3 := blk_frozen BK564.out 3; have hfz13_4 := blk_frozen BK564.out 4; have hfz13_5 := blk_frozen BK564.out 5) | ((with_reducible refine gate_callee (f := 63) rfl ?_); refine goesL_ (some 7) rfl rfl Tryd.func63 (by kernel_rfl) rfl #[.int .i64 a0_0, .string a0_1] rfl (by (try simp only [List.map_toArray, List.map_cons, List.map_nil]); first | done | rfl | (simp only [List.length_drop, List.length_take]; rfl)) ?_; (with_reducible refine (impl_genOk.calls k a0_0 a0_1 true _ ?side1 A2.out).mono ?_); (case side1 => exact GW.below HGW.out (by repeat (first | (with_reducible first | exact HB.out | apply below_alloc | apply pw_below_drewN | apply below_drew1 | refine below_set ?_ GE564.out) | exact HB.out))); rintro e w14 ⟨rfl, hb⟩; refine ⟨_, rfl, ?_⟩; have n0_ := Aside0.mk (blk_below (g := gb564) (o := .cells #[.int .i64 a0_0, .string a0_1, .int .i64 a0_2, .string a0_3, .int .i64 a0_4, .int .i64 a0_5] 67 (0, 0)) (by (with_reducible repeat (first | refine blk_drewN ?_ _ | refine blk_drew ?_ | refine blk_alloc ?_ _)); exact BK564.out) hb); have n1_ := Aside0.mk (below_step (by repeat (first | (with_reducible first | exact HB.out | apply below_alloc | apply pw_below_drewN | apply below_drew1 | refine below_set ?_ GE564.out) | exact HB.out)) hb); clear BK564; clear HB; have BK564 := n0_; have HB := n1_; clear n0_ n1_; (try clear hb); (try clear hb2); (try clear hk); (try clear hi); have hcz15_0 : w14.cell? ⟨gb564, 0, none⟩ = some (.int .i64 a0_0) := (blk_cell BK564.out 0).trans rfl; have hcz15_1 : w14.cell? ⟨gb564, 1, none⟩ = some (.string a0_1) := (blk_cell BK564.out 1).trans rfl; have hcz15_2 : w14.cell? ⟨gb564, 2, none⟩ = some (.int .i64 a0_2) := (blk_cell BK564.out 2).trans rfl; have hcz15_3 : w14.cell? ⟨gb564, 3, none⟩ = some (.string a0_3) := (blk_cell BK564.out 3).trans rfl; have hcz15_4 : w14.cell? ⟨gb564, 4, none⟩ = some (.int .i64 a0_4) := (blk_cell BK564.out 4).trans rfl; have hcz15_5 : w14.cell? ⟨gb564, 5, none⟩ = some (.int .i64 a0_5) := (blk_cell BK564.out 5).trans rfl; have hfz15_0 := blk_frozen BK564.out 0; have hfz15_1 := blk_frozen BK564.out 1; have hfz15_2 := blk_frozen BK564.out 2; have hfz15_3 := blk_frozen BK564.out 3; have hfz15_4 := blk_frozen BK564.out 4; have hfz15_5 := blk_frozen BK564.out 5) | (go_at_call 63; (with_reducible refine (impl_genOk.calls k a0_2 a0_3 true _ ?side1 A4.out).mono ?_); (case side1 => exact GW.below HGW.out (by repeat (first | (with_reducible first | exact HB.out | apply below_alloc | apply pw_below_drewN | apply below_drew1 | refine below_set ?_ GE564.out) | exact HB.out))); rintro e w16 ⟨rfl, hb⟩; have n0_ := Aside0.mk (blk_below (g := gb564) (o := .cells #[.int .i64 a0_0, .string a0_1, .int .i64 a0_2, .string a0_3, .int .i64 a0_4, .int .i64 a0_5] 67 (0, 0)) (by (with_reducible repeat (first | refine blk_drewN ?_ _ | refine blk_drew ?_ | refine blk_alloc ?_ _)); exact BK564.out) hb); have n1_ := Aside0.mk (below_step (by repeat (first | (with_reducible first | exact HB.out | apply below_alloc | apply pw_below_drewN | apply below_drew1 | refine below_set ?_ GE564.out) | exact HB.out)) hb); clear BK564; clear HB; have BK564 := n0_; have HB := n1_; clear n0_ n1_; (try clear hb); (try clear hb2); (try clear hk); (try clear hi); have hcz17_0 : w16.cell? ⟨gb564, 0, none⟩ = some (.int .i64 a0_0) := (blk_cell BK564.out 0).trans rfl; have hcz17_1 : w16.cell? ⟨gb564, 1, none⟩ = some (.string a0_1) := (blk_cell BK564.out 1).trans rfl; have hcz17_2 : w16.cell? ⟨gb564, 2, none⟩ = some (.int .i64 a0_2) := (blk_cell BK564.out 2).trans rfl; have hcz17_3 : w16.cell? ⟨gb564, 3, none⟩ = some (.string a0_3) := (blk_cell BK564.out 3).trans rfl; have hcz17_4 : w16.cell? ⟨gb564, 4, none⟩ = some (.int .i64 a0_4) := (blk_cell BK564.out 4).trans rfl; have hcz17_5 : w16.cell? ⟨gb564, 5, none⟩ = some (.int .i64 a0_5) := (blk_cell BK564.out 5).trans rfl; have hfz17_0 := blk_frozen BK564.out 0; have hfz17_1 := blk_frozen BK564.out 1; have hfz17_2 := blk_frozen BK564.out 2; have hfz17_3 := blk_frozen BK564.out 3; have hfz17_4 := blk_frozen BK564.out 4; have hfz17_5 := blk_frozen BK564.out 5) | (go_at_call 49; (with_reducible refine (impl_isIn.calls a0_4 0 60000 true _ A6.out).mono ?_); rintro e w' ⟨rfl, ⟨nd, rfl⟩⟩) | (go_at_call 49; (with_reducible refine (impl_isIn.calls a0_5 0 1 true _ A8.out).mono ?_); rintro e w' ⟨rfl, ⟨nd, rfl⟩⟩))
              go_ret
              exact ⟨by first | rfl | (simp [errW_none, errW_some] <;> rfl) | (simp [*, errW_none, errW_some] <;> rfl), by repeat (first | (with_reducible first | exact HB.out | apply below_alloc | apply pw_below_drewN | apply below_drew1 | refine below_set ?_ GE564.out) | exact HB.out)⟩
            · rw [if_neg c11] at H
              have c11b0 : (a0_2 == 0) = false := beq_eq_false_iff_ne.mpr c11
              have c11b1 : (a0_2 != 0) = true := bne_iff_ne.mpr c11
              obtain rfl := Option.some.inj H
              go_enter Tryd.func40, Tryd.ntmps40
              go_wp2_with (first | ((with_reducible refine gate_dst (N := 1) rfl ?_); refine box_event ?hg (N := 1) ?hd (cs := #[.int .i64 a0_0, .string a0_1, .int .i64 a0_2, .string a0_3, .int .i64 a0_4, .int .i64 a0_5]) (t := 67) ?hr ?_; (case hd => rfl); (case hg => rfl); (case hr => first | (go_simp; done) | (go_simp; rfl)); intro gb564 hg w18 hbox hb; have n0_ := Aside0.mk (below_step (by repeat (first | (with_reducible first | exact HB.out | apply below_alloc | apply pw_below_drewN | apply below_drew1) | exact HB.out)) hb); have n1_ := Aside0.mk (hbox); have n2_ := Aside0.mk ((by rw [hg]; exact (below_size (by repeat (first | (with_reducible first | exact HB.out | apply below_alloc | apply pw_below_drewN | apply below_drew1) | exact HB.out))) : w.heap.size ≤ gb564)); have n3_ := Aside0.mk ((by rw [hg]; exact (below_size (by repeat (first | (with_reducible first | exact HB.out | apply below_alloc | apply pw_below_drewN | apply below_drew1) | exact HB.out))) : w.heap.size ≤ gb564)); clear HB; have HB := n0_; have BK564 := n1_; have GW564 := n2_; have GE564 := n3_; clear n0_ n1_ n2_ n3_; clear hb hbox hg; have hcz19_0 : w18.cell? ⟨gb564, 0, none⟩ = some (.int .i64 a0_0) := (blk_cell BK564.out 0).trans rfl; have hcz19_1 : w18.cell? ⟨gb564, 1, none⟩ = some (.string a0_1) := (blk_cell BK564.out 1).trans rfl; have hcz19_2 : w18.cell? ⟨gb564, 2, none⟩ = some (.int .i64 a0_2) := (blk_cell BK564.out 2).trans rfl; have hcz19_3 : w18.cell? ⟨gb564, 3, none⟩ = some (.string a0_3) := (blk_cell BK564.out 3).trans rfl; have hcz19_4 : w18.cell? ⟨gb564, 4, none⟩ = some (.int .i64 a0_4) := (blk_cell BK564.out 4).trans rfl; have hcz19_5 : w18.cell? ⟨gb564, 5, none⟩ = some (.int .i64 a0_5) := (blk_cell BK564.out 5).trans rfl; have hfz19_0 := blk_frozen BK564.out 0; have hfz19_1 := blk_frozen BK564.out 1; have hfz19_2 := blk_frozen BK564.out 2; have hfz19_3 := blk_frozen BK564.out 3; have hfz19_4 := blk_frozen BK564.out 4; have hfz19_5 := blk_frozen BK564.out 5) | ((with_reducible refine gate_callee (f := 63) rfl ?_); refine goesL_ (some 7) rfl rfl Tryd.func63 (by kernel_rfl) rfl #[.int .i64 a0_0, .string a0_1] rfl (by (try simp only [List.map_toArray, List.map_cons, List.map_nil]); first | done | rfl | (simp only [List.length_drop, List.length_take]; rfl)) ?_; (with_reducible refine (impl_genOk.calls k a0_0 a0_1 true _ ?side1 A2.out).mono ?_); (case side1 => exact GW.below HGW.out (by repeat (first | (with_reducible first | exact HB.out | apply below_alloc | apply pw_below_drewN | apply below_drew1 | refine below_set ?_ GE564.out) | exact HB.out))); rintro e w20 ⟨rfl, hb⟩; refine ⟨_, rfl, ?_⟩; have n0_ := Aside0.mk (blk_below (g := gb564) (o := .cells #[.int .i64 a0_0, .string a0_1, .int .i64 a0_2, .string a0_3, .int .i64 a0_4, .int .i64 a0_5] 67 (0, 0)) (by (with_reducible repeat (first | refine blk_drewN ?_ _ | refine blk_drew ?_ | refine blk_alloc ?_ _)); exact BK564.out) hb); have n1_ := Aside0.mk (below_step (by repeat (first | (with_reducible first | exact HB.out | apply below_alloc | apply pw_below_drewN | apply below_drew1 | refine below_set ?_ GE564.out) | exact HB.out)) hb); clear BK564; clear HB; have BK564 := n0_; have HB := n1_; clear n0_ n1_; (try clear hb); (try clear hb2); (try clear hk); (try clear hi); have hcz21_0 : w20.cell? ⟨gb564, 0, none⟩ = some (.int .i64 a0_0) := (blk_cell BK564.out 0).trans rfl; have hcz21_1 : w20.cell? ⟨gb564, 1, none⟩ = some (.string a0_1) := (blk_cell BK564.out 1).trans rfl; have hcz21_2 : w20.cell? ⟨gb564, 2, none⟩ = some (.int .i64 a0_2) := (blk_cell BK564.out 2).trans rfl; have hcz21_3 : w20.cell? ⟨gb564, 3, none⟩ = some (.string a0_3) := (blk_cell BK564.out 3).trans rfl; have hcz21_4 : w20.cell? ⟨gb564, 4, none⟩ = some (.int .i64 a0_4) := (blk_cell BK564.out 4).trans rfl; have hcz21_5 : w20.cell? ⟨gb564, 5, none⟩ = some (.int .i64 a0_5) := (blk_cell BK564.out 5).trans rfl; have hfz21_0 := blk_frozen BK564.out 0; have hfz21_1 := blk_frozen BK564.out 1; have hfz21_2 := blk_frozen BK564.out 2; have hfz21_3 := blk_frozen BK564.out 3; have hfz21_4 := blk_frozen BK564.out 4; have hfz21_5 := blk_frozen BK564.out 5) | (go_at_call 63; (with_reducible refine (impl_genOk.calls k a0_2 a0_3 true _ ?side1 A4.out).mono ?_); (case side1 => exact GW.below HGW.out (by repeat (first | (with_reducible first | exact HB.out | apply below_alloc | apply pw_below_drewN | apply below_drew1 | refine below_set ?_ GE564.out) | exact HB.out))); rintro e w22 ⟨rfl, hb⟩; have n0_ := Aside0.mk (blk_below (g := gb564) (o := .cells #[.int .i64 a0_0, .string a0_1, .int .i64 a0_2, .string a0_3, .int .i64 a0_4, .int .i64 a0_5] 67 (0, 0)) (by (with_reducible repeat (first | refine blk_drewN ?_ _ | refine blk_drew ?_ | refine blk_alloc ?_ _)); exact BK564.out) hb); have n1_ := Aside0.mk (below_step (by repeat (first | (with_reducible first | exact HB.out | apply below_alloc | apply pw_below_drewN | apply below_drew1 | refine below_set ?_ GE564.out) | exact HB.out)) hb); clear BK564; clear HB; have BK564 := n0_; have HB := n1_; clear n0_ n1_; (try clear hb); (try clear hb2); (try clear hk); (try clear hi); have hcz23_0 : w22.cell? ⟨gb564, 0, none⟩ = some (.int .i64 a0_0) := (blk_cell BK564.out 0).trans rfl; have hcz23_1 : w22.cell? ⟨gb564, 1, none⟩ = some (.string a0_1) := (blk_cell BK564.out 1).trans rfl; have hcz23_2 : w22.cell? ⟨gb564, 2, none⟩ = some (.int .i64 a0_2) := (blk_cell BK564.out 2).trans rfl; have hcz23_3 : w22.cell? ⟨gb564, 3, none⟩ = some (.string a0_3) := (blk_cell BK564.out 3).trans rfl; have hcz23_4 : w22.cell? ⟨gb564, 4, none⟩ = some (.int .i64 a0_4) := (blk_cell BK564.out 4).trans rfl; have hcz23_5 : w22.cell? ⟨gb564, 5, none⟩ = some (.int .i64 a0_5) := (blk_cell BK564.out 5).trans rfl; have hfz23_0 := blk_frozen BK564.out 0; have hfz23_1 := blk_frozen BK564.out 1; have hfz23_2 := blk_frozen BK564.out 2; have hfz23_3 := blk_frozen BK564.out 3; have hfz23_4 := blk_frozen BK564.out 4; have hfz23_5 := blk_frozen BK564.out 5) | (go_at_call 49; (with_reducible refine (impl_isIn.calls a0_4 0 60000 true _ A6.out).mono ?_); rintro e w' ⟨rfl, ⟨nd, rfl⟩⟩) | (go_at_call 49; (with_reducible refine (impl_isIn.calls a0_5 0 1 true _ A8.out).mono ?_); rintro e w' ⟨rfl, ⟨nd, rfl⟩⟩))
              go_ret
              exact ⟨by first | rfl | (simp [errW_none, errW_some] <;> rfl) | (simp [*, errW_none, errW_some] <;> rfl), by repeat (first | (with_reducible first | exact HB.out | apply below_alloc | apply pw_below_drewN | apply below_drew1 | refine below_set ?_ GE564.out) | exact HB.out)⟩
          · rw [if_neg c10] at H
            have c10b0 : decide (0 < a0_4) = false := decide_eq_false c10
            clear c10
            by_cases c24 : a0_5 = 0
            · rw [if_pos c24] at H
              have c24b0 : (a0_5 == 0) = true := beq_iff_eq.mpr c24
              have c24b1 : (a0_5 != 0) = false := bne_eq_false_iff_eq.mpr c24
              clear c24
              by_cases c25 : a0_2 = 0
              · rw [if_pos c25] at H
                have c25b0 : (a0_2 == 0) = true := beq_iff_eq.mpr c25
                have c25b1 : (a0_2 != 0) = false := bne_eq_false_iff_eq.mpr c25
                clear c25
                obtain rfl := Option.some.inj H
                go_enter Tryd.func40, Tryd.ntmps40
                go_wp2_with (first | ((with_reducible refine gate_dst (N := 1) rfl ?_); refine box_event ?hg (N := 1) ?hd (cs := #[.int .i64 a0_0, .string a0_1, .int .i64 a0_2, .string a0_3, .int .i64 a0_4, .int .i64 a0_5]) (t := 67) ?hr ?_; (case hd => rfl); (case hg => rfl); (case hr => first | (go_simp; done) | (go_simp; rfl)); intro gb564 hg w26 hbox hb; have n0_ := Aside0.mk (below_step (by repeat (first | (with_reducible first | exact HB.out | apply below_alloc | apply pw_below_drewN | apply below_drew1) | exact HB.out)) hb); have n1_ := Aside0.mk (hbox); have n2_ := Aside0.mk ((by rw [hg]; exact (below_size (by repeat (first | (with_reducible first | exact HB.out | apply below_alloc | apply pw_below_drewN | apply below_drew1) | exact HB.out))) : w.heap.size ≤ gb564)); have n3_ := Aside0.mk ((by rw [hg]; exact (below_size (by repeat (first | (with_reducible first | exact HB.out | apply below_alloc | apply pw_below_drewN | apply below_drew1) | exact HB.out))) : w.heap.size ≤ gb564)); clear HB; have HB := n0_; have BK564 := n1_; have GW564 := n2_; have GE564 := n3_; clear n0_ n1_ n2_ n3_; clear hb hbox hg; have hcz27_0 : w26.cell? ⟨gb564, 0, none⟩ = some (.int .i64 a0_0) := (blk_cell BK564.out 0).trans rfl; have hcz27_1 : w26.cell? ⟨gb564, 1, none⟩ = some (.string a0_1) := (blk_cell BK564.out 1).trans rfl; have hcz27_2 : w26.cell? ⟨gb564, 2, none⟩ = some (.int .i64 a0_2) := (blk_cell BK564.out 2).trans rfl; have hcz27_3 : w26.cell? ⟨gb564, 3, none⟩ = some (.string a0_3) := (blk_cell BK564.out 3).trans rfl; have hcz27_4 : w26.cell? ⟨gb564, 4, none⟩ = some (.int .i64 a0_4) := (blk_cell BK564.out 4).trans rfl; have hcz27_5 : w26.cell? ⟨gb564, 5, none⟩ = some (.int .i64 a0_5) := (blk_cell BK564.out 5).trans rfl; have hfz27_0 := blk_frozen BK564.out 0; have hfz27_1 := blk_frozen BK564.out 1; have hfz27_2 := blk_frozen BK564.out 2; have hfz27_3 := blk_frozen BK564.out 3; have hfz27_4 := blk_frozen BK564.out 4; have hfz27_5 := blk_frozen BK564.out 5) | ((with_reducible refine gate_callee (f := 63) rfl ?_); refine goesL_ (some 7) rfl rfl Tryd.func63 (by kernel_rfl) rfl #[.int .i64 a0_0, .string a0_1] rfl (by (try simp only [List.map_toArray, List.map_cons, List.map_nil]); first | done | rfl | (simp only [List.length_drop, List.length_take]; rfl)) ?_; (with_reducible refine (impl_genOk.calls k a0_0 a0_1 true _ ?side1 A2.out).mono ?_); (case side1 => exact GW.below HGW.out (by repeat (first | (with_reducible first | exact HB.out | apply below_alloc | apply pw_below_drewN | apply below_drew1 | refine below_set ?_ GE564.out) | exact HB.out))); rintro e w28 ⟨rfl, hb⟩; refine ⟨_, rfl, ?_⟩; have n0_ := Aside0.mk (blk_below (g := gb564) (o := .cells #[.int .i64 a0_0, .string a0_1, .int .i64 a0_2, .string a0_3, .int .i64 a0_4, .int .i64 a0_5] 67 (0, 0)) (by (with_reducible repeat (first | refine blk_drewN ?_ _ | refine blk_drew ?_ | refine blk_alloc ?_ _)); exact BK564.out) hb); have n1_ := Aside0.mk (below_step (by repeat (first | (with_reducible first | exact HB.out | apply below_alloc | apply pw_below_drewN | apply below_drew1 | refine below_set ?_ GE564.out) | exact HB.out)) hb); clear BK564; clear HB; have BK564 := n0_; have HB := n1_; clear n0_ n1_; (try clear hb); (try clear hb2); (try clear hk); (try clear hi); have hcz29_0 : w28.cell? ⟨gb564, 0, none⟩ = some (.int .i64 a0_0) := (blk_cell BK564.out 0).trans rfl; have hcz29_1 : w28.cell? ⟨gb564, 1, none⟩ = some (.string a0_1) := (blk_cell BK564.out 1).trans rfl; have hcz29_2 : w28.cell? ⟨gb564, 2, none⟩ = some (.int .i64 a0_2) := (blk_cell BK564.out 2).trans rfl; have hcz29_3 : w28.cell? ⟨gb564, 3, none⟩ = some (.string a0_3) := (blk_cell BK564.out 3).trans rfl; have hcz29_4 : w28.cell? ⟨gb564, 4, none⟩ = some (.int .i64 a0_4) := (blk_cell BK564.out 4).trans rfl; have hcz29_5 : w28.cell? ⟨gb564, 5, none⟩ = some (.int .i64 a0_5) := (blk_cell BK564.out 5).trans rfl; have hfz29_0 := blk_frozen BK564.out 0; have hfz29_1 := blk_frozen BK564.out 1; have hfz29_2 := blk_frozen BK564.out 2; have hfz29_3 := blk_frozen BK564.out 3; have hfz29_4 := blk_frozen BK564.out 4; have hfz29_5 := blk_frozen BK564.out 5) | (go_at_call 63; (with_reducible refine (impl_genOk.calls k a0_2 a0_3 true _ ?side1 A4.out).mono ?_); (case side1 => exact GW.below HGW.out (by repeat (first | (with_reducible first | exact HB.out | apply below_alloc | apply pw_below_drewN | apply below_drew1 | refine below_set ?_ GE564.out) | exact HB.out))); rintro e w30 ⟨rfl, hb⟩; have n0_ := Aside0.mk (blk_below (g := gb564) (o := .cells #[.int .i64 a0_0, .string a0_1, .int .i64 a0_2, .string a0_3, .int .i64 a0_4, .int .i64 a0_5] 67 (0, 0)) (by (with_reducible repeat (first | refine blk_drewN ?_ _ | refine blk_drew ?_ | refine blk_alloc ?_ _)); exact BK564.out) hb); have n1_ := Aside0.mk (below_step (by repeat (first | (with_reducible first | exact HB.out | apply below_alloc | apply pw_below_drewN | apply below_drew1 | refine below_set ?_ GE564.out) | exact HB.out)) hb); clear BK564; clear HB; have BK564 := n0_; have HB := n1_; clear n0_ n1_; (try clear hb); (try clear hb2); (try clear hk); (try clear hi); have hcz31_0 : w30.cell? ⟨gb564, 0, none⟩ = some (.int .i64 a0_0) := (blk_cell BK564.out 0).trans rfl; have hcz31_1 : w30.cell? ⟨gb564, 1, none⟩ = some (.string a0_1) := (blk_cell BK564.out 1).trans rfl; have hcz31_2 : w30.cell? ⟨gb564, 2, none⟩ = some (.int .i64 a0_2) := (blk_cell BK564.out 2).trans rfl; have hcz31_3 : w30.cell? ⟨gb564, 3, none⟩ = some (.string a0_3) := (blk_cell BK564.out 3).trans rfl; have hcz31_4 : w30.cell? ⟨gb564, 4, none⟩ = some (.int .i64 a0_4) := (blk_cell BK564.out 4).trans rfl; have hcz31_5 : w30.cell? ⟨gb564, 5, none⟩ = some (.int .i64 a0_5) := (blk_cell BK564.out 5).trans rfl; have hfz31_0 := blk_frozen BK564.out 0; have hfz31_1 := blk_frozen BK564.out 1; have hfz31_2 := blk_frozen BK564.out 2; have hfz31_3 := blk_frozen BK564.out 3; have hfz31_4 := blk_frozen BK564.out 4; have hfz31_5 := blk_frozen BK564.out 5) | (go_at_call 49; (with_reducible refine (impl_isIn.calls a0_4 0 60000 true _ A6.out).mono ?_); rintro e w' ⟨rfl, ⟨nd, rfl⟩⟩) | (go_at_call 49; (with_reducible refine (impl_isIn.calls a0_5 0 1 true _ A8.out).mono ?_); rintro e w' ⟨rfl, ⟨nd, rfl⟩⟩))
                go_ret
                exact ⟨by first | rfl | (simp [errW_none, errW_some] <;> rfl) | (simp [*, errW_none, errW_some] <;> rfl), by repeat (first | (with_reducible first | exact HB.out | apply below_alloc | apply pw_below_drewN | apply below_drew1 | refine below_set ?_ GE564.out) | exact HB.out)⟩
              · rw [if_neg c25] at H
                have c25b0 : (a0_2 == 0) = false := beq_eq_false_iff_ne.mpr c25
                have c25b1 : (a0_2 != 0) = true := bne_iff_ne.mpr c25
                obtain rfl := Option.some.inj H
                go_enter Tryd.func40, Tryd.ntmps40
                go_wp2_with (first | ((with_reducible refine gate_dst (N := 1) rfl ?_); refine box_event ?hg (N := 1) ?hd (cs := #[.int .i64 a0_0, .string a0_1, .int .i64 a0_2, .string a0_3, .int .i64 a0_4, .int .i64 a0_5]) (t := 67) ?hr ?_; (case hd => rfl); (case hg => rfl); (case hr => first | (go_simp; done) | (go_simp; rfl)); intro gb564 hg w32 hbox hb; have n0_ := Aside0.mk (below_step (by repeat (first | (with_reducible first | exact HB.out | apply below_alloc | apply pw_below_drewN | apply below_drew1) | exact HB.out)) hb); have n1_ := Aside0.mk (hbox); have n2_ := Aside0.mk ((by rw [hg]; exact (below_size (by repeat (first | (with_reducible first | exact HB.out | apply below_alloc | apply pw_below_drewN | apply below_drew1) | exact HB.out))) : w.heap.size ≤ gb564)); have n3_ := Aside0.mk ((by rw [hg]; exact (below_size (by repeat (first | (with_reducible first | exact HB.out | apply below_alloc | apply pw_below_drewN | apply below_drew1) | exact HB.out))) : w.heap.size ≤ gb564)); clear HB; have HB := n0_; have BK564 := n1_; have GW564 := n2_; have GE564 := n3_; clear n0_ n1_ n2_ n3_; clear hb hbox hg; have hcz33_0 : w32.cell? ⟨gb564, 0, none⟩ = some (.int .i64 a0_0) := (blk_cell BK564.out 0).trans rfl; have hcz33_1 : w32.cell? ⟨gb564, 1, none⟩ = some (.string a0_1) := (blk_cell BK564.out 1).trans rfl; have hcz33_2 : w32.cell? ⟨gb564, 2, none⟩ = some (.int .i64 a0_2) := (blk_cell BK564.out 2).trans rfl; have hcz33_3 : w32.cell? ⟨gb564, 3, none⟩ = some (.string a0_3) := (blk_cell BK564.out 3).trans rfl; have hcz33_4 : w32.cell? ⟨gb564, 4, none⟩ = some (.int .i64 a0_4) := (blk_cell BK564.out 4).trans rfl; have hcz33_5 : w32.cell? ⟨gb564, 5, none⟩ = some (.int .i64 a0_5) := (blk_cell BK564.out 5).trans rfl; have hfz33_0 := blk_frozen BK564.out 0; have hfz33_1 := blk_frozen BK564.out 1; have hfz33_2 := blk_frozen BK564.out 2; have hfz33_3 := blk_frozen BK564.out 3; have hfz33_4 := blk_frozen BK564.out 4; have hfz33_5 := blk_frozen BK564.out 5) | ((with_reducible refine gate_callee (f := 63) rfl ?_); refine goesL_ (some 7) rfl rfl Tryd.func63 (by kernel_rfl) rfl #[.int .i64 a0_0, .string a0_1] rfl (by (try simp only [List.map_toArray, List.map_cons, List.map_nil]); first | done | rfl | (simp only [List.length_drop, List.length_take]; rfl)) ?_; (with_reducible refine (impl_genOk.calls k a0_0 a0_1 true _ ?side1 A2.out).mono ?_); (case side1 => exact GW.below HGW.out (by repeat (first | (with_reducible first | exact HB.out | apply below_alloc | apply pw_below_drewN | apply below_drew1 | refine below_set ?_ GE564.out) | exact HB.out))); rintro e w34 ⟨rfl, hb⟩; refine ⟨_, rfl, ?_⟩; have n0_ := Aside0.mk (blk_below (g := gb564) (o := .cells #[.int .i64 a0_0, .string a0_1, .int .i64 a0_2, .string a0_3, .int .i64 a0_4, .int .i64 a0_5] 67 (0, 0)) (by (with_reducible repeat (first | refine blk_drewN ?_ _ | refine blk_drew ?_ | refine blk_alloc ?_ _)); exact BK564.out) hb); have n1_ := Aside0.mk (below_step (by repeat (first | (with_reducible first | exact HB.out | apply below_alloc | apply pw_below_drewN | apply below_drew1 | refine below_set ?_ GE564.out) | exact HB.out)) hb); clear BK564; clear HB; have BK564 := n0_; have HB := n1_; clear n0_ n1_; (try clear hb); (try clear hb2); (try clear hk); (try clear hi); have hcz35_0 : w34.cell? ⟨gb564, 0, none⟩ = some (.int .i64 a0_0) := (blk_cell BK564.out 0).trans rfl; have hcz35_1 : w34.cell? ⟨gb564, 1, none⟩ = some (.string a0_1) := (blk_cell BK564.out 1).trans rfl; have hcz35_2 : w34.cell? ⟨gb564, 2, none⟩ = some (.int .i64 a0_2) := (blk_cell BK564.out 2).trans rfl; have hcz35_3 : w34.cell? ⟨gb564, 3, none⟩ = some (.string a0_3) := (blk_cell BK564.out 3).trans rfl; have hcz35_4 : w34.cell? ⟨gb564, 4, none⟩ = some (.int .i64 a0_4) := (blk_cell BK564.out 4).trans rfl; have hcz35_5 : w34.cell? ⟨gb564, 5, none⟩ = some (.int .i64 a0_5) := (blk_cell BK564.out 5).trans rfl; have hfz35_0 := blk_frozen BK564.out 0; have hfz35_1 := blk_frozen BK564.out 1; have hfz35_2 := blk_frozen BK564.out 2; have hfz35_3 := blk_frozen BK564.out 3; have hfz35_4 := blk_frozen BK564.out 4; have hfz35_5 := blk_frozen BK564.out 5) | (go_at_call 63; (with_reducible refine (impl_genOk.calls k a0_2 a0_3 true _ ?side1 A4.out).mono ?_); (case side1 => exact GW.below HGW.out (by repeat (first | (with_reducible first | exact HB.out | apply below_alloc | apply pw_below_drewN | apply below_drew1 | refine below_set ?_ GE564.out) | exact HB.out))); rintro e w36 ⟨rfl, hb⟩; have n0_ := Aside0.mk (blk_below (g := gb564) (o := .cells #[.int .i64 a0_0, .string a0_1, .int .i64 a0_2, .string a0_3, .int .i64 a0_4, .int .i64 a0_5] 67 (0, 0)) (by (with_reducible repeat (first | refine blk_drewN ?_ _ | refine blk_drew ?_ | refine blk_alloc ?_ _)); exact BK564.out) hb); have n1_ := Aside0.mk (below_step (by repeat (first | (with_reducible first | exact HB.out | apply below_alloc | apply pw_below_drewN | apply below_drew1 | refine below_set ?_ GE564.out) | exact HB.out)) hb); clear BK564; clear HB; have BK564 := n0_; have HB := n1_; clear n0_ n1_; (try clear hb); (try clear hb2); (try clear hk); (try clear hi); have hcz37_0 : w36.cell? ⟨gb564, 0, none⟩ = some (.int .i64 a0_0) := (blk_cell BK564.out 0).trans rfl; have hcz37_1 : w36.cell? ⟨gb564, 1, none⟩ = some (.string a0_1) := (blk_cell BK564.out 1).trans rfl; have hcz37_2 : w36.cell? ⟨gb564, 2, none⟩ = some (.int .i64 a0_2) := (blk_cell BK564.out 2).trans rfl; have hcz37_3 : w36.cell? ⟨gb564, 3, none⟩ = some (.string a0_3) := (blk_cell BK564.out 3).trans rfl; have hcz37_4 : w36.cell? ⟨gb564, 4, none⟩ = some (.int .i64 a0_4) := (blk_cell BK564.out 4).trans rfl; have hcz37_5 : w36.cell? ⟨gb564, 5, none⟩ = some (.int .i64 a0_5) := (blk_cell BK564.out 5).trans rfl; have hfz37_0 := blk_frozen BK564.out 0; have hfz37_1 := blk_frozen BK564.out 1; have hfz37_2 := blk_frozen BK564.out 2; have hfz37_3 := blk_frozen BK564.out 3; have hfz37_4 := blk_frozen BK564.out 4; have hfz37_5 := blk_frozen BK564.out 5) | (go_at_call 49; (with_reducible refine (impl_isIn.calls a0_4 0 60000 true _ A6.out).mono ?_); rintro e w' ⟨rfl, ⟨nd, rfl⟩⟩) | (go_at_call 49; (with_reducible refine (impl_isIn.calls a0_5 0 1 true _ A8.out).mono ?_); rintro e w' ⟨rfl, ⟨nd, rfl⟩⟩))
                go_ret
                exact ⟨by first | rfl | (simp [errW_none, errW_some] <;> rfl) | (simp [*, errW_none, errW_some] <;> rfl), by repeat (first | (with_reducible first | exact HB.out | apply below_alloc | apply pw_below_drewN | apply below_drew1 | refine below_set ?_ GE564.out) | exact HB.out)⟩
            · rw [if_neg c24] at H
              have c24b0 : (a0_5 == 0) = false := beq_eq_false_iff_ne.mpr c24
              have c24b1 : (a0_5 != 0) = true := bne_iff_ne.mpr c24
              obtain rfl := Option.some.inj H
              go_enter Tryd.func40, Tryd.ntmps40
              go_wp2_with (first | ((with_reducible refine gate_dst (N := 1) rfl ?_); refine box_event ?hg (N := 1) ?hd (cs := #[.int .i64 a0_0, .string a0_1, .int .i64 a0_2, .string a0_3, .int .i64 a0_4, .int .i64 a0_5]) (t := 67) ?hr ?_; (case hd => rfl); (case hg => rfl); (case hr => first | (go_simp; done) | (go_simp; rfl)); intro gb564 hg w38 hbox hb; have n0_ := Aside0.mk (below_step (by repeat (first | (with_reducible first | exact HB.out | apply below_alloc | apply pw_below_drewN | apply below_drew1) | exact HB.out)) hb); have n1_ := Aside0.mk (hbox); have n2_ := Aside0.mk ((by rw [hg]; exact (below_size (by repeat (first | (with_reducible first | exact HB.out | apply below_alloc | apply pw_below_drewN | apply below_drew1) | exact HB.out))) : w.heap.size ≤ gb564)); have n3_ := Aside0.mk ((by rw [hg]; exact (below_size (by repeat (first | (with_reducible first | exact HB.out | apply below_alloc | apply pw_below_drewN | apply below_drew1) | exact HB.out))) : w.heap.size ≤ gb564)); clear HB; have HB := n0_; have BK564 := n1_; have GW564 := n2_; have GE564 := n3_; clear n0_ n1_ n2_ n3_; clear hb hbox hg; have hcz39_0 : w38.cell? ⟨gb564, 0, none⟩ = some (.int .i64 a0_0) := (blk_cell BK564.out 0).trans rfl; have hcz39_1 : w38.cell? ⟨gb564, 1, none⟩ = some (.string a0_1) := (blk_cell BK564.out 1).trans rfl; have hcz39_2 : w38.cell? ⟨gb564, 2, none⟩ = some (.int .i64 a0_2) := (blk_cell BK564.out 2).trans rfl; have hcz39_3 : w38.cell? ⟨gb564, 3, none⟩ = some (.string a0_3) := (blk_cell BK564.out 3).trans rfl; have hcz39_4 : w38.cell? ⟨gb564, 4, none⟩ = some (.int .i64 a0_4) := (blk_cell BK564.out 4).trans rfl; have hcz39_5 : w38.cell? ⟨gb564, 5, none⟩ = some (.int .i64 a0_5) := (blk_cell BK564.out 5).trans rfl; have hfz39_0 := blk_frozen BK564.out 0; have hfz39_1 := blk_frozen BK564.out 1; have hfz39_2 := blk_frozen BK564.out 2; have hfz39_3 := blk_frozen BK564.out 3; have hfz39_4 := blk_frozen BK564.out 4; have hfz39_5 := blk_frozen BK564.out 5) | ((with_reducible refine gate_callee (f := 63) rfl ?_); refine goesL_ (some 7) rfl rfl Tryd.func63 (by kernel_rfl) rfl #[.int .i64 a0_0, .string a0_1] rfl (by (try simp only [List.map_toArray, List.map_cons, List.map_nil]); first | done | rfl | (simp only [List.length_drop, List.length_take]; rfl)) ?_; (with_reducible refine (impl_genOk.calls k a0_0 a0_1 true _ ?side1 A2.out).mono ?_); (case side1 => exact GW.below HGW.out (by repeat (first | (with_reducible first | exact HB.out | apply below_alloc | apply pw_below_drewN | apply below_drew1 | refine below_set ?_ GE564.out) | exact HB.out))); rintro e w40 ⟨rfl, hb⟩; refine ⟨_, rfl, ?_⟩; have n0_ := Aside0.mk (blk_below (g := gb564) (o := .cells #[.int .i64 a0_0, .string a0_1, .int .i64 a0_2, .string a0_3, .int .i64 a0_4, .int .i64 a0_5] 67 (0, 0)) (by (with_reducible repeat (first | refine blk_drewN ?_ _ | refine blk_drew ?_ | refine blk_alloc ?_ _)); exact BK564.out) hb); have n1_ := Aside0.mk (below_step (by repeat (first | (with_reducible first | exact HB.out | apply below_alloc | apply pw_below_drewN | apply below_drew1 | refine below_set ?_ GE564.out) | exact HB.out)) hb); clear BK564; clear HB; have BK564 := n0_; have HB := n1_; clear n0_ n1_; (try clear hb); (try clear hb2); (try clear hk); (try clear hi); have hcz41_0 : w40.cell? ⟨gb564, 0, none⟩ = some (.int .i64 a0_0) := (blk_cell BK564.out 0).trans rfl; have hcz41_1 : w40.cell? ⟨gb564, 1, none⟩ = some (.string a0_1) := (blk_cell BK564.out 1).trans rfl; have hcz41_2 : w40.cell? ⟨gb564, 2, none⟩ = some (.int .i64 a0_2) := (blk_cell BK564.out 2).trans rfl; have hcz41_3 : w40.cell? ⟨gb564, 3, none⟩ = some (.string a0_3) := (blk_cell BK564.out 3).trans rfl; have hcz41_4 : w40.cell? ⟨gb564, 4, none⟩ = some (.int .i64 a0_4) := (blk_cell BK564.out 4).trans rfl; have hcz41_5 : w40.cell? ⟨gb564, 5, none⟩ = some (.int .i64 a0_5) := (blk_cell BK564.out 5).trans rfl; have hfz41_0 := blk_frozen BK564.out 0; have hfz41_1 := blk_frozen BK564.out 1; have hfz41_2 := blk_frozen BK564.out 2; have hfz41_3 := blk_frozen BK564.out 3; have hfz41_4 := blk_frozen BK564.out 4; have hfz41_5 := blk_frozen BK564.out 5) | (go_at_call 63; (with_reducible refine (impl_genOk.calls k a0_2 a0_3 true _ ?side1 A4.out).mono ?_); (case side1 => exact GW.below HGW.out (by repeat (first | (with_reducible first | exact HB.out | apply below_alloc | apply pw_below_drewN | apply below_drew1 | refine below_set ?_ GE564.out) | exact HB.out))); rintro e w42 ⟨rfl, hb⟩; have n0_ := Aside0.mk (blk_below (g := gb564) (o := .cells #[.int .i64 a0_0, .string a0_1, .int .i64 a0_2, .string a0_3, .int .i64 a0_4, .int .i64 a0_5] 67 (0, 0)) (by (with_reducible repeat (first | refine blk_drewN ?_ _ | refine blk_drew ?_ | refine blk_alloc ?_ _)); exact BK564.out) hb); have n1_ := Aside0.mk (below_step (by repeat (first | (with_reducible first | exact HB.out | apply below_alloc | apply pw_below_drewN | apply below_drew1 | refine below_set ?_ GE564.out) | exact HB.out)) hb); clear BK564; clear HB; have BK564 := n0_; have HB := n1_; clear n0_ n1_; (try clear hb); (try clear hb2); (try clear hk); (try clear hi); have hcz43_0 : w42.cell? ⟨gb564, 0, none⟩ = some (.int .i64 a0_0) := (blk_cell BK564.out 0).trans rfl; have hcz43_1 : w42.cell? ⟨gb564, 1, none⟩ = some (.string a0_1) := (blk_cell BK564.out 1).trans rfl; have hcz43_2 : w42.cell? ⟨gb564, 2, none⟩ = some (.int .i64 a0_2) := (blk_cell BK564.out 2).trans rfl; have hcz43_3 : w42.cell? ⟨gb564, 3, none⟩ = some (.string a0_3) := (blk_cell BK564.out 3).trans rfl; have hcz43_4 : w42.cell? ⟨gb564, 4, none⟩ = some (.int .i64 a0_4) := (blk_cell BK564.out 4).trans rfl; have hcz43_5 : w42.cell? ⟨gb564, 5, none⟩ = some (.int .i64 a0_5) := (blk_cell BK564.out 5).trans rfl; have hfz43_0 := blk_frozen BK564.out 0; have hfz43_1 := blk_frozen BK564.out 1; have hfz43_2 := blk_frozen BK564.out 2; have hfz43_3 := blk_frozen BK564.out 3; have hfz43_4 := blk_frozen BK564.out 4; have hfz43_5 := blk_frozen BK564.out 5) | (go_at_call 49; (with_reducible refine (impl_isIn.calls a0_4 0 60000 true _ A6.out).mono ?_); rintro e w' ⟨rfl, ⟨nd, rfl⟩⟩) | (go_at_call 49; (with_reducible refine (impl_isIn.calls a0_5 0 1 true _ A8.out).mono ?_); rintro e w' ⟨rfl, ⟨nd, rfl⟩⟩))
              go_ret
              exact ⟨by first | rfl | (simp [errW_none, errW_some] <;> rfl) | (simp [*, errW_none, errW_some] <;> rfl), by repeat (first | (with_reducible first | exact HB.out | apply below_alloc | apply pw_below_drewN | apply below_drew1 | refine below_set ?_ GE564.out) | exact HB.out)⟩
        · replace c9 := Bool.eq_false_iff.mpr c9
          subst c9
          have H1 : (some false) = some r := by rw [if_neg (show ¬ (false = true) by decide)] at H; exact H
          clear H
          have H := H1
          clear H1
          obtain rfl := Option.some.inj H
          go_enter Tryd.func40, Tryd.ntmps40
          go_wp2_with (first | ((with_reducible refine gate_dst (N := 1) rfl ?_); refine box_event ?hg (N := 1) ?hd (cs := #[.int .i64 a0_0, .string a0_1, .int .i64 a0_2, .string a0_3, .int .i64 a0_4, .int .i64 a0_5]) (t := 67) ?hr ?_; (case hd => rfl); (case hg => rfl); (case hr => first | (go_simp; done) | (go_simp; rfl)); intro gb564 hg w44 hbox hb; have n0_ := Aside0.mk (below_step (by repeat (first | (with_reducible first | exact HB.out | apply below_alloc | apply pw_below_drewN | apply below_drew1) | exact HB.out)) hb); have n1_ := Aside0.mk (hbox); have n2_ := Aside0.mk ((by rw [hg]; exact (below_size (by repeat (first | (with_reducible first | exact HB.out | apply below_alloc | apply pw_below_drewN | apply below_drew1) | exact HB.out))) : w.heap.size ≤ gb564)); have n3_ := Aside0.mk ((by rw [hg]; exact (below_size (by repeat (first | (with_reducible first | exact HB.out | apply below_alloc | apply pw_below_drewN | apply below_drew1) | exact HB.out))) : w.heap.size ≤ gb564)); clear HB; have HB := n0_; have BK564 := n1_; have GW564 := n2_; have GE564 := n3_; clear n0_ n1_ n2_ n3_; clear hb hbox hg; have hcz45_0 : w44.cell? ⟨gb564, 0, none⟩ = some (.int .i64 a0_0) := (blk_cell BK564.out 0).trans rfl; have hcz45_1 : w44.cell? ⟨gb564, 1, none⟩ = some (.string a0_1) := (blk_cell BK564.out 1).trans rfl; have hcz45_2 : w44.cell? ⟨gb564, 2, none⟩ = some (.int .i64 a0_2) := (blk_cell BK564.out 2).trans rfl; have hcz45_3 : w44.cell? ⟨gb564, 3, none⟩ = some (.string a0_3) := (blk_cell BK564.out 3).trans rfl; have hcz45_4 : w44.cell? ⟨gb564, 4, none⟩ = some (.int .i64 a0_4) := (blk_cell BK564.out 4).trans rfl; have hcz45_5 : w44.cell? ⟨gb564, 5, none⟩ = some (.int .i64 a0_5) := (blk_cell BK564.out 5).trans rfl; have hfz45_0 := blk_frozen BK564.out 0; have hfz45_1 := blk_frozen BK564.out 1; have hfz45_2 := blk_frozen BK564.out 2; have hfz45_3 := blk_frozen BK564.out 3; have hfz45_4 := blk_frozen BK564.out 4; have hfz45_5 := blk_frozen BK564.out 5) | ((with_reducible refine gate_callee (f := 63) rfl ?_); refine goesL_ (some 7) rfl rfl Tryd.func63 (by kernel_rfl) rfl #[.int .i64 a0_0, .string a0_1] rfl (by (try simp only [List.map_toArray, List.map_cons, List.map_nil]); first | done | rfl | (simp only [List.length_drop, List.length_take]; rfl)) ?_; (with_reducible refine (impl_genOk.calls k a0_0 a0_1 true _ ?side1 A2.out).mono ?_); (case side1 => exact GW.below HGW.out (by repeat (first | (with_reducible first | exact HB.out | apply below_alloc | apply pw_below_drewN | apply below_drew1 | refine below_set ?_ GE564.out) | exact HB.out))); rintro e w46 ⟨rfl, hb⟩; refine ⟨_, rfl, ?_⟩; have n0_ := Aside0.mk (blk_below (g := gb564) (o := .cells #[.int .i64 a0_0, .string a0_1, .int .i64 a0_2, .string a0_3, .int .i64 a0_4, .int .i64 a0_5] 67 (0, 0)) (by (with_reducible repeat (first | refine blk_drewN ?_ _ | refine blk_drew ?_ | refine blk_alloc ?_ _)); exact BK564.out) hb); have n1_ := Aside0.mk (below_step (by repeat (first | (with_reducible first | exact HB.out | apply below_alloc | apply pw_below_drewN | apply below_drew1 | refine below_set ?_ GE564.out) | exact HB.out)) hb); clear BK564; clear HB; have BK564 := n0_; have HB := n1_; clear n0_ n1_; (try clear hb); (try clear hb2); (try clear hk); (try clear hi); have hcz47_0 : w46.cell? ⟨gb564, 0, none⟩ = some (.int .i64 a0_0) := (blk_cell BK564.out 0).trans rfl; have hcz47_1 : w46.cell? ⟨gb564, 1, none⟩ = some (.string a0_1) := (blk_cell BK564.out 1).trans rfl; have hcz47_2 : w46.cell? ⟨gb564, 2, none⟩ = some (.int .i64 a0_2) := (blk_cell BK564.out 2).trans rfl; have hcz47_3 : w46.cell? ⟨gb564, 3, none⟩ = some (.string a0_3) := (blk_cell BK564.out 3).trans rfl; have hcz47_4 : w46.cell? ⟨gb564, 4, none⟩ = some (.int .i64 a0_4) := (blk_cell BK564.out 4).trans rfl; have hcz47_5 : w46.cell? ⟨gb564, 5, none⟩ = some (.int .i64 a0_5) := (blk_cell BK564.out 5).trans rfl; have hfz47_0 := blk_frozen BK564.out 0; have hfz47_1 := blk_frozen BK564.out 1; have hfz47_2 := blk_frozen BK564.out 2; have hfz47_3 := blk_frozen BK564.out 3; have hfz47_4 := blk_frozen BK564.out 4; have hfz47_5 := blk_frozen BK564.out 5) | (go_at_call 63; (with_reducible refine (impl_genOk.calls k a0_2 a0_3 true _ ?side1 A4.out).mono ?_); (case side1 => exact GW.below HGW.out (by repeat (first | (with_reducible first | exact HB.out | apply below_alloc | apply pw_below_drewN | apply below_drew1 | refine below_set ?_ GE564.out) | exact HB.out))); rintro e w48 ⟨rfl, hb⟩; have n0_ := Aside0.mk (blk_below (g := gb564) (o := .cells #[.int .i64 a0_0, .string a0_1, .int .i64 a0_2, .string a0_3, .int .i64 a0_4, .int .i64 a0_5] 67 (0, 0)) (by (with_reducible repeat (first | refine blk_drewN ?_ _ | refine blk_drew ?_ | refine blk_alloc ?_ _)); exact BK564.out) hb); have n1_ := Aside0.mk (below_step (by repeat (first | (with_reducible first | exact HB.out | apply below_alloc | apply pw_below_drewN | apply below_drew1 | refine below_set ?_ GE564.out) | exact HB.out)) hb); clear BK564; clear HB; have BK564 := n0_; have HB := n1_; clear n0_ n1_; (try clear hb); (try clear hb2); (try clear hk); (try clear hi); have hcz49_0 : w48.cell? ⟨gb564, 0, none⟩ = some (.int .i64 a0_0) := (blk_cell BK564.out 0).trans rfl; have hcz49_1 : w48.cell? ⟨gb564, 1, none⟩ = some (.string a0_1) := (blk_cell BK564.out 1).trans rfl; have hcz49_2 : w48.cell? ⟨gb564, 2, none⟩ = some (.int .i64 a0_2) := (blk_cell BK564.out 2).trans rfl; have hcz49_3 : w48.cell? ⟨gb564, 3, none⟩ = some (.string a0_3) := (blk_cell BK564.out 3).trans rfl; have hcz49_4 : w48.cell? ⟨gb564, 4, none⟩ = some (.int .i64 a0_4) := (blk_cell BK564.out 4).trans rfl; have hcz49_5 : w48.cell? ⟨gb564, 5, none⟩ = some (.int .i64 a0_5) := (blk_cell BK564.out 5).trans rfl; have hfz49_0 := blk_frozen BK564.out 0; have hfz49_1 := blk_frozen BK564.out 1; have hfz49_2 := blk_frozen BK564.out 2; have hfz49_3 := blk_frozen BK564.out 3; have hfz49_4 := blk_frozen BK564.out 4; have hfz49_5 := blk_frozen BK564.out 5) | (go_at_call 49; (with_reducible refine (impl_isIn.calls a0_4 0 60000 true _ A6.out).mono ?_); rintro e w' ⟨rfl, ⟨nd, rfl⟩⟩) | (go_at_call 49; (with_reducible refine (impl_isIn.calls a0_5 0 1 false _ A8.out).mono ?_); rintro e w' ⟨rfl, ⟨nd, rfl⟩⟩))
          go_ret
          exact ⟨by first | rfl | (simp [errW_none, errW_some] <;> rfl) | (simp [*, errW_none, errW_some] <;> rfl), by repeat (first | (with_reducible first | exact HB.out | apply below_alloc | apply pw_below_drewN | apply below_drew1 | refine below_set ?_ GE564.out) | exact HB.out)⟩
      · replace c7 := Bool.eq_false_iff.mpr c7
        subst c7
        have H1 : (some false) = some r := by rw [if_neg (show ¬ (false = true) by decide)] at H; exact H
        clear H
        have H := H1
        clear H1
        obtain rfl := Option.some.inj H
        go_enter Tryd.func40, Tryd.ntmps40
        go_wp2_with (first | ((with_reducible refine gate_dst (N := 1) rfl ?_); refine box_event ?hg (N := 1) ?hd (cs := #[.int .i64 a0_0, .string a0_1, .int .i64 a0_2, .string a0_3, .int .i64 a0_4, .int .i64 a0_5]) (t := 67) ?hr ?_; (case hd => rfl); (case hg => rfl); (case hr => first | (go_simp; done) | (go_simp; rfl)); intro gb564 hg w50 hbox hb; have n0_ := Aside0.mk (below_step (by repeat (first | (with_reducible first | exact HB.out | apply below_alloc | apply pw_below_drewN | apply below_drew1) | exact HB.out)) hb); have n1_ := Aside0.mk (hbox); have n2_ := Aside0.mk ((by rw [hg]; exact (below_size (by repeat (first | (with_reducible first | exact HB.out | apply below_alloc | apply pw_below_drewN | apply below_drew1) | exact HB.out))) : w.heap.size ≤ gb564)); have n3_ := Aside0.mk ((by rw [hg]; exact (below_size (by repeat (first | (with_reducible first | exact HB.out | apply below_alloc | apply pw_below_drewN | apply below_drew1) | exact HB.out))) : w.heap.size ≤ gb564)); clear HB; have HB := n0_; have BK564 := n1_; have GW564 := n2_; have GE564 := n3_; clear n0_ n1_ n2_ n3_; clear hb hbox hg; have hcz51_0 : w50.cell? ⟨gb564, 0, none⟩ = some (.int .i64 a0_0) := (blk_cell BK564.out 0).trans rfl; have hcz51_1 : w50.cell? ⟨gb564, 1, none⟩ = some (.string a0_1) := (blk_cell BK564.out 1).trans rfl; have hcz51_2 : w50.cell? ⟨gb564, 2, none⟩ = some (.int .i64 a0_2) := (blk_cell BK564.out 2).trans rfl; have hcz51_3 : w50.cell? ⟨gb564, 3, none⟩ = some (.string a0_3) := (blk_cell BK564.out 3).trans rfl; have hcz51_4 : w50.cell? ⟨gb564, 4, none⟩ = some (.int .i64 a0_4) := (blk_cell BK564.out 4).trans rfl; have hcz51_5 : w50.cell? ⟨gb564, 5, none⟩ = some (.int .i64 a0_5) := (blk_cell BK564.out 5).trans rfl; have hfz51_0 := blk_frozen BK564.out 0; have hfz51_1 := blk_frozen BK564.out 1; have hfz51_2 := blk_frozen BK564.out 2; have hfz51_3 := blk_frozen BK564.out 3; have hfz51_4 := blk_frozen BK564.out 4; have hfz51_5 := blk_frozen BK564.out 5) | ((with_reducible refine gate_callee (f := 63) rfl ?_); refine goesL_ (some 7) rfl rfl Tryd.func63 (by kernel_rfl) rfl #[.int .i64 a0_0, .string a0_1] rfl (by (try simp only [List.map_toArray, List.map_cons, List.map_nil]); first | done | rfl | (simp only [List.length_drop, List.length_take]; rfl)) ?_; (with_reducible refine (impl_genOk.calls k a0_0 a0_1 true _ ?side1 A2.out).mono ?_); (case side1 => exact GW.below HGW.out (by repeat (first | (with_reducible first | exact HB.out | apply below_alloc | apply pw_below_drewN | apply below_drew1 | refine below_set ?_ GE564.out) | exact HB.out))); rintro e w52 ⟨rfl, hb⟩; refine ⟨_, rfl, ?_⟩; have n0_ := Aside0.mk (blk_below (g := gb564) (o := .cells #[.int .i64 a0_0, .string a0_1, .int .i64 a0_2, .string a0_3, .int .i64 a0_4, .int .i64 a0_5] 67 (0, 0)) (by (with_reducible repeat (first | refine blk_drewN ?_ _ | refine blk_drew ?_ | refine blk_alloc ?_ _)); exact BK564.out) hb); have n1_ := Aside0.mk (below_step (by repeat (first | (with_reducible first | exact HB.out | apply below_alloc | apply pw_below_drewN | apply below_drew1 | refine below_set ?_ GE564.out) | exact HB.out)) hb); clear BK564; clear HB; have BK564 := n0_; have HB := n1_; clear n0_ n1_; (try clear hb); (try clear hb2); (try clear hk); (try clear hi); have hcz53_0 : w52.cell? ⟨gb564, 0, none⟩ = some (.int .i64 a0_0) := (blk_cell BK564.out 0).trans rfl; have hcz53_1 : w52.cell? ⟨gb564, 1, none⟩ = some (.string a0_1) := (blk_cell BK564.out 1).trans rfl; have hcz53_2 : w52.cell? ⟨gb564, 2, none⟩ = some (.int .i64 a0_2) := (blk_cell BK564.out 2).trans rfl; have hcz53_3 : w52.cell? ⟨gb564, 3, none⟩ = some (.string a0_3) := (blk_cell BK564.out 3).trans rfl; have hcz53_4 : w52.cell? ⟨gb564, 4, none⟩ = some (.int .i64 a0_4) := (blk_cell BK564.out 4).trans rfl; have hcz53_5 : w52.cell? ⟨gb564, 5, none⟩ = some (.int .i64 a0_5) := (blk_cell BK564.out 5).trans rfl; have hfz53_0 := blk_frozen BK564.out 0; have hfz53_1 := blk_frozen BK564.out 1; have hfz53_2 := blk_frozen BK564.out 2; have hfz53_3 := blk_frozen BK564.out 3; have hfz53_4 := blk_frozen BK564.out 4; have hfz53_5 := blk_frozen BK564.out 5) | (go_at_call 63; (with_reducible refine (impl_genOk.calls k a0_2 a0_3 true _ ?side1 A4.out).mono ?_); (case side1 => exact GW.below HGW.out (by repeat (first | (with_reducible first | exact HB.out | apply below_alloc | apply pw_below_drewN | apply below_drew1 | refine below_set ?_ GE564.out) | exact HB.out))); rintro e w54 ⟨rfl, hb⟩; have n0_ := Aside0.mk (blk_below (g := gb564) (o := .cells #[.int .i64 a0_0, .string a0_1, .int .i64 a0_2, .string a0_3, .int .i64 a0_4, .int .i64 a0_5] 67 (0, 0)) (by (with_reducible repeat (first | refine blk_drewN ?_ _ | refine blk_drew ?_ | refine blk_alloc ?_ _)); exact BK564.out) hb); have n1_ := Aside0.mk (below_step (by repeat (first | (with_reducible first | exact HB.out | apply below_alloc | apply pw_below_drewN | apply below_drew1 | refine below_set ?_ GE564.out) | exact HB.out)) hb); clear BK564; clear HB; have BK564 := n0_; have HB := n1_; clear n0_ n1_; (try clear hb); (try clear hb2); (try clear hk); (try clear hi); have hcz55_0 : w54.cell? ⟨gb564, 0, none⟩ = some (.int .i64 a0_0) := (blk_cell BK564.out 0).trans rfl; have hcz55_1 : w54.cell? ⟨gb564, 1, none⟩ = some (.string a0_1) := (blk_cell BK564.out 1).trans rfl; have hcz55_2 : w54.cell? ⟨gb564, 2, none⟩ = some (.int .i64 a0_2) := (blk_cell BK564.out 2).trans rfl; have hcz55_3 : w54.cell? ⟨gb564, 3, none⟩ = some (.string a0_3) := (blk_cell BK564.out 3).trans rfl; have hcz55_4 : w54.cell? ⟨gb564, 4, none⟩ = some (.int .i64 a0_4) := (blk_cell BK564.out 4).trans rfl; have hcz55_5 : w54.cell? ⟨gb564, 5, none⟩ = some (.int .i64 a0_5) := (blk_cell BK564.out 5).trans rfl; have hfz55_0 := blk_frozen BK564.out 0; have hfz55_1 := blk_frozen BK564.out 1; have hfz55_2 := blk_frozen BK564.out 2; have hfz55_3 := blk_frozen BK564.out 3; have hfz55_4 := blk_frozen BK564.out 4; have hfz55_5 := blk_frozen BK564.out 5) | (go_at_call 49; (with_reducible refine (impl_isIn.calls a0_4 0 60000 false _ A6.out).mono ?_); rintro e w' ⟨rfl, ⟨nd, rfl⟩⟩))
        go_ret
        exact ⟨by first | rfl | (simp [errW_none, errW_some] <;> rfl) | (simp [*, errW_none, errW_some] <;> rfl), by repeat (first | (with_reducible first | exact HB.out | apply below_alloc | apply pw_below_drewN | apply below_drew1 | refine below_set ?_ GE564.out) | exact HB.out)⟩
    · replace c5 := Bool.eq_false_iff.mpr c5
      subst c5
      have H1 : (some false) = some r := by rw [if_neg (show ¬ (false = true) by decide)] at H; exact H
      clear H
      have H := H1
      clear H1
      obtain rfl := Option.some.inj H
      go_enter Tryd.func40, Tryd.ntmps40
      go_wp2_with (first | ((with_reducible refine gate_dst (N := 1) rfl ?_); refine box_event ?hg (N := 1) ?hd (cs := #[.int .i64 a0_0, .string a0_1, .int .i64 a0_2, .string a0_3, .int .i64 a0_4, .int .i64 a0_5]) (t := 67) ?hr ?_; (case hd => rfl); (case hg => rfl); (case hr => first | (go_simp; done) | (go_simp; rfl)); intro gb564 hg w56 hbox hb; have n0_ := Aside0.mk (below_step (by repeat (first | (with_reducible first | exact HB.out | apply below_alloc | apply pw_below_drewN | apply below_drew1) | exact HB.out)) hb); have n1_ := Aside0.mk (hbox); have n2_ := Aside0.mk ((by rw [hg]; exact (below_size (by repeat (first | (with_reducible first | exact HB.out | apply below_alloc | apply pw_below_drewN | apply below_drew1) | exact HB.out))) : w.heap.size ≤ gb564)); have n3_ := Aside0.mk ((by rw [hg]; exact (below_size (by repeat (first | (with_reducible first | exact HB.out | apply below_alloc | apply pw_below_drewN | apply below_drew1) | exact HB.out))) : w.heap.size ≤ gb564)); clear HB; have HB := n0_; have BK564 := n1_; have GW564 := n2_; have GE564 := n3_; clear n0_ n1_ n2_ n3_; clear hb hbox hg; have hcz57_0 : w56.cell? ⟨gb564, 0, none⟩ = some (.int .i64 a0_0) := (blk_cell BK564.out 0).trans rfl; have hcz57_1 : w56.cell? ⟨gb564, 1, none⟩ = some (.string a0_1) := (blk_cell BK564.out 1).trans rfl; have hcz57_2 : w56.cell? ⟨gb564, 2, none⟩ = some (.int .i64 a0_2) := (blk_cell BK564.out 2).trans rfl; have hcz57_3 : w56.cell? ⟨gb564, 3, none⟩ = some (.string a0_3) := (blk_cell BK564.out 3).trans rfl; have hcz57_4 : w56.cell? ⟨gb564, 4, none⟩ = some (.int .i64 a0_4) := (blk_cell BK564.out 4).trans rfl; have hcz57_5 : w56.cell? ⟨gb564, 5, none⟩ = some (.int .i64 a0_5) := (blk_cell BK564.out 5).trans rfl; have hfz57_0 := blk_frozen BK564.out 0; have hfz57_1 := blk_frozen BK564.out 1; have hfz57_2 := blk_frozen BK564.out 2; have hfz57_3 := blk_frozen BK564.out 3; have hfz57_4 := blk_frozen BK564.out 4; have hfz57_5 := blk_frozen BK564.out 5) | ((with_reducible refine gate_callee (f := 63) rfl ?_); refine goesL_ (some 7) rfl rfl Tryd.func63 (by kernel_rfl) rfl #[.int .i64 a0_0, .string a0_1] rfl (by (try simp only [List.map_toArray, List.map_cons, List.map_nil]); first | done | rfl | (simp only [List.length_drop, List.length_take]; rfl)) ?_; (with_reducible refine (impl_genOk.calls k a0_0 a0_1 true _ ?side1 A2.out).mono ?_); (case side1 => exact GW.below HGW.out (by repeat (first | (with_reducible first | exact HB.out | apply below_alloc | apply pw_below_drewN | apply below_drew1 | refine below_set ?_ GE564.out) | exact HB.out))); rintro e w58 ⟨rfl, hb⟩; refine ⟨_, rfl, ?_⟩; have n0_ := Aside0.mk (blk_below (g := gb564) (o := .cells #[.int .i64 a0_0, .string a0_1, .int .i64 a0_2, .string a0_3, .int .i64 a0_4, .int .i64 a0_5] 67 (0, 0)) (by (with_reducible repeat (first | refine blk_drewN ?_ _ | refine blk_drew ?_ | refine blk_alloc ?_ _)); exact BK564.out) hb); have n1_ := Aside0.mk (below_step (by repeat (first | (with_reducible first | exact HB.out | apply below_alloc | apply pw_below_drewN | apply below_drew1 | refine below_set ?_ GE564.out) | exact HB.out)) hb); clear BK564; clear HB; have BK564 := n0_; have HB := n1_; clear n0_ n1_; (try clear hb); (try clear hb2); (try clear hk); (try clear hi); have hcz59_0 : w58.cell? ⟨gb564, 0, none⟩ = some (.int .i64 a0_0) := (blk_cell BK564.out 0).trans rfl; have hcz59_1 : w58.cell? ⟨gb564, 1, none⟩ = some (.string a0_1) := (blk_cell BK564.out 1).trans rfl; have hcz59_2 : w58.cell? ⟨gb564, 2, none⟩ = some (.int .i64 a0_2) := (blk_cell BK564.out 2).trans rfl; have hcz59_3 : w58.cell? ⟨gb564, 3, none⟩ = some (.string a0_3) := (blk_cell BK564.out 3).trans rfl; have hcz59_4 : w58.cell? ⟨gb564, 4, none⟩ = some (.int .i64 a0_4) := (blk_cell BK564.out 4).trans rfl; have hcz59_5 : w58.cell? ⟨gb564, 5, none⟩ = some (.int .i64 a0_5) := (blk_cell BK564.out 5).trans rfl; have hfz59_0 := blk_frozen BK564.out 0; have hfz59_1 := blk_frozen BK564.out 1; have hfz59_2 := blk_frozen BK564.out 2; have hfz59_3 := blk_frozen BK564.out 3; have hfz59_4 := blk_frozen BK564.out 4; have hfz59_5 := blk_frozen BK564.out 5) | (go_at_call 63; (with_reducible refine (impl_genOk.calls k a0_2 a0_3 false _ ?side1 A4.out).mono ?_); (case side1 => exact GW.below HGW.out (by repeat (first | (with_reducible first | exact HB.out | apply below_alloc | apply pw_below_drewN | apply below_drew1 | refine below_set ?_ GE564.out) | exact HB.out))); rintro e w60 ⟨rfl, hb⟩; have n0_ := Aside0.mk (blk_below (g := gb564) (o := .cells #[.int .i64 a0_0, .string a0_1, .int .i64 a0_2, .string a0_3, .int .i64 a0_4, .int .i64 a0_5] 67 (0, 0)) (by (with_reducible repeat (first | refine blk_drewN ?_ _ | refine blk_drew ?_ | refine blk_alloc ?_ _)); exact BK564.out) hb); have n1_ := Aside0.mk (below_step (by repeat (first | (with_reducible first | exact HB.out | apply below_alloc | apply pw_below_drewN | apply below_drew1 | refine below_set ?_ GE564.out) | exact HB.out)) hb); clear BK564; clear HB; have BK564 := n0_; have HB := n1_; clear n0_ n1_; (try clear hb); (try clear hb2); (try clear hk); (try clear hi)))
      go_ret
      exact ⟨by first | rfl | (simp [errW_none, errW_some] <;> rfl) | (simp [*, errW_none, errW_some] <;> rfl), by repeat (first | (with_reducible first | exact HB.out | apply below_alloc | apply pw_below_drewN | apply below_drew1 | refine below_set ?_ GE564.out) | exact HB.out)⟩
  · replace c3 := Bool.eq_false_iff.mpr c3
    subst c3
    have H1 : (some false) = some r := by rw [if_neg (show ¬ (false = true) by decide)] at H; exact H
    clear H
    have H := H1
    clear H1
    obtain rfl := Option.some.inj H
    go_enter Tryd.func40, Tryd.ntmps40
    go_wp2_with (first | ((with_reducible refine gate_dst (N := 1) rfl ?_); refine box_event ?hg (N := 1) ?hd (cs := #[.int .i64 a0_0, .string a0_1, .int .i64 a0_2, .string a0_3, .int .i64 a0_4, .int .i64 a0_5]) (t := 67) ?hr ?_; (case hd => rfl); (case hg => rfl); (case hr => first | (go_simp; done) | (go_simp; rfl)); intro gb564 hg w61 hbox hb; have n0_ := Aside0.mk (below_step (by repeat (first | (with_reducible first | exact HB.out | apply below_alloc | apply pw_below_drewN | apply below_drew1) | exact HB.out)) hb); have n1_ := Aside0.mk (hbox); have n2_ := Aside0.mk ((by rw [hg]; exact (below_size (by repeat (first | (with_reducible first | exact HB.out | apply below_alloc | apply pw_below_drewN | apply below_drew1) | exact HB.out))) : w.heap.size ≤ gb564)); have n3_ := Aside0.mk ((by rw [hg]; exact (below_size (by repeat (first | (with_reducible first | exact HB.out | apply below_alloc | apply pw_below_drewN | apply below_drew1) | exact HB.out))) : w.heap.size ≤ gb564)); clear HB; have HB := n0_; have BK564 := n1_; have GW564 := n2_; have GE564 := n3_; clear n0_ n1_ n2_ n3_; clear hb hbox hg; have hcz62_0 : w61.cell? ⟨gb564, 0, none⟩ = some (.int .i64 a0_0) := (blk_cell BK564.out 0).trans rfl; have hcz62_1 : w61.cell? ⟨gb564, 1, none⟩ = some (.string a0_1) := (blk_cell BK564.out 1).trans rfl; have hcz62_2 : w61.cell? ⟨gb564, 2, none⟩ = some (.int .i64 a0_2) := (blk_cell BK564.out 2).trans rfl; have hcz62_3 : w61.cell? ⟨gb564, 3, none⟩ = some (.string a0_3) := (blk_cell BK564.out 3).trans rfl; have hcz62_4 : w61.cell? ⟨gb564, 4, none⟩ = some (.int .i64 a0_4) := (blk_cell BK564.out 4).trans rfl; have hcz62_5 : w61.cell? ⟨gb564, 5, none⟩ = some (.int .i64 a0_5) := (blk_cell BK564.out 5).trans rfl; have hfz62_0 := blk_frozen BK564.out 0; have hfz62_1 := blk_frozen BK564.out 1; have hfz62_2 := blk_frozen BK564.out 2; have hfz62_3 := blk_frozen BK564.out 3; have hfz62_4 := blk_frozen BK564.out 4; have hfz62_5 := blk_frozen BK564.out 5) | ((with_reducible refine gate_callee (f := 63) rfl ?_); refine goesL_ (some 7) rfl rfl Tryd.func63 (by kernel_rfl) rfl #[.int .i64 a0_0, .string a0_1] rfl (by (try simp only [List.map_toArray, List.map_cons, List.map_nil]); first | done | rfl | (simp only [List.length_drop, List.length_take]; rfl)) ?_; (with_reducible refine (impl_genOk.calls k a0_0 a0_1 false _ ?side1 A2.out).mono ?_); (case side1 => exact GW.below HGW.out (by repeat (first | (with_reducible first | exact HB.out | apply below_alloc | apply pw_below_drewN | apply below_drew1 | refine below_set ?_ GE564.out) | exact HB.out))); rintro e w63 ⟨rfl, hb⟩; refine ⟨_, rfl, ?_⟩; have n0_ := Aside0.mk (blk_below (g := gb564) (o := .cells #[.int .i64 a0_0, .string a0_1, .int .i64 a0_2, .string a0_3, .int .i64 a0_4, .int .i64 a0_5] 67 (0, 0)) (by (with_reducible repeat (first | refine blk_drewN ?_ _ | refine blk_drew ?_ | refine blk_alloc ?_ _)); exact BK564.out) hb); have n1_ := Aside0.mk (below_step (by repeat (first | (with_reducible first | exact HB.out | apply below_alloc | apply pw_below_drewN | apply below_drew1 | refine below_set ?_ GE564.out) | exact HB.out)) hb); clear BK564; clear HB; have BK564 := n0_; have HB := n1_; clear n0_ n1_; (try clear hb); (try clear hb2); (try clear hk); (try clear hi)))
    go_ret
    exact ⟨by first | rfl | (simp [errW_none, errW_some] <;> rfl) | (simp [*, errW_none, errW_some] <;> rfl), by repeat (first | (with_reducible first | exact HB.out | apply below_alloc | apply pw_below_drewN | apply below_drew1 | refine below_set ?_ GE564.out) | exact HB.out)⟩

/-! ### laws_FnExactKnownOk: function 7 -/
theorem laws_FnExactKnownOk.mono : ∀ a0 a1 a2 a3 a4 a5 k, LeO (laws_FnExactKnownOk.f k a0 a1 a2 a3 a4 a5) (laws_FnExactKnownOk.f (k + 1) a0 a1 a2 a3 a4 a5) := by
  intro a0 a1 a2 a3 a4 a5 k
  unfold laws_FnExactKnownOk.f
  repeat' first
      | (with_reducible exact impl_KnownOk.mono _ _ _ _ _ _ _)
      | (with_reducible exact spec_KnownOk.mono _ _ _ _ _ _ _)
      | (with_reducible exact LeO.refl _)
      | (with_reducible exact LeO.none _)
      | (with_reducible refine LeO.ite ?_ ?_)
      | (with_reducible refine LeO.bind ?_ (fun _ => ?_))
      | exact impl_KnownOk.mono _ _ _ _ _ _ _
      | exact spec_KnownOk.mono _ _ _ _ _ _ _
      | exact LeO.none _
      | refine LeO.ite ?_ ?_
      | refine LeO.bind ?_ (fun _ => ?_)
set_option maxHeartbeats 8000000 in
set_option maxRecDepth 100000 in
theorem laws_FnExactKnownOk.calls (k : Nat) (a0_0 : Int) (a0_1 : ByteArray) (a0_2 : Int) (a0_3 : ByteArray) (a0_4 : Int) (a0_5 : Int) (r : Bool) (w : World) (hgw : GW w) (h : laws_FnExactKnownOk.f k a0_0 a0_1 a0_2 a0_3 a0_4 a0_5 = some r) :
    Calls Tryd.prog 7 #[.agg #[.int .i64 a0_0, .string a0_1, .int .i64 a0_2, .string a0_3, .int .i64 a0_4, .int .i64 a0_5]] w fun e w' => e = .returned (.bool r) ∧ Below w.heap.size w w' := by
  have HGW := Aside0.mk hgw
  clear hgw
  have hu64 := Tryd.underlying64
  have HB := Aside0.mk (Below.refl w.heap.size w)
  have H : ((laws_szKnown.f a0_0 a0_1 a0_2 a0_3 a0_4 a0_5 1048576).bind fun t570 => (if t570 < 0 then (some true) else ((laws_toKnown.f a0_0 a0_1 a0_2 a0_3 a0_4 a0_5).bind fun bt571 => ((spec_KnownOk.f k bt571.1 bt571.2.1 bt571.2.2.1 bt571.2.2.2.1 bt571.2.2.2.2.1 bt571.2.2.2.2.2).bind fun t577 => ((laws_toKnown.f a0_0 a0_1 a0_2 a0_3 a0_4 a0_5).bind fun bt578 => ((impl_KnownOk.f k bt578.1 bt578.2.1 bt578.2.2.1 bt578.2.2.2.1 bt578.2.2.2.2.1 bt578.2.2.2.2.2).bind fun t584 => (if (t584 != t577) = true then (some false) else (some true)))))))) = some r := h
  clear h
  replace H := Option.bind_eq_some_iff.mp H
  obtain ⟨t570, A20, H⟩ := H
  replace H : (if t570 < 0 then (some true) else ((laws_toKnown.f a0_0 a0_1 a0_2 a0_3 a0_4 a0_5).bind fun bt571 => ((spec_KnownOk.f k bt571.1 bt571.2.1 bt571.2.2.1 bt571.2.2.2.1 bt571.2.2.2.2.1 bt571.2.2.2.2.2).bind fun t577 => ((laws_toKnown.f a0_0 a0_1 a0_2 a0_3 a0_4 a0_5).bind fun bt578 => ((impl_KnownOk.f k bt578.1 bt578.2.1 bt578.2.2.1 bt578.2.2.2.1 bt578.2.2.2.2.1 bt578.2.2.2.2.2).bind fun t584 => (if (t584 != t577) = true then (some false) else (some true))))))) = some r := H
  have A2 := Aside0.mk A20
  clear A20
  by_cases c3 : t570 < 0
  · rw [if_pos c3] at H
    have c3b0 : decide (t570 < 0) = true := decide_eq_true c3
    clear c3
    obtain rfl := Option.some.inj H
    go_enter Tryd.func7, Tryd.ntmps7
    go_wp2_with (first | ((with_reducible refine gate_dst (N := 1) rfl ?_); refine box_event ?hg (N := 1) ?hd (cs := #[.int .i64 a0_0, .string a0_1, .int .i64 a0_2, .string a0_3, .int .i64 a0_4, .int .i64 a0_5]) (t := 64) ?hr ?_; (case hd => rfl); (case hg => rfl); (case hr => first | (go_simp; done) | (go_simp; rfl)); intro gb569 hg w4 hbox hb; have n0_ := Aside0.mk (below_step (by repeat (first | (with_reducible first | exact HB.out | apply below_alloc | apply pw_below_drewN | apply below_drew1) | exact HB.out)) hb); have n1_ := Aside0.mk (hbox); have n2_ := Aside0.mk ((by rw [hg]; exact (below_size (by repeat (first | (with_reducible first | exact HB.out | apply below_alloc | apply pw_below_drewN | apply below_drew1) | exact HB.out))) : w.heap.size ≤ gb569)); have n3_ := Aside0.mk ((by rw [hg]; exact (below_size (by repeat (first | (with_reducible first | exact HB.out | apply below_alloc | apply pw_below_drewN | apply below_drew1) | exact HB.out))) : w.heap.size ≤ gb569)); clear HB; have HB := n0_; have BK569 := n1_; have GW569 := n2_; have GE569 := n3_; clear n0_ n1_ n2_ n3_; clear hb hbox hg; have hcz5_0 : w4.cell? ⟨gb569, 0, none⟩ = some (.int .i64 a0_0) := (blk_cell BK569.out 0).trans rfl; have hcz5_1 : w4.cell? ⟨gb569, 1, none⟩ = some (.string a0_1) := (blk_cell BK569.out 1).trans rfl; have hcz5_2 : w4.cell? ⟨gb569, 2, none⟩ = some (.int .i64 a0_2) := (blk_cell BK569.out 2).trans rfl; have hcz5_3 : w4.cell? ⟨gb569, 3, none⟩ = some (.string a0_3) := (blk_cell BK569.out 3).trans rfl; have hcz5_4 : w4.cell? ⟨gb569, 4, none⟩ = some (.int .i64 a0_4) := (blk_cell BK569.out 4).trans rfl; have hcz5_5 : w4.cell? ⟨gb569, 5, none⟩ = some (.int .i64 a0_5) := (blk_cell BK569.out 5).trans rfl; have hfz5_0 := blk_frozen BK569.out 0; have hfz5_1 := blk_frozen BK569.out 1; have hfz5_2 := blk_frozen BK569.out 2; have hfz5_3 := blk_frozen BK569.out 3; have hfz5_4 := blk_frozen BK569.out 4; have hfz5_5 := blk_frozen BK569.out 5) | ((with_reducible refine gate_callee (f := 37) rfl ?_); refine goesL_ (some 8) rfl rfl Tryd.func37 (by kernel_rfl) rfl #[.agg #[.int .i64 a0_0, .string a0_1, .int .i64 a0_2, .string a0_3, .int .i64 a0_4, .int .i64 a0_5], .int .i64 1048576] rfl (by (try simp only [List.map_toArray, List.map_cons, List.map_nil]); first | done | rfl | (simp only [List.length_drop, List.length_take]; rfl)) ?_; (with_reducible refine (laws_szKnown.calls a0_0 a0_1 a0_2 a0_3 a0_4 a0_5 1048576 t570 _ A2.out).mono ?_); rintro e w6 ⟨rfl, hb⟩; refine ⟨_, rfl, ?_⟩; have n0_ := Aside0.mk (blk_below (g := gb569) (o := .cells #[.int .i64 a0_0, .string a0_1, .int .i64 a0_2, .string a0_3, .int .i64 a0_4, .int .i64 a0_5] 64 (0, 0)) (by (with_reducible repeat (first | refine blk_drewN ?_ _ | refine blk_drew ?_ | refine blk_alloc ?_ _)); exact BK569.out) hb); have n1_ := Aside0.mk (below_step (by repeat (first | (with_reducible first | exact HB.out | apply below_alloc | apply pw_below_drewN | apply below_drew1 | refine below_set ?_ GE569.out) | exact HB.out)) hb); clear BK569; clear HB; have BK569 := n0_; have HB := n1_; clear n0_ n1_; (try clear hb); (try clear hb2); (try clear hk); (try clear hi)))
    go_ret
    exact ⟨by first | rfl | (simp [errW_none, errW_some] <;> rfl) | (simp [*, errW_none, errW_some] <;> rfl), by repeat (first | (with_reducible first | exact HB.out | apply below_alloc | apply pw_below_drewN | apply below_drew1 | refine below_set ?_ GE569.out) | exact HB.out)⟩
  · rw [if_neg c3] at H
    have c3b0 : decide (t570 < 0) = false := decide_eq_false c3
    clear c3
    replace H := Option.bind_eq_some_iff.mp H
    obtain ⟨⟨t571, t572, t573, t574, t575, t576⟩, A70, H⟩ := H
    replace H : ((spec_KnownOk.f k t571 t572 t573 t574 t575 t576).bind fun t577 => ((laws_toKnown.f a0_0 a0_1 a0_2 a0_3 a0_4 a0_5).bind fun bt578 => ((impl_KnownOk.f k bt578.1 bt578.2.1 bt578.2.2.1 bt578.2.2.2.1 bt578.2.2.2.2.1 bt578.2.2.2.2.2).bind fun t584 => (if (t584 != t577) = true then (some false) else (some true))))) = some r := H
    have A7 := Aside0.mk A70
    clear A70
    replace H := Option.bind_eq_some_iff.mp H
    obtain ⟨t577, A80, H⟩ := H
    replace H : ((laws_toKnown.f a0_0 a0_1 a0_2 a0_3 a0_4 a0_5).bind fun bt578 => ((impl_KnownOk.f k bt578.1 bt578.2.1 bt578.2.2.1 bt578.2.2.2.1 bt578.2.2.2.2.1 bt578.2.2.2.2.2).bind fun t584 => (if (t584 != t577) = true then (some false) else (some true)))) = some r := H
    have A8 := Aside0.mk A80
    clear A80
    replace H := Option.bind_eq_some_iff.mp H
    obtain ⟨⟨t578, t579, t580, t581, t582, t583⟩, A90, H⟩ := H
    replace H : ((impl_KnownOk.f k t578 t579 t580 t581 t582 t583).bind fun t584 => (if (t584 != t577) = true then (some false) else (some true))) = some r := H
    have A9 := Aside0.mk A90
    clear A90
    replace H := Option.bind_eq_some_iff.mp H
    obtain ⟨t584, A100, H⟩ := H
    replace H : (if (t584 != t577) = true then (some false) else (some true)) = some r := H
    have A10 := Aside0.mk A100
    clear A100
    by_cases c11 : (t584 != t577) = true
    · rw [if_pos c11] at H
      have c11b0 : (t584 != t577) = true := c11
      (try (have c11b1 : decide (t584 = t577) = false := by simpa using c11))
      (try (have c11b2 : (t584 == t577) = false := by simpa using c11))
      (try (have c11b3 : ¬ (t584 = t577) := by simpa using c11))
      clear c11
      obtain rfl := Option.some.inj H
      go_enter Tryd.func7, Tryd.ntmps7
      go_wp2_with (first | ((with_reducible refine gate_dst (N := 1) rfl ?_); refine box_event ?hg (N := 1) ?hd (cs := #[.int .i64 a0_0, .string a0_1, .int .i64 a0_2, .string a0_3, .int .i64 a0_4, .int .i64 a0_5]) (t := 64) ?hr ?_; (case hd => rfl); (case hg => rfl); (case hr => first | (go_simp; done) | (go_simp; rfl)); intro gb569 hg w12 hbox hb; have n0_ := Aside0.mk (below_step (by repeat (first | (with_reducible first | exact HB.out | apply below_alloc | apply pw_below_drewN | apply below_drew1) | exact HB.out)) hb); have n1_ := Aside0.mk (hbox); have n2_ := Aside0.mk ((by rw [hg]; exact (below_size (by repeat (first | (with_reducible first | exact HB.out | apply below_alloc | apply pw_below_drewN | apply below_drew1) | exact HB.out))) : w.heap.size ≤ gb569)); have n3_ := Aside0.mk ((by rw [hg]; exact (below_size (by repeat (first | (with_reducible first | exact HB.out | apply below_alloc | apply pw_below_drewN | apply below_drew1) | exact HB.out))) : w.heap.size ≤ gb569)); clear HB; have HB := n0_; have BK569 := n1_; have GW569 := n2_; have GE569 := n3_; clear n0_ n1_ n2_ n3_; clear hb hbox hg; have hcz13_0 : w12.cell? ⟨gb569, 0, none⟩ = some (.int .i64 a0_0) := (blk_cell BK569.out 0).trans rfl; have hcz13_1 : w12.cell? ⟨gb569, 1, none⟩ = some (.string a0_1) := (blk_cell BK569.out 1).trans rfl; have hcz13_2 : w12.cell? ⟨gb569, 2, none⟩ = some (.int .i64 a0_2) := (blk_cell BK569.out 2).trans rfl; have hcz13_3 : w12.cell? ⟨gb569, 3, none⟩ = some (.string a0_3) := (blk_cell BK569.out 3).trans rfl; have hcz13_4 : w12.cell? ⟨gb569, 4, none⟩ = some (.int .i64 a0_4) := (blk_cell BK569.out 4).trans rfl; have hcz13_5 : w12.cell? ⟨gb569, 5, none⟩ = some (.int .i64 a0_5) := (blk_cell BK569.out 5).trans rfl; have hfz13_0 := blk_frozen BK569.out 0; have hfz13_1 := blk_frozen BK569.out 1; have hfz13_2 := blk_frozen BK569.out 2; have hfz13_3 := blk_frozen BK569.out 3; have hfz13_4 := blk_frozen BK569.out 4; have hfz13_5 := blk_frozen BK569.out 5) | ((with_reducible refine gate_callee (f := 37) rfl ?_); refine goesL_ (some 8) rfl rfl Tryd.func37 (by kernel_rfl) rfl #[.agg #[.int .i64 a0_0, .string a0_1, .int .i64 a0_2, .string a0_3, .int .i64 a0_4, .int .i64 a0_5], .int .i64 1048576] rfl (by (try simp only [List.map_toArray, List.map_cons, List.map_nil]); first | done | rfl | (simp only [List.length_drop, List.length_take]; rfl)) ?_; (with_reducible refine (laws_szKnown.calls a0_0 a0_1 a0_2 a0_3 a0_4 a0_5 1048576 t570 _ A2.out).mono ?_); rintro e w14 ⟨rfl, hb⟩; refine ⟨_, rfl, ?_⟩; have n0_ := Aside0.mk (blk_below (g := gb569) (o := .cells #[.int .i64 a0_0, .string a0_1, .int .i64 a0_2, .string a0_3, .int .i64 a0_4, .int .i64 a0_5] 64 (0, 0)) (by (with_reducible repeat (first | refine blk_drewN ?_ _ | refine blk_drew ?_ | refine blk_alloc ?_ _)); exact BK569.out) hb); have n1_ := Aside0.mk (below_step (by repeat (first | (with_reducible first | exact HB.out | apply below_alloc | apply pw_below_drewN | apply below_drew1 | refine below_set ?_ GE569.out) | exact HB.out)) hb); clear BK569; clear HB; have BK569 := n0_; have HB := n1_; clear n0_ n1_; (try clear hb); (try clear hb2); (try clear hk); (try clear hi); have hcz15_0 : w14.cell? ⟨gb569, 0, none⟩ = some (.int .i64 a0_0) := (blk_cell BK569.out 0).trans rfl; have hcz15_1 : w14.cell? ⟨gb569, 1, none⟩ = some (.string a0_1) := (blk_cell BK569.out 1).trans rfl; have hcz15_2 : w14.cell? ⟨gb569, 2, none⟩ = some (.int .i64 a0_2) := (blk_cell BK569.out 2).trans rfl; have hcz15_3 : w14.cell? ⟨gb569, 3, none⟩ = some (.string a0_3) := (blk_cell BK569.out 3).trans rfl; have hcz15_4 : w14.cell? ⟨gb569, 4, none⟩ = some (.int .i64 a0_4) := (blk_cell BK569.out 4).trans rfl; have hcz15_5 : w14.cell? ⟨gb569, 5, none⟩ = some (.int .i64 a0_5) := (blk_cell BK569.out 5).trans rfl; have hfz15_0 := blk_frozen BK569.out 0; have hfz15_1 := blk_frozen BK569.out 1; have hfz15_2 := blk_frozen BK569.out 2; have hfz15_3 := blk_frozen BK569.out 3; have hfz15_4 := blk_frozen BK569.out 4; have hfz15_5 := blk_frozen BK569.out 5) | ((with_reducible refine gate_callee (f := 39) rfl ?_); refine goesL_ (some 12) rfl rfl Tryd.func39 (by kernel_rfl) rfl #[.agg #[.int .i64 a0_0, .string a0_1, .int .i64 a0_2, .string a0_3, .int .i64 a0_4, .int .i64 a0_5]] rfl (by (try simp only [List.map_toArray, List.map_cons, List.map_nil]); first | done | rfl | (simp only [List.length_drop, List.length_take]; rfl)) ?_; (with_reducible refine (laws_toKnown.calls a0_0 a0_1 a0_2 a0_3 a0_4 a0_5 t571 t572 t573 t574 t575 t576 _ A7.out).mono ?_); rintro e w16 ⟨rfl, hb⟩; refine ⟨_, rfl, ?_⟩; have n0_ := Aside0.mk (blk_below (g := gb569) (o := .cells #[.int .i64 a0_0, .string a0_1, .int .i64 a0_2, .string a0_3, .int .i64 a0_4, .int .i64 a0_5] 64 (0, 0)) (by (with_reducible repeat (first | refine blk_drewN ?_ _ | refine blk_drew ?_ | refine blk_alloc ?_ _)); exact BK569.out) hb); have n1_ := Aside0.mk (below_step (by repeat (first | (with_reducible first | exact HB.out | apply below_alloc | apply pw_below_drewN | apply below_drew1 | refine below_set ?_ GE569.out) | exact HB.out)) hb); clear BK569; clear HB; have BK569 := n0_; have HB := n1_; clear n0_ n1_; (try clear hb); (try clear hb2); (try clear hk); (try clear hi)) | ((with_reducible refine gate_callee (f := 38) rfl ?_); refine goesL_ (some 13) rfl rfl Tryd.func38 (by kernel_rfl) rfl #[.agg #[.int .i64 t571, .string t572, .int .i64 t573, .string t574, .int .i64 t575, .int .i64 t576]] rfl (by (try simp only [List.map_toArray, List.map_cons, List.map_nil]); first | done | rfl | (simp only [List.length_drop, List.length_take]; rfl)) ?_; (with_reducible refine (spec_KnownOk.calls k t571 t572 t573 t574 t575 t576 t577 _ A8.out).mono ?_); rintro e w17 ⟨rfl, hb⟩; refine ⟨_, rfl, ?_⟩; have n0_ := Aside0.mk (blk_below (g := gb569) (o := .cells #[.int .i64 a0_0, .string a0_1, .int .i64 a0_2, .string a0_3, .int .i64 a0_4, .int .i64 a0_5] 64 (0, 0)) (by (with_reducible repeat (first | refine blk_drewN ?_ _ | refine blk_drew ?_ | refine blk_alloc ?_ _)); exact BK569.out) hb); have n1_ := Aside0.mk (below_step (by repeat (first | (with_reducible first | exact HB.out | apply below_alloc | apply pw_below_drewN | apply below_drew1 | refine below_set ?_ GE569.out) | exact HB.out)) hb); clear BK569; clear HB; have BK569 := n0_; have HB := n1_; clear n0_ n1_; (try clear hb); (try clear hb2); (try clear hk); (try clear hi); have hcz18_0 : w17.cell? ⟨gb569, 0, none⟩ = some (.int .i64 a0_0) := (blk_cell BK569.out 0).trans rfl; have hcz18_1 : w17.cell? ⟨gb569, 1, none⟩ = some (.string a0_1) := (blk_cell BK569.out 1).trans rfl; have hcz18_2 : w17.cell? ⟨gb569, 2, none⟩ = some (.int .i64 a0_2) := (blk_cell BK569.out 2).trans rfl; have hcz18_3 : w17.cell? ⟨gb569, 3, none⟩ = some (.string a0_3) := (blk_cell BK569.out 3).trans rfl; have hcz18_4 : w17.cell? ⟨gb569, 4, none⟩ = some (.int .i64 a0_4) := (blk_cell BK569.out 4).trans rfl; have hcz18_5 : w17.cell? ⟨gb569, 5, none⟩ = some (.int .i64 a0_5) := (blk_cell BK569.out 5).trans rfl; have hfz18_0 := blk_frozen BK569.out 0; have hfz18_1 := blk_frozen BK569.out 1; have hfz18_2 := blk_frozen BK569.out 2; have hfz18_3 := blk_frozen BK569.out 3; have hfz18_4 := blk_frozen BK569.out 4; have hfz18_5 := blk_frozen BK569.out 5) | ((with_reducible refine gate_callee (f := 39) rfl ?_); refine goesL_ (some 15) rfl rfl Tryd.func39 (by kernel_rfl) rfl #[.agg #[.int .i64 a0_0, .string a0_1, .int .i64 a0_2, .string a0_3, .int .i64 a0_4, .int .i64 a0_5]] rfl (by (try simp only [List.map_toArray, List.map_cons, List.map_nil]); first | done | rfl | (simp only [List.length_drop, List.length_take]; rfl)) ?_; (with_reducible refine (laws_toKnown.calls a0_0 a0_1 a0_2 a0_3 a0_4 a0_5 t578 t579 t580 t581 t582 t583 _ A9.out).mono ?_); rintro e w19 ⟨rfl, hb⟩; refine ⟨_, rfl, ?_⟩; have n0_ := Aside0.mk (blk_below (g := gb569) (o := .cells #[.int .i64 a0_0, .string a0_1, .int .i64 a0_2, .string a0_3, .int .i64 a0_4, .int .i64 a0_5] 64 (0, 0)) (by (with_reducible repeat (first | refine blk_drewN ?_ _ | refine blk_drew ?_ | refine blk_alloc ?_ _)); exact BK569.out) hb); have n1_ := Aside0.mk (below_step (by repeat (first | (with_reducible first | exact HB.out | apply below_alloc | apply pw_below_drewN | apply below_drew1 | refine below_set ?_ GE569.out) | exact HB.out)) hb); clear BK569; clear HB; have BK569 := n0_; have HB := n1_; clear n0_ n1_; (try clear hb); (try clear hb2); (try clear hk); (try clear hi)) | ((with_reducible refine gate_callee (f := 40) rfl ?_); refine goesL_ (some 16) rfl rfl Tryd.func40 (by kernel_rfl) rfl #[.agg #[.int .i64 t578, .string t579, .int .i64 t580, .string t581, .int .i64 t582, .int .i64 t583]] rfl (by (try simp only [List.map_toArray, List.map_cons, List.map_nil]); first | done | rfl | (simp only [List.length_drop, List.length_take]; rfl)) ?_; (with_reducible refine (impl_KnownOk.calls k t578 t579 t580 t581 t582 t583 t584 _ ?side1 A10.out).mono ?_); (case side1 => exact GW.below HGW.out (by repeat (first | (with_reducible first | exact HB.out | apply below_alloc | apply pw_below_drewN | apply below_drew1 | refine below_set ?_ GE569.out) | exact HB.out))); rintro e w20 ⟨rfl, hb⟩; refine ⟨_, rfl, ?_⟩; have n0_ := Aside0.mk (blk_below (g := gb569) (o := .cells #[.int .i64 a0_0, .string a0_1, .int .i64 a0_2, .string a0_3, .int .i64 a0_4, .int .i64 a0_5] 64 (0, 0)) (by (with_reducible repeat (first | refine blk_drewN ?_ _ | refine blk_drew ?_ | refine blk_alloc ?_ _)); exact BK569.out) hb); have n1_ := Aside0.mk (below_step (by repeat (first | (with_reducible first | exact HB.out | apply below_alloc | apply pw_below_drewN | apply below_drew1 | refine below_set ?_ GE569.out) | exact HB.out)) hb); clear BK569; clear HB; have BK569 := n0_; have HB := n1_; clear n0_ n1_; (try clear hb); (try clear hb2); (try clear hk); (try clear hi)))
      go_ret
      exact ⟨by first | rfl | (simp [errW_none, errW_some] <;> rfl) | (simp [*, errW_none, errW_some] <;> rfl), by repeat (first | (with_reducible first | exact HB.out | apply below_alloc | apply pw_below_drewN | apply below_drew1 | refine below_set ?_ GE569.out) | exact HB.out)⟩
    · rw [if_neg c11] at H
      have c11b0 : (t584 != t577) = false := by simpa using c11
      (try (have c11b1 : decide (t584 = t577) = true := by simpa using c11))
      (try (have c11b2 : (t584 == t577) = true := by simpa using c11))
      clear c11
      obtain rfl := Option.some.inj H
      go_enter Tryd.func7, Tryd.ntmps7
      go_wp2_with (first | ((with_reducible refine gate_dst (N := 1) rfl ?_); refine box_event ?hg (N := 1) ?hd (cs := #[.int .i64 a0_0, .string a0_1, .int .i64 a0_2, .string a0_3, .int .i64 a0_4, .int .i64 a0_5]) (t := 64) ?hr ?_; (case hd => rfl); (case hg => rfl); (case hr => first | (go_simp; done) | (go_simp; rfl)); intro gb569 hg w21 hbox hb; have n0_ := Aside0.mk (below_step (by repeat (first | (with_reducible first | exact HB.out | apply below_alloc | apply pw_below_drewN | apply below_drew1) | exact HB.out)) hb); have n1_ := Aside0.mk (hbox); have n2_ := Aside0.mk ((by rw [hg]; exact (below_size (by repeat (first | (with_reducible first | exact HB.out | apply below_alloc | apply pw_below_drewN | apply below_drew1) | exact HB.out))) : w.heap.size ≤ gb569)); have n3_ := Aside0.mk ((by rw [hg]; exact (below_size (by repeat (first | (with_reducible first | exact HB.out | apply below_alloc | apply pw_below_drewN | apply below_drew1) | exact HB.out))) : w.heap.size ≤ gb569)); clear HB; have HB := n0_; have BK569 := n1_; have GW569 := n2_; have GE569 := n3_; clear n0_ n1_ n2_ n3_; clear hb hbox hg; have hcz22_0 : w21.cell? ⟨gb569, 0, none⟩ = some (.int .i64 a0_0) := (blk_cell BK569.out 0).trans rfl; have hcz22_1 : w21.cell? ⟨gb569, 1, none⟩ = some (.string a0_1) := (blk_cell BK569.out 1).trans rfl; have hcz22_2 : w21.cell? ⟨gb569, 2, none⟩ = some (.int .i64 a0_2) := (blk_cell BK569.out 2).trans rfl; have hcz22_3 : w21.cell? ⟨gb569, 3, none⟩ = some (.string a0_3) := (blk_cell BK569.out 3).trans rfl; have hcz22_4 : w21.cell? ⟨gb569, 4, none⟩ = some (.int .i64 a0_4) := (blk_cell BK569.out 4).trans rfl; have hcz22_5 : w21.cell? ⟨gb569, 5, none⟩ = some (.int .i64 a0_5) := (blk_cell BK569.out 5).trans rfl; have hfz22_0 := blk_frozen BK569.out 0; have hfz22_1 := blk_frozen BK569.out 1; have hfz22_2 := blk_frozen BK569.out 2; have hfz22_3 := blk_frozen BK569.out 3; have hfz22_4 := blk_frozen BK569.out 4; have hfz22_5 := blk_frozen BK569.out 5) | ((with_reducible refine gate_callee (f := 37) rfl ?_); refine goesL_ (some 8) rfl rfl Tryd.func37 (by kernel_rfl) rfl #[.agg #[.int .i64 a0_0, .string a0_1, .int .i64 a0_2, .string a0_3, .int .i64 a0_4, .int .i64 a0_5], .int .i64 1048576] rfl (by (try simp only [List.map_toArray, List.map_cons, List.map_nil]); first | done | rfl | (simp only [List.length_drop, List.length_take]; rfl)) ?_; (with_reducible refine (laws_szKnown.calls a0_0 a0_1 a0_2 a0_3 a0_4 a0_5 1048576 t570 _ A2.out).mono ?_); rintro e w23 ⟨rfl, hb⟩; refine ⟨_, rfl, ?_⟩; have n0_ := Aside0.mk (blk_below (g := gb569) (o := .cells #[.int .i64 a0_0, .string a0_1, .int .i64 a0_2, .string a0_3, .int .i64 a0_4, .int .i64 a0_5] 64 (0, 0)) (by (with_reducible repeat (first | refine blk_drewN ?_ _ | refine blk_drew ?_ | refine blk_alloc ?_ _)); exact BK569.out) hb); have n1_ := Aside0.mk (below_step (by repeat (first | (with_reducible first | exact HB.out | apply below_alloc | apply pw_below_drewN | apply below_drew1 | refine below_set ?_ GE569.out) | exact HB.out)) hb); clear BK569; clear HB; have BK569 := n0_; have HB := n1_; clear n0_ n1_; (try clear hb); (try clear hb2); (try clear hk); (try clear hi); have hcz24_0 : w23.cell? ⟨gb569, 0, none⟩ = some (.int .i64 a0_0) := (blk_cell BK569.out 0).trans rfl; have hcz24_1 : w23.cell? ⟨gb569, 1, none⟩ = some (.string a0_1) := (blk_cell BK569.out 1).trans rfl; have hcz24_2 : w23.cell? ⟨gb569, 2, none⟩ = some (.int .i64 a0_2) := (blk_cell BK569.out 2).trans rfl; have hcz24_3 : w23.cell? ⟨gb569, 3, none⟩ = some (.string a0_3) := (blk_cell BK569.out 3).trans rfl; have hcz24_4 : w23.cell? ⟨gb569, 4, none⟩ = some (.int .i64 a0_4) := (blk_cell BK569.out 4).trans rfl; have hcz24_5 : w23.cell? ⟨gb569, 5, none⟩ = some (.int .i64 a0_5) := (blk_cell BK569.out 5).trans rfl; have hfz24_0 := blk_frozen BK569.out 0; have hfz24_1 := blk_frozen BK569.out 1; have hfz24_2 := blk_frozen BK569.out 2; have hfz24_3 := blk_frozen BK569.out 3; have hfz24_4 := blk_frozen BK569.out 4; have hfz24_5 := blk_frozen BK569.out 5) | ((with_reducible refine gate_callee (f := 39) rfl ?_); refine goesL_ (some 12) rfl rfl Tryd.func39 (by kernel_rfl) rfl #[.agg #[.int .i64 a0_0, .string a0_1, .int .i64 a0_2, .string a0_3, .int .i64 a0_4, .int .i64 a0_5]] rfl (by (try simp only [List.map_toArray, List.map_cons, List.map_nil]); first | done | rfl | (simp only [List.length_drop, List.length_take]; rfl)) ?_; (with_reducible refine (laws_toKnown.calls a0_0 a0_1 a0_2 a0_3 a0_4 a0_5 t571 t572 t573 t574 t575 t576 _ A7.out).mono ?_); rintro e w25 ⟨rfl, hb⟩; refine ⟨_, rfl, ?_⟩; have n0_ := Aside0.mk (blk_below (g := gb569) (o := .cells #[.int .i64 a0_0, .string a0_1, .int .i64 a0_2, .string a0_3, .int .i64 a0_4, .int .i64 a0_5] 64 (0, 0)) (by (with_reducible repeat (first | refine blk_drewN ?_ _ | refine blk_drew ?_ | refine blk_alloc ?_ _)); exact BK569.out) hb); have n1_ := Aside0.mk (below_step (by repeat (first | (with_reducible first | exact HB.out | apply below_alloc | apply pw_below_drewN | apply below_drew1 | refine below_set ?_ GE569.out) | exact HB.out)) hb); clear BK569; clear HB; have BK569 := n0_; have HB := n1_; clear n0_ n1_; (try clear hb); (try clear hb2); (try clear hk); (try clear hi)) | ((with_reducible refine gate_callee (f := 38) rfl ?_); refine goesL_ (some 13) rfl rfl Tryd.func38 (by kernel_rfl) rfl #[.agg #[.int .i64 t571, .string t572, .int .i64 t573, .string t574, .int .i64 t575, .int .i64 t576]] rfl (by (try simp only [List.map_toArray, List.map_cons, List.map_nil]); first | done | rfl | (simp only [List.length_drop, List.length_take]; rfl)) ?_; (with_reducible refine (spec_KnownOk.calls k t571 t572 t573 t574 t575 t576 t577 _ A8.out).mono ?_); rintro e w26 ⟨rfl, hb⟩; refine ⟨_, rfl, ?_⟩; have n0_ := Aside0.mk (blk_below (g := gb569) (o := .cells #[.int .i64 a0_0, .string a0_1, .int .i64 a0_2, .string a0_3, .int .i64 a0_4, .int .i64 a0_5] 64 (0, 0)) (by (with_reducible repeat (first | refine blk_drewN ?_ _ | refine blk_drew ?_ | refine blk_alloc ?_ _)); exact BK569.out) hb); have n1_ := Aside0.mk (below_step (by repeat (first | (with_reducible first | exact HB.out | apply below_alloc | apply pw_below_drewN | apply below_drew1 | refine below_set ?_ GE569.out) | exact HB.out)) hb); clear BK569; clear HB; have BK569 := n0_; have HB := n1_; clear n0_ n1_; (try clear hb); (try clear hb2); (try clear hk); (try clear hi); have hcz27_0 : w26.cell? ⟨gb569, 0, none⟩ = some (.int .i64 a0_0) := (blk_cell BK569.out 0).trans rfl; have hcz27_1 : w26.cell? ⟨gb569, 1, none⟩ = some (.string a0_1) := (blk_cell BK569.out 1).trans rfl; have hcz27_2 : w26.cell? ⟨gb569, 2, none⟩ = some (.int .i64 a0_2) := (blk_cell BK569.out 2).trans rfl; have hcz27_3 : w26.cell? ⟨gb569, 3, none⟩ = some (.string a0_3) := (blk_cell BK569.out 3).trans rfl; have hcz27_4 : w26.cell? ⟨gb569, 4, none⟩ = some (.int .i64 a0_4) := (blk_cell BK569.out 4).trans rfl; have hcz27_5 : w26.cell? ⟨gb569, 5, none⟩ = some (.int .i64 a0_5) := (blk_cell BK569.out 5).trans rfl; have hfz27_0 := blk_frozen BK569.out 0; have hfz27_1 := blk_frozen BK569.out 1; have hfz27_2 := blk_frozen BK569.out 2; have hfz27_3 := blk_frozen BK569.out 3; have hfz27_4 := blk_frozen BK569.out 4; have hfz27_5 := blk_frozen BK569.out 5) | ((with_reducible refine gate_callee (f := 39) rfl ?_); refine goesL_ (some 15) rfl rfl Tryd.func39 (by kernel_rfl) rfl #[.agg #[.int .i64 a0_0, .string a0_1, .int .i64 a0_2, .string a0_3, .int .i64 a0_4, .int .i64 a0_5]] rfl (by (try simp only [List.map_toArray, List.map_cons, List.map_nil]); first | done | rfl | (simp only [List.length_drop, List.length_take]; rfl)) ?_; (with_reducible refine (laws_toKnown.calls a0_0 a0_1 a0_2 a0_3 a0_4 a0_5 t578 t579 t580 t581 t582 t583 _ A9.out).mono ?_); rintro e w28 ⟨rfl, hb⟩; refine ⟨_, rfl, ?_⟩; have n0_ := Aside0.mk (blk_below (g := gb569) (o := .cells #[.int .i64 a0_0, .string a0_1, .int .i64 a0_2, .string a0_3, .int .i64 a0_4, .int .i64 a0_5] 64 (0, 0)) (by (with_reducible repeat (first | refine blk_drewN ?_ _ | refine blk_drew ?_ | refine blk_alloc ?_ _)); exact BK569.out) hb); have n1_ := Aside0.mk (below_step (by repeat (first | (with_reducible first | exact HB.out | apply below_alloc | apply pw_below_drewN | apply below_drew1 | refine below_set ?_ GE569.out) | exact HB.out)) hb); clear BK569; clear HB; have BK569 := n0_; have HB := n1_; clear n0_ n1_; (try clear hb); (try clear hb2); (try clear hk); (try clear hi)) | ((with_reducible refine gate_callee (f := 40) rfl ?_); refine goesL_ (some 16) rfl rfl Tryd.func40 (by kernel_rfl) rfl #[.agg #[.int .i64 t578, .string t579, .int .i64 t580, .string t581, .int .i64 t582, .int .i64 t583]] rfl (by (try simp only [List.map_toArray, List.map_cons, List.map_nil]); first | done | rfl | (simp only [List.length_drop, List.length_take]; rfl)) ?_; (with_reducible refine (impl_KnownOk.calls k t578 t579 t580 t581 t582 t583 t584 _ ?side1 A10.out).mono ?_); (case side1 => exact GW.below HGW.out (by repeat (first | (with_reducible first | exact HB.out | apply below_alloc | apply pw_below_drewN | apply below_drew1 | refine below_set ?_ GE569.out) | exact HB.out))); rintro e w29 ⟨rfl, hb⟩; refine ⟨_, rfl, ?_⟩; have n0_ := Aside0.mk (blk_below (g := gb569) (o := .cells #[.int .i64 a0_0, .string a0_1, .int .i64 a0_2, .string a0_3, .int .i64 a0_4, .int .i64 a0_5] 64 (0, 0)) (by (with_reducible repeat (first | refine blk_drewN ?_ _ | refine blk_drew ?_ | refine blk_alloc ?_ _)); exact BK569.out) hb); have n1_ := Aside0.mk (below_step (by repeat (first | (with_reducible first | exact HB.out | apply below_alloc | apply pw_below_drewN | apply below_drew1 | refine below_set ?_ GE569.out) | exact HB.out)) hb); clear BK569; clear HB; have BK569 := n0_; have HB := n1_; clear n0_ n1_; (try clear hb); (try clear hb2); (try clear hk); (try clear hi)))
      go_ret
      exact ⟨by first | rfl | (simp [errW_none, errW_some] <;> rfl) | (simp [*, errW_none, errW_some] <;> rfl), by repeat (first | (with_reducible first | exact HB.out | apply below_alloc | apply pw_below_drewN | apply below_drew1 | refine below_set ?_ GE569.out) | exact HB.out)⟩

end Go.Proofs.YtldfehmaophfjaaDoor.P
