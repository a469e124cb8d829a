-- Written by xprint.py (by way of the kit's print program) out of the translation.
import Derived.Test.YtdanfcjaamcaiaaPx0
import Derived.Test.YtdanfcjaamcaiaaPxd
import Derived.Test.YtdanfcjaamcaiaaPx2
namespace Go.Proofs.Ytdanfcjaamcaiaa.P
open Go.RowKit Go.Proofs.YtdanfcjaamcaiaaW.PrintWords Go.Proofs.YtdanfcjaamcaiaaW.PrintLast Go.Proofs.YtdanfcjaamcaiaaW.PrintMore
attribute [local go_sem] max2_int min2_int max_two min_two max_three min_three max_four min_four   -- for this text's walks alone
set_option linter.unusedVariables false
set_option linter.unusedSimpArgs false

/-! ### spec_DiskOk: function 54 -/
theorem spec_DiskOk.mono_l : ∀ k, (∀ y0 y1 y2 y3 y4, LeO (spec_DiskOk.l0 k y0 y1 y2 y3 y4) (spec_DiskOk.l0 (k + 1) y0 y1 y2 y3 y4)) ∧ (∀ y0 y1 y2 y3 y4, LeO (spec_DiskOk.l1 k y0 y1 y2 y3 y4) (spec_DiskOk.l1 (k + 1) y0 y1 y2 y3 y4))
  | 0 => ⟨fun _ _ _ _ _ r h => by simp [spec_DiskOk.l0] at h, fun _ _ _ _ _ r h => by simp [spec_DiskOk.l1] at h⟩
  | k + 1 => by
    obtain ⟨ih0, ih1⟩ := spec_DiskOk.mono_l k
    refine ⟨?_, ?_⟩
    · intro y0 y1 y2 y3 y4
      unfold spec_DiskOk.l0
      repeat' first
      | (with_reducible exact ih0 _ _ _ _ _)
      | (with_reducible exact ih1 _ _ _ _ _)
      | (with_reducible exact LeO.refl _)
      | (with_reducible exact LeO.none _)
      | (with_reducible refine LeO.ite ?_ ?_)
      | (with_reducible refine LeO.bind ?_ (fun _ => ?_))
      | exact ih0 _ _ _ _ _
      | exact ih1 _ _ _ _ _
      | exact LeO.none _
      | refine LeO.ite ?_ ?_
      | refine LeO.bind ?_ (fun _ => ?_)
    · intro y0 y1 y2 y3 y4
      unfold spec_DiskOk.l1
      repeat' first
      | (with_reducible exact ih0 _ _ _ _ _)
      | (with_reducible exact ih1 _ _ _ _ _)
      | (with_reducible exact LeO.refl _)
      | (with_reducible exact LeO.none _)
      | (with_reducible refine LeO.ite ?_ ?_)
      | (with_reducible refine LeO.bind ?_ (fun _ => ?_))
      | exact ih0 _ _ _ _ _
      | exact ih1 _ _ _ _ _
      | exact LeO.none _
      | refine LeO.ite ?_ ?_
      | refine LeO.bind ?_ (fun _ => ?_)
theorem spec_DiskOk.mono : ∀ a0 a1 a2 a3 k, LeO (spec_DiskOk.f k a0 a1 a2 a3) (spec_DiskOk.f (k + 1) a0 a1 a2 a3) := by
  intro a0 a1 a2 a3 k
  obtain ⟨ih0, ih1⟩ := spec_DiskOk.mono_l k
  unfold spec_DiskOk.f
  repeat' first
      | (with_reducible exact ih0 _ _ _ _ _)
      | (with_reducible exact ih1 _ _ _ _ _)
      | (with_reducible exact LeO.refl _)
      | (with_reducible exact LeO.none _)
      | (with_reducible refine LeO.ite ?_ ?_)
      | (with_reducible refine LeO.bind ?_ (fun _ => ?_))
      | exact ih0 _ _ _ _ _
      | exact ih1 _ _ _ _ _
      | exact LeO.none _
      | refine LeO.ite ?_ ?_
      | refine LeO.bind ?_ (fun _ => ?_)
set_option maxHeartbeats 8000000 in
set_option maxRecDepth 100000 in
theorem spec_DiskOk.calls (k : Nat) (A0_0 : Option Addr) (c0_0 : Nat) (l0_0 : List (List Int)) (A0_1 : Option Addr) (c0_1 : Nat) (l0_1 : List (S91)) (a0_2 : Int) (a0_3 : Bool) (r : Bool) (w : World) (hr0_0 : Kd.C (Kd.slice 5 (Kd.int .u8)) w A0_0 l0_0.length l0_0) (hc0_0 : l0_0.length ≤ c0_0) (hr0_1 : Kd.C k91 w A0_1 l0_1.length l0_1) (hc0_1 : l0_1.length ≤ c0_1) (h : spec_DiskOk.f k l0_0 l0_1 a0_2 a0_3 = some r) :
    Calls Try.prog 54 #[.agg #[.slice A0_0 l0_0.length c0_0, .slice A0_1 l0_1.length c0_1, .int .i64 a0_2, .bool a0_3]] w fun e w' => e = .returned (.bool r) ∧ Below w.heap.size w w' := by
  have hu54 := Try.underlying54
  have HR0_0 := Aside0.mk hr0_0
  have HC0_0 := Aside0.mk hc0_0
  clear hr0_0 hc0_0
  have HR0_1 := Aside0.mk hr0_1
  have HC0_1 := Aside0.mk hc0_1
  clear hr0_1 hc0_1
  have HB := Aside0.mk (Below.refl w.heap.size w)
  have H : (spec_DiskOk.l0 k 0 l0_0 l0_1 a0_2 a0_3) = some r := h
  clear h
  have H' := Aside0.mk H
  clear H
  go_enter Try.func54, Try.ntmps54
  go_wp2_with (first | ((with_reducible refine gate_dst (N := 1) rfl ?_); (try (refine gate_guard (by rfl) ?_; dsimp only)); refine box_event ?hg (N := 1) ?hd (cs := #[.slice A0_0 l0_0.length c0_0, .slice A0_1 l0_1.length c0_1, .int .i64 a0_2, .bool a0_3]) (t := 54) ?hr ?_; (case hd => rfl); (case hg => rfl); (case hr => first | (go_simp; done) | (go_simp; rfl)); intro gb712 hg w2 hbox hb; have n0_ := Aside0.mk (below_step (by repeat (first | (with_reducible first | exact HB.out | apply below_alloc | apply pw_below_drewN | apply below_drew1) | exact HB.out)) hb); have n1_ := Aside0.mk (hbox); have n2_ := Aside0.mk ((by rw [hg]; exact (below_size (by repeat (first | (with_reducible first | exact HB.out | apply below_alloc | apply pw_below_drewN | apply below_drew1) | exact HB.out))) : w.heap.size ≤ gb712)); have n3_ := Aside0.mk ((by rw [hg]; exact (below_size (by repeat (first | (with_reducible first | exact HB.out | apply below_alloc | apply pw_below_drewN | apply below_drew1) | exact HB.out))) : w.heap.size ≤ gb712)); clear HB; have HB := n0_; have BK712 := n1_; have GW712 := n2_; have GE712 := n3_; clear n0_ n1_ n2_ n3_; clear hb hbox hg))
  repeat (go_quiet (first | ((with_reducible refine gate_dst (N := 1) rfl ?_); (try (refine gate_guard (by rfl) ?_; dsimp only)); refine box_event ?hg (N := 1) ?hd (cs := #[.slice A0_0 l0_0.length c0_0, .slice A0_1 l0_1.length c0_1, .int .i64 a0_2, .bool a0_3]) (t := 54) ?hr ?_; (case hd => rfl); (case hg => rfl); (case hr => first | (go_simp; done) | (go_simp; rfl)); intro gb712 hg w2 hbox hb; have n0_ := Aside0.mk (below_step (by repeat (first | (with_reducible first | exact HB.out | apply below_alloc | apply pw_below_drewN | apply below_drew1) | exact HB.out)) hb); have n1_ := Aside0.mk (hbox); have n2_ := Aside0.mk ((by rw [hg]; exact (below_size (by repeat (first | (with_reducible first | exact HB.out | apply below_alloc | apply pw_below_drewN | apply below_drew1) | exact HB.out))) : w.heap.size ≤ gb712)); have n3_ := Aside0.mk ((by rw [hg]; exact (below_size (by repeat (first | (with_reducible first | exact HB.out | apply below_alloc | apply pw_below_drewN | apply below_drew1) | exact HB.out))) : w.heap.size ≤ gb712)); clear HB; have HB := n0_; have BK712 := n1_; have GW712 := n2_; have GE712 := n3_; clear n0_ n1_ n2_ n3_; clear hb hbox hg)); try go_wp2_with (first | ((with_reducible refine gate_dst (N := 1) rfl ?_); (try (refine gate_guard (by rfl) ?_; dsimp only)); refine box_event ?hg (N := 1) ?hd (cs := #[.slice A0_0 l0_0.length c0_0, .slice A0_1 l0_1.length c0_1, .int .i64 a0_2, .bool a0_3]) (t := 54) ?hr ?_; (case hd => rfl); (case hg => rfl); (case hr => first | (go_simp; done) | (go_simp; rfl)); intro gb712 hg w2 hbox hb; have n0_ := Aside0.mk (below_step (by repeat (first | (with_reducible first | exact HB.out | apply below_alloc | apply pw_below_drewN | apply below_drew1) | exact HB.out)) hb); have n1_ := Aside0.mk (hbox); have n2_ := Aside0.mk ((by rw [hg]; exact (below_size (by repeat (first | (with_reducible first | exact HB.out | apply below_alloc | apply pw_below_drewN | apply below_drew1) | exact HB.out))) : w.heap.size ≤ gb712)); have n3_ := Aside0.mk ((by rw [hg]; exact (below_size (by repeat (first | (with_reducible first | exact HB.out | apply below_alloc | apply pw_below_drewN | apply below_drew1) | exact HB.out))) : w.heap.size ≤ gb712)); clear HB; have HB := n0_; have BK712 := n1_; have GW712 := n2_; have GE712 := n3_; clear n0_ n1_ n2_ n3_; clear hb hbox hg)))
  go_loopg [3] k (fun kq v3 w' => ∃ (x3_1 : Int), v3 = .int .i64 x3_1 ∧ Aside0 (spec_DiskOk.l0 kq x3_1 l0_0 l0_1 a0_2 a0_3 = some r) ∧ Aside0 (kq ≤ k) ∧ Aside0 (w'.heap[gb712]? = some (.cells #[(.slice A0_0 l0_0.length c0_0), (.slice A0_1 l0_1.length c0_1), .int .i64 a0_2, .bool a0_3] 54 (0, 0))) ∧ Aside0 (Below w.heap.size w w'))
  case atStart => exact ⟨(0), (by first | rfl | (simp; done) | (simp [*]; done)), H', ⟨Nat.le_refl _⟩, ⟨by (with_reducible repeat (first | refine blk_drewN ?_ _ | refine blk_drew ?_ | refine blk_alloc ?_ _)); exact BK712.out⟩, ⟨by repeat (first | (with_reducible first | exact HB.out | apply below_alloc | apply pw_below_drewN | apply below_drew1 | refine below_set ?_ GE712.out) | exact HB.out)⟩⟩
  case round =>
    clear H'
    try clear p2
    obtain ⟨x3_1, rfl, HA, HK1, BK712, HB⟩ := hrel
    cases gk with
    | zero => exact absurd HA.out (by simp [spec_DiskOk.l0])
    | succ k1 =>
      have H := HA.out
      clear HA
      simp only [spec_DiskOk.l0] at H
      by_cases c3 : x3_1 < (l0_0.length : Int)
      · rw [if_pos c3] at H
        have c3b0 : decide (x3_1 < (l0_0.length : Int)) = true := decide_eq_true c3
        clear c3
        by_cases c4 : 0 ≤ x3_1
        · rw [if_pos c4] at H
          have c4b0 : decide (0 ≤ x3_1) = true := decide_eq_true c4
          clear c4
          by_cases c5 : ((rd_L9 l0_0 x3_1).length : Int) > 160
          · rw [if_pos c5] at H
            have c5b0 : decide (160 < ((rd_L9 l0_0 x3_1).length : Int)) = true := decide_eq_true c5
            have c5b1 : decide (160 < (rd_L9 l0_0 x3_1).length) = true := decide_eq_true (by omega)
            clear c5
            obtain rfl := Option.some.inj H
            have hcz6_0 : wr.cell? ⟨gb712, 0, none⟩ = some (.slice A0_0 l0_0.length c0_0) := (blk_cell BK712.out 0).trans rfl
            have hcz6_1 : wr.cell? ⟨gb712, 1, none⟩ = some (.slice A0_1 l0_1.length c0_1) := (blk_cell BK712.out 1).trans rfl
            have hcz6_2 : wr.cell? ⟨gb712, 2, none⟩ = some (.int .i64 a0_2) := (blk_cell BK712.out 2).trans rfl
            have hcz6_3 : wr.cell? ⟨gb712, 3, none⟩ = some (.bool a0_3) := (blk_cell BK712.out 3).trans rfl
            have hfz6_0 := blk_frozen BK712.out 0
            have hfz6_1 := blk_frozen BK712.out 1
            have hfz6_2 := blk_frozen BK712.out 2
            have hfz6_3 := blk_frozen BK712.out 3
            have p713 : 0 ≤ (x3_1 : Int) := of_decide_eq_true (by first | (with_reducible assumption) | assumption)
            have q713 : x3_1 < (l0_0.length : Int) := of_decide_eq_true (by first | (with_reducible assumption) | assumption)
            obtain ⟨ad713, A713_0, c713_0, e713, hx713_0, hl713_0, hi713_0⟩ := at_L9 HR0_0.out x3_1 p713 q713
            cases e713
            replace hx713_0 := (HB.out.cell (World.block_lt_of_cell? w _ hx713_0)).trans hx713_0
            have HR713_0 := Aside0.mk hi713_0
            have HC713_0 := Aside0.mk hl713_0
            clear hi713_0 hl713_0
            replace p713 := eq_true p713
            replace q713 := eq_true q713
            go_wp2
            repeat (go_quiet (fail); try go_wp2)
            go_ret
            exact ⟨by first | rfl | (simp [errW_none, errW_some] <;> rfl) | (simp [*, errW_none, errW_some] <;> rfl), by repeat (first | (with_reducible first | exact HB.out | apply below_alloc | apply pw_below_drewN | apply below_drew1 | refine below_set ?_ GE712.out) | exact HB.out)⟩
          · rw [if_neg c5] at H
            have c5b0 : decide (160 < ((rd_L9 l0_0 x3_1).length : Int)) = false := decide_eq_false c5
            have c5b1 : decide (160 < (rd_L9 l0_0 x3_1).length) = false := decide_eq_false (by omega)
            clear c5
            have H' := Aside0.mk H
            clear H
            have hcz7_0 : wr.cell? ⟨gb712, 0, none⟩ = some (.slice A0_0 l0_0.length c0_0) := (blk_cell BK712.out 0).trans rfl
            have hcz7_1 : wr.cell? ⟨gb712, 1, none⟩ = some (.slice A0_1 l0_1.length c0_1) := (blk_cell BK712.out 1).trans rfl
            have hcz7_2 : wr.cell? ⟨gb712, 2, none⟩ = some (.int .i64 a0_2) := (blk_cell BK712.out 2).trans rfl
            have hcz7_3 : wr.cell? ⟨gb712, 3, none⟩ = some (.bool a0_3) := (blk_cell BK712.out 3).trans rfl
            have hfz7_0 := blk_frozen BK712.out 0
            have hfz7_1 := blk_frozen BK712.out 1
            have hfz7_2 := blk_frozen BK712.out 2
            have hfz7_3 := blk_frozen BK712.out 3
            have p713 : 0 ≤ (x3_1 : Int) := of_decide_eq_true (by first | (with_reducible assumption) | assumption)
            have q713 : x3_1 < (l0_0.length : Int) := of_decide_eq_true (by first | (with_reducible assumption) | assumption)
            obtain ⟨ad713, A713_0, c713_0, e713, hx713_0, hl713_0, hi713_0⟩ := at_L9 HR0_0.out x3_1 p713 q713
            cases e713
            replace hx713_0 := (HB.out.cell (World.block_lt_of_cell? w _ hx713_0)).trans hx713_0
            have HR713_0 := Aside0.mk hi713_0
            have HC713_0 := Aside0.mk hl713_0
            clear hi713_0 hl713_0
            replace p713 := eq_true p713
            replace q713 := eq_true q713
            go_wp2
            repeat (go_quiet (fail); try go_wp2)
            go_roundg k1
            case measure => have := HK1.out; omega
            case rel => exact ⟨(wrap64 (x3_1 + 1)), (by first | rfl | (simp; done) | (simp [*]; done)), H', ⟨by have := HK1.out; omega⟩, ⟨by (with_reducible repeat (first | refine blk_drewN ?_ _ | refine blk_drew ?_ | refine blk_alloc ?_ _)); exact BK712.out⟩, ⟨by repeat (first | (with_reducible first | exact HB.out | apply below_alloc | apply pw_below_drewN | apply below_drew1 | refine below_set ?_ GE712.out) | exact HB.out)⟩⟩
        · rw [if_neg c4] at H
          exact absurd H (by simp)
      · rw [if_neg c3] at H
        have c3b0 : decide (x3_1 < (l0_0.length : Int)) = false := decide_eq_false c3
        clear c3
        have H' := Aside0.mk H
        clear H
        have hcz8_0 : wr.cell? ⟨gb712, 0, none⟩ = some (.slice A0_0 l0_0.length c0_0) := (blk_cell BK712.out 0).trans rfl
        have hcz8_1 : wr.cell? ⟨gb712, 1, none⟩ = some (.slice A0_1 l0_1.length c0_1) := (blk_cell BK712.out 1).trans rfl
        have hcz8_2 : wr.cell? ⟨gb712, 2, none⟩ = some (.int .i64 a0_2) := (blk_cell BK712.out 2).trans rfl
        have hcz8_3 : wr.cell? ⟨gb712, 3, none⟩ = some (.bool a0_3) := (blk_cell BK712.out 3).trans rfl
        have hfz8_0 := blk_frozen BK712.out 0
        have hfz8_1 := blk_frozen BK712.out 1
        have hfz8_2 := blk_frozen BK712.out 2
        have hfz8_3 := blk_frozen BK712.out 3
        go_wp2
        repeat (go_quiet (fail); try go_wp2)
        go_loopg [4] k1 (fun kq v4 w' => ∃ (x4_2 : Int), v4 = .int .i64 x4_2 ∧ Aside0 (spec_DiskOk.l1 kq x4_2 l0_0 l0_1 a0_2 a0_3 = some r) ∧ Aside0 (kq ≤ k1) ∧ Aside0 (w'.heap[gb712]? = some (.cells #[(.slice A0_0 l0_0.length c0_0), (.slice A0_1 l0_1.length c0_1), .int .i64 a0_2, .bool a0_3] 54 (0, 0))) ∧ Aside0 (Below w.heap.size w w'))
        case atStart => exact ⟨(0), (by first | rfl | (simp; done) | (simp [*]; done)), H', ⟨Nat.le_refl _⟩, ⟨by (with_reducible repeat (first | refine blk_drewN ?_ _ | refine blk_drew ?_ | refine blk_alloc ?_ _)); exact BK712.out⟩, ⟨by repeat (first | (with_reducible first | exact HB.out | apply below_alloc | apply pw_below_drewN | apply below_drew1 | refine below_set ?_ GE712.out) | exact HB.out)⟩⟩
        case round =>
          clear H'
          try clear p2
          try clear c3
          try clear c3b0
          try clear c4
          try clear c4b0
          try clear c5
          try clear c5b0
          try clear c5b1
          try clear p6
          try clear c7
          try clear p7
          try clear q7
          try clear hx7
          try clear hcz6_0
          try clear hcz6_1
          try clear hcz6_2
          try clear hcz6_3
          try clear hcz7_0
          try clear hcz7_1
          try clear hcz7_2
          try clear hcz7_3
          try clear hcz8_0
          try clear hcz8_1
          try clear hcz8_2
          try clear hcz8_3
          try clear hfz6_0
          try clear hfz6_1
          try clear hfz6_2
          try clear hfz6_3
          try clear hfz7_0
          try clear hfz7_1
          try clear hfz7_2
          try clear hfz7_3
          try clear hfz8_0
          try clear hfz8_1
          try clear hfz8_2
          try clear hfz8_3
          try clear hx713_0
          try clear p2
          try clear p713
          try clear q713
          obtain ⟨x4_2, rfl, HA, HK2, BK712, HB⟩ := hrel
          cases gk with
          | zero => exact absurd HA.out (by simp [spec_DiskOk.l1])
          | succ k2 =>
            have H := HA.out
            clear HA
            simp only [spec_DiskOk.l1] at H
            by_cases c9 : x4_2 < (l0_1.length : Int)
            · rw [if_pos c9] at H
              have c9b0 : decide (x4_2 < (l0_1.length : Int)) = true := decide_eq_true c9
              clear c9
              by_cases c10 : 0 ≤ x4_2
              · rw [if_pos c10] at H
                have c10b0 : decide (0 ≤ x4_2) = true := decide_eq_true c10
                clear c10
                replace H := Option.bind_eq_some_iff.mp H
                obtain ⟨t715, A110, H⟩ := H
                replace H : (if t715 = true then (if (((rd_T91 l0_1 x4_2).f1).length : Int) > 160 then (some false) else (spec_DiskOk.l1 k2 (wrap64 (x4_2 + 1)) l0_0 l0_1 a0_2 a0_3)) else (some false)) = some r := H
                have A11 := Aside0.mk A110
                clear A110
                by_cases c12 : t715 = true
                · subst c12
                  have H1 : (if (((rd_T91 l0_1 x4_2).f1).length : Int) > 160 then (some false) else (spec_DiskOk.l1 k2 (wrap64 (x4_2 + 1)) l0_0 l0_1 a0_2 a0_3)) = some r := by rw [if_pos rfl] at H; exact H
                  clear H
                  have H := H1
                  clear H1
                  by_cases c13 : (((rd_T91 l0_1 x4_2).f1).length : Int) > 160
                  · rw [if_pos c13] at H
                    have c13b0 : decide (160 < (((rd_T91 l0_1 x4_2).f1).length : Int)) = true := decide_eq_true c13
                    have c13b1 : decide (160 < ((rd_T91 l0_1 x4_2).f1).length) = true := decide_eq_true (by omega)
                    clear c13
                    obtain rfl := Option.some.inj H
                    have hcz14_0 : wr.cell? ⟨gb712, 0, none⟩ = some (.slice A0_0 l0_0.length c0_0) := (blk_cell BK712.out 0).trans rfl
                    have hcz14_1 : wr.cell? ⟨gb712, 1, none⟩ = some (.slice A0_1 l0_1.length c0_1) := (blk_cell BK712.out 1).trans rfl
                    have hcz14_2 : wr.cell? ⟨gb712, 2, none⟩ = some (.int .i64 a0_2) := (blk_cell BK712.out 2).trans rfl
                    have hcz14_3 : wr.cell? ⟨gb712, 3, none⟩ = some (.bool a0_3) := (blk_cell BK712.out 3).trans rfl
                    have hfz14_0 := blk_frozen BK712.out 0
                    have hfz14_1 := blk_frozen BK712.out 1
                    have hfz14_2 := blk_frozen BK712.out 2
                    have hfz14_3 := blk_frozen BK712.out 3
                    have p714 : 0 ≤ (x4_2 : Int) := of_decide_eq_true (by first | (with_reducible assumption) | assumption)
                    have q714 : x4_2 < (l0_1.length : Int) := of_decide_eq_true (by first | (with_reducible assumption) | assumption)
                    obtain ⟨ad714, A714_1, c714_1, e714, hx714_0, hx714_1, hl714_1, hi714_1⟩ := at_T91 HR0_1.out x4_2 p714 q714
                    cases e714
                    replace hx714_0 := (HB.out.cell (World.block_lt_of_cell? w _ hx714_0)).trans hx714_0
                    replace hx714_1 := (HB.out.cell (World.block_lt_of_cell? w _ hx714_1)).trans hx714_1
                    have HR714_1 := Aside0.mk hi714_1
                    have HC714_1 := Aside0.mk hl714_1
                    clear hi714_1 hl714_1
                    replace p714 := eq_true p714
                    replace q714 := eq_true q714
                    go_wp2_with (first | (go_at_call 79; (with_reducible refine (spec_l1In.calls ((rd_T91 l0_1 x4_2).f0) 0 (wrap64 ((l0_0.length : Int) - 1)) true _ A11.out).mono ?_); rintro e w' ⟨rfl, ⟨nd, rfl⟩⟩; (try first | exact ⟨rfl, _, World.drewN_drewN _ _ _⟩ | exact ⟨rfl, _, Eq.trans (World.drewN_drewN _ _ _) (congrArg (World.drewN _) (Nat.add_assoc _ _ _))⟩); (try (have p716 : 0 ≤ (x4_2 : Int) := of_decide_eq_true (by first | (with_reducible assumption) | assumption); have q716 : x4_2 < (l0_1.length : Int) := of_decide_eq_true (by first | (with_reducible assumption) | assumption); obtain ⟨ad716, A716_1, c716_1, e716, hx716_0, hx716_1, hl716_1, hi716_1⟩ := at_T91 HR0_1.out x4_2 p716 q716; obtain rfl : ad714 = ad716 := (by injection e716); replace hx716_0 := (HB.out.cell (World.block_lt_of_cell? w _ hx716_0)).trans hx716_0; replace hx716_1 := (HB.out.cell (World.block_lt_of_cell? w _ hx716_1)).trans hx716_1; have HR716_1 := Aside0.mk hi716_1; have HC716_1 := Aside0.mk hl716_1; clear hi716_1 hl716_1; replace p716 := eq_true p716; replace q716 := eq_true q716; have ea_ := Option.some.inj (hx714_1.symm.trans hx716_1); injection ea_ with ea_ en_ ec_; subst ea_; subst ec_; clear en_))))
                    repeat (go_quiet (first | (go_at_call 79; (with_reducible refine (spec_l1In.calls ((rd_T91 l0_1 x4_2).f0) 0 (wrap64 ((l0_0.length : Int) - 1)) true _ A11.out).mono ?_); rintro e w' ⟨rfl, ⟨nd, rfl⟩⟩; (try first | exact ⟨rfl, _, World.drewN_drewN _ _ _⟩ | exact ⟨rfl, _, Eq.trans (World.drewN_drewN _ _ _) (congrArg (World.drewN _) (Nat.add_assoc _ _ _))⟩); (try (have p716 : 0 ≤ (x4_2 : Int) := of_decide_eq_true (by first | (with_reducible assumption) | assumption); have q716 : x4_2 < (l0_1.length : Int) := of_decide_eq_true (by first | (with_reducible assumption) | assumption); obtain ⟨ad716, A716_1, c716_1, e716, hx716_0, hx716_1, hl716_1, hi716_1⟩ := at_T91 HR0_1.out x4_2 p716 q716; obtain rfl : ad714 = ad716 := (by injection e716); replace hx716_0 := (HB.out.cell (World.block_lt_of_cell? w _ hx716_0)).trans hx716_0; replace hx716_1 := (HB.out.cell (World.block_lt_of_cell? w _ hx716_1)).trans hx716_1; have HR716_1 := Aside0.mk hi716_1; have HC716_1 := Aside0.mk hl716_1; clear hi716_1 hl716_1; replace p716 := eq_true p716; replace q716 := eq_true q716; have ea_ := Option.some.inj (hx714_1.symm.trans hx716_1); injection ea_ with ea_ en_ ec_; subst ea_; subst ec_; clear en_)))); try go_wp2_with (first | (go_at_call 79; (with_reducible refine (spec_l1In.calls ((rd_T91 l0_1 x4_2).f0) 0 (wrap64 ((l0_0.length : Int) - 1)) true _ A11.out).mono ?_); rintro e w' ⟨rfl, ⟨nd, rfl⟩⟩; (try first | exact ⟨rfl, _, World.drewN_drewN _ _ _⟩ | exact ⟨rfl, _, Eq.trans (World.drewN_drewN _ _ _) (congrArg (World.drewN _) (Nat.add_assoc _ _ _))⟩); (try (have p716 : 0 ≤ (x4_2 : Int) := of_decide_eq_true (by first | (with_reducible assumption) | assumption); have q716 : x4_2 < (l0_1.length : Int) := of_decide_eq_true (by first | (with_reducible assumption) | assumption); obtain ⟨ad716, A716_1, c716_1, e716, hx716_0, hx716_1, hl716_1, hi716_1⟩ := at_T91 HR0_1.out x4_2 p716 q716; obtain rfl : ad714 = ad716 := (by injection e716); replace hx716_0 := (HB.out.cell (World.block_lt_of_cell? w _ hx716_0)).trans hx716_0; replace hx716_1 := (HB.out.cell (World.block_lt_of_cell? w _ hx716_1)).trans hx716_1; have HR716_1 := Aside0.mk hi716_1; have HC716_1 := Aside0.mk hl716_1; clear hi716_1 hl716_1; replace p716 := eq_true p716; replace q716 := eq_true q716; have ea_ := Option.some.inj (hx714_1.symm.trans hx716_1); injection ea_ with ea_ en_ ec_; subst ea_; subst ec_; clear en_)))))
                    go_ret
                    exact ⟨by first | rfl | (simp [errW_none, errW_some] <;> rfl) | (simp [*, errW_none, errW_some] <;> rfl), by repeat (first | (with_reducible first | exact HB.out | apply below_alloc | apply pw_below_drewN | apply below_drew1 | refine below_set ?_ GE712.out) | exact HB.out)⟩
                  · rw [if_neg c13] at H
                    have c13b0 : decide (160 < (((rd_T91 l0_1 x4_2).f1).length : Int)) = false := decide_eq_false c13
                    have c13b1 : decide (160 < ((rd_T91 l0_1 x4_2).f1).length) = false := decide_eq_false (by omega)
                    clear c13
                    have H' := Aside0.mk H
                    clear H
                    have hcz15_0 : wr.cell? ⟨gb712, 0, none⟩ = some (.slice A0_0 l0_0.length c0_0) := (blk_cell BK712.out 0).trans rfl
                    have hcz15_1 : wr.cell? ⟨gb712, 1, none⟩ = some (.slice A0_1 l0_1.length c0_1) := (blk_cell BK712.out 1).trans rfl
                    have hcz15_2 : wr.cell? ⟨gb712, 2, none⟩ = some (.int .i64 a0_2) := (blk_cell BK712.out 2).trans rfl
                    have hcz15_3 : wr.cell? ⟨gb712, 3, none⟩ = some (.bool a0_3) := (blk_cell BK712.out 3).trans rfl
                    have hfz15_0 := blk_frozen BK712.out 0
                    have hfz15_1 := blk_frozen BK712.out 1
                    have hfz15_2 := blk_frozen BK712.out 2
                    have hfz15_3 := blk_frozen BK712.out 3
                    have p714 : 0 ≤ (x4_2 : Int) := of_decide_eq_true (by first | (with_reducible assumption) | assumption)
                    have q714 : x4_2 < (l0_1.length : Int) := of_decide_eq_true (by first | (with_reducible assumption) | assumption)
                    obtain ⟨ad714, A714_1, c714_1, e714, hx714_0, hx714_1, hl714_1, hi714_1⟩ := at_T91 HR0_1.out x4_2 p714 q714
                    cases e714
                    replace hx714_0 := (HB.out.cell (World.block_lt_of_cell? w _ hx714_0)).trans hx714_0
                    replace hx714_1 := (HB.out.cell (World.block_lt_of_cell? w _ hx714_1)).trans hx714_1
                    have HR714_1 := Aside0.mk hi714_1
                    have HC714_1 := Aside0.mk hl714_1
                    clear hi714_1 hl714_1
                    replace p714 := eq_true p714
                    replace q714 := eq_true q714
                    go_wp2_with (first | (go_at_call 79; (with_reducible refine (spec_l1In.calls ((rd_T91 l0_1 x4_2).f0) 0 (wrap64 ((l0_0.length : Int) - 1)) true _ A11.out).mono ?_); rintro e w' ⟨rfl, ⟨nd, rfl⟩⟩; (try first | exact ⟨rfl, _, World.drewN_drewN _ _ _⟩ | exact ⟨rfl, _, Eq.trans (World.drewN_drewN _ _ _) (congrArg (World.drewN _) (Nat.add_assoc _ _ _))⟩); (try (have p716 : 0 ≤ (x4_2 : Int) := of_decide_eq_true (by first | (with_reducible assumption) | assumption); have q716 : x4_2 < (l0_1.length : Int) := of_decide_eq_true (by first | (with_reducible assumption) | assumption); obtain ⟨ad716, A716_1, c716_1, e716, hx716_0, hx716_1, hl716_1, hi716_1⟩ := at_T91 HR0_1.out x4_2 p716 q716; obtain rfl : ad714 = ad716 := (by injection e716); replace hx716_0 := (HB.out.cell (World.block_lt_of_cell? w _ hx716_0)).trans hx716_0; replace hx716_1 := (HB.out.cell (World.block_lt_of_cell? w _ hx716_1)).trans hx716_1; have HR716_1 := Aside0.mk hi716_1; have HC716_1 := Aside0.mk hl716_1; clear hi716_1 hl716_1; replace p716 := eq_true p716; replace q716 := eq_true q716; have ea_ := Option.some.inj (hx714_1.symm.trans hx716_1); injection ea_ with ea_ en_ ec_; subst ea_; subst ec_; clear en_))))
                    repeat (go_quiet (first | (go_at_call 79; (with_reducible refine (spec_l1In.calls ((rd_T91 l0_1 x4_2).f0) 0 (wrap64 ((l0_0.length : Int) - 1)) true _ A11.out).mono ?_); rintro e w' ⟨rfl, ⟨nd, rfl⟩⟩; (try first | exact ⟨rfl, _, World.drewN_drewN _ _ _⟩ | exact ⟨rfl, _, Eq.trans (World.drewN_drewN _ _ _) (congrArg (World.drewN _) (Nat.add_assoc _ _ _))⟩); (try (have p716 : 0 ≤ (x4_2 : Int) := of_decide_eq_true (by first | (with_reducible assumption) | assumption); have q716 : x4_2 < (l0_1.length : Int) := of_decide_eq_true (by first | (with_reducible assumption) | assumption); obtain ⟨ad716, A716_1, c716_1, e716, hx716_0, hx716_1, hl716_1, hi716_1⟩ := at_T91 HR0_1.out x4_2 p716 q716; obtain rfl : ad714 = ad716 := (by injection e716); replace hx716_0 := (HB.out.cell (World.block_lt_of_cell? w _ hx716_0)).trans hx716_0; replace hx716_1 := (HB.out.cell (World.block_lt_of_cell? w _ hx716_1)).trans hx716_1; have HR716_1 := Aside0.mk hi716_1; have HC716_1 := Aside0.mk hl716_1; clear hi716_1 hl716_1; replace p716 := eq_true p716; replace q716 := eq_true q716; have ea_ := Option.some.inj (hx714_1.symm.trans hx716_1); injection ea_ with ea_ en_ ec_; subst ea_; subst ec_; clear en_)))); try go_wp2_with (first | (go_at_call 79; (with_reducible refine (spec_l1In.calls ((rd_T91 l0_1 x4_2).f0) 0 (wrap64 ((l0_0.length : Int) - 1)) true _ A11.out).mono ?_); rintro e w' ⟨rfl, ⟨nd, rfl⟩⟩; (try first | exact ⟨rfl, _, World.drewN_drewN _ _ _⟩ | exact ⟨rfl, _, Eq.trans (World.drewN_drewN _ _ _) (congrArg (World.drewN _) (Nat.add_assoc _ _ _))⟩); (try (have p716 : 0 ≤ (x4_2 : Int) := of_decide_eq_true (by first | (with_reducible assumption) | assumption); have q716 : x4_2 < (l0_1.length : Int) := of_decide_eq_true (by first | (with_reducible assumption) | assumption); obtain ⟨ad716, A716_1, c716_1, e716, hx716_0, hx716_1, hl716_1, hi716_1⟩ := at_T91 HR0_1.out x4_2 p716 q716; obtain rfl : ad714 = ad716 := (by injection e716); replace hx716_0 := (HB.out.cell (World.block_lt_of_cell? w _ hx716_0)).trans hx716_0; replace hx716_1 := (HB.out.cell (World.block_lt_of_cell? w _ hx716_1)).trans hx716_1; have HR716_1 := Aside0.mk hi716_1; have HC716_1 := Aside0.mk hl716_1; clear hi716_1 hl716_1; replace p716 := eq_true p716; replace q716 := eq_true q716; have ea_ := Option.some.inj (hx714_1.symm.trans hx716_1); injection ea_ with ea_ en_ ec_; subst ea_; subst ec_; clear en_)))))
                    go_roundg k2
                    case measure => have := HK1.out; have := HK2.out; omega
                    case rel => exact ⟨(wrap64 (x4_2 + 1)), (by first | rfl | (simp; done) | (simp [*]; done)), H', ⟨by have := HK1.out; have := HK2.out; omega⟩, ⟨by (with_reducible repeat (first | refine blk_drewN ?_ _ | refine blk_drew ?_ | refine blk_alloc ?_ _)); exact BK712.out⟩, ⟨by repeat (first | (with_reducible first | exact HB.out | apply below_alloc | apply pw_below_drewN | apply below_drew1 | refine below_set ?_ GE712.out) | exact HB.out)⟩⟩
                · replace c12 := Bool.eq_false_iff.mpr c12
                  subst c12
                  have H1 : (some false) = some r := by rw [if_neg (show ¬ (false = true) by decide)] at H; exact H
                  clear H
                  have H := H1
                  clear H1
                  obtain rfl := Option.some.inj H
                  have hcz16_0 : wr.cell? ⟨gb712, 0, none⟩ = some (.slice A0_0 l0_0.length c0_0) := (blk_cell BK712.out 0).trans rfl
                  have hcz16_1 : wr.cell? ⟨gb712, 1, none⟩ = some (.slice A0_1 l0_1.length c0_1) := (blk_cell BK712.out 1).trans rfl
                  have hcz16_2 : wr.cell? ⟨gb712, 2, none⟩ = some (.int .i64 a0_2) := (blk_cell BK712.out 2).trans rfl
                  have hcz16_3 : wr.cell? ⟨gb712, 3, none⟩ = some (.bool a0_3) := (blk_cell BK712.out 3).trans rfl
                  have hfz16_0 := blk_frozen BK712.out 0
                  have hfz16_1 := blk_frozen BK712.out 1
                  have hfz16_2 := blk_frozen BK712.out 2
                  have hfz16_3 := blk_frozen BK712.out 3
                  have p714 : 0 ≤ (x4_2 : Int) := of_decide_eq_true (by first | (with_reducible assumption) | assumption)
                  have q714 : x4_2 < (l0_1.length : Int) := of_decide_eq_true (by first | (with_reducible assumption) | assumption)
                  obtain ⟨ad714, A714_1, c714_1, e714, hx714_0, hx714_1, hl714_1, hi714_1⟩ := at_T91 HR0_1.out x4_2 p714 q714
                  cases e714
                  replace hx714_0 := (HB.out.cell (World.block_lt_of_cell? w _ hx714_0)).trans hx714_0
                  replace hx714_1 := (HB.out.cell (World.block_lt_of_cell? w _ hx714_1)).trans hx714_1
                  have HR714_1 := Aside0.mk hi714_1
                  have HC714_1 := Aside0.mk hl714_1
                  clear hi714_1 hl714_1
                  replace p714 := eq_true p714
                  replace q714 := eq_true q714
                  go_wp2_with (first | (go_at_call 79; (with_reducible refine (spec_l1In.calls ((rd_T91 l0_1 x4_2).f0) 0 (wrap64 ((l0_0.length : Int) - 1)) false _ A11.out).mono ?_); rintro e w' ⟨rfl, ⟨nd, rfl⟩⟩; (try first | exact ⟨rfl, _, World.drewN_drewN _ _ _⟩ | exact ⟨rfl, _, Eq.trans (World.drewN_drewN _ _ _) (congrArg (World.drewN _) (Nat.add_assoc _ _ _))⟩)))
                  repeat (go_quiet (first | (go_at_call 79; (with_reducible refine (spec_l1In.calls ((rd_T91 l0_1 x4_2).f0) 0 (wrap64 ((l0_0.length : Int) - 1)) false _ A11.out).mono ?_); rintro e w' ⟨rfl, ⟨nd, rfl⟩⟩; (try first | exact ⟨rfl, _, World.drewN_drewN _ _ _⟩ | exact ⟨rfl, _, Eq.trans (World.drewN_drewN _ _ _) (congrArg (World.drewN _) (Nat.add_assoc _ _ _))⟩))); try go_wp2_with (first | (go_at_call 79; (with_reducible refine (spec_l1In.calls ((rd_T91 l0_1 x4_2).f0) 0 (wrap64 ((l0_0.length : Int) - 1)) false _ A11.out).mono ?_); rintro e w' ⟨rfl, ⟨nd, rfl⟩⟩; (try first | exact ⟨rfl, _, World.drewN_drewN _ _ _⟩ | exact ⟨rfl, _, Eq.trans (World.drewN_drewN _ _ _) (congrArg (World.drewN _) (Nat.add_assoc _ _ _))⟩))))
                  go_ret
                  exact ⟨by first | rfl | (simp [errW_none, errW_some] <;> rfl) | (simp [*, errW_none, errW_some] <;> rfl), by repeat (first | (with_reducible first | exact HB.out | apply below_alloc | apply pw_below_drewN | apply below_drew1 | refine below_set ?_ GE712.out) | exact HB.out)⟩
              · rw [if_neg c10] at H
                exact absurd H (by simp)
            · rw [if_neg c9] at H
              have c9b0 : decide (x4_2 < (l0_1.length : Int)) = false := decide_eq_false c9
              clear c9
              replace H := Option.bind_eq_some_iff.mp H
              obtain ⟨t717, A170, H⟩ := H
              replace H : (if t717 = true then (if (l0_1.length : Int) ≤ 30 then ((spec_l1In.f a0_2 (-1) 1000).bind fun t718 => (some t718)) else (some false)) else (some false)) = some r := H
              have A17 := Aside0.mk A170
              clear A170
              by_cases c18 : t717 = true
              · subst c18
                have H1 : (if (l0_1.length : Int) ≤ 30 then ((spec_l1In.f a0_2 (-1) 1000).bind fun t718 => (some t718)) else (some false)) = some r := by rw [if_pos rfl] at H; exact H
                clear H
                have H := H1
                clear H1
                by_cases c19 : (l0_1.length : Int) ≤ 30
                · rw [if_pos c19] at H
                  have c19b0 : decide ((l0_1.length : Int) ≤ 30) = true := decide_eq_true c19
                  have c19b1 : decide (l0_1.length ≤ 30) = true := decide_eq_true (by omega)
                  clear c19
                  replace H := Option.bind_eq_some_iff.mp H
                  obtain ⟨t718, A200, H⟩ := H
                  replace H : (some t718) = some r := H
                  have A20 := Aside0.mk A200
                  clear A200
                  obtain rfl := Option.some.inj H
                  have hcz21_0 : wr.cell? ⟨gb712, 0, none⟩ = some (.slice A0_0 l0_0.length c0_0) := (blk_cell BK712.out 0).trans rfl
                  have hcz21_1 : wr.cell? ⟨gb712, 1, none⟩ = some (.slice A0_1 l0_1.length c0_1) := (blk_cell BK712.out 1).trans rfl
                  have hcz21_2 : wr.cell? ⟨gb712, 2, none⟩ = some (.int .i64 a0_2) := (blk_cell BK712.out 2).trans rfl
                  have hcz21_3 : wr.cell? ⟨gb712, 3, none⟩ = some (.bool a0_3) := (blk_cell BK712.out 3).trans rfl
                  have hfz21_0 := blk_frozen BK712.out 0
                  have hfz21_1 := blk_frozen BK712.out 1
                  have hfz21_2 := blk_frozen BK712.out 2
                  have hfz21_3 := blk_frozen BK712.out 3
                  go_wp2_with (first | (go_at_call 79; (with_reducible refine (spec_l1In.calls (l0_0.length : Int) 1 40 true _ A17.out).mono ?_); rintro e w' ⟨rfl, ⟨nd, rfl⟩⟩; (try first | exact ⟨rfl, _, World.drewN_drewN _ _ _⟩ | exact ⟨rfl, _, Eq.trans (World.drewN_drewN _ _ _) (congrArg (World.drewN _) (Nat.add_assoc _ _ _))⟩)) | (go_at_call 79; (with_reducible refine (spec_l1In.calls a0_2 (-1) 1000 t718 _ A20.out).mono ?_); rintro e w' ⟨rfl, ⟨nd, rfl⟩⟩; (try first | exact ⟨rfl, _, World.drewN_drewN _ _ _⟩ | exact ⟨rfl, _, Eq.trans (World.drewN_drewN _ _ _) (congrArg (World.drewN _) (Nat.add_assoc _ _ _))⟩)))
                  repeat (go_quiet (first | (go_at_call 79; (with_reducible refine (spec_l1In.calls (l0_0.length : Int) 1 40 true _ A17.out).mono ?_); rintro e w' ⟨rfl, ⟨nd, rfl⟩⟩; (try first | exact ⟨rfl, _, World.drewN_drewN _ _ _⟩ | exact ⟨rfl, _, Eq.trans (World.drewN_drewN _ _ _) (congrArg (World.drewN _) (Nat.add_assoc _ _ _))⟩)) | (go_at_call 79; (with_reducible refine (spec_l1In.calls a0_2 (-1) 1000 t718 _ A20.out).mono ?_); rintro e w' ⟨rfl, ⟨nd, rfl⟩⟩; (try first | exact ⟨rfl, _, World.drewN_drewN _ _ _⟩ | exact ⟨rfl, _, Eq.trans (World.drewN_drewN _ _ _) (congrArg (World.drewN _) (Nat.add_assoc _ _ _))⟩))); try go_wp2_with (first | (go_at_call 79; (with_reducible refine (spec_l1In.calls (l0_0.length : Int) 1 40 true _ A17.out).mono ?_); rintro e w' ⟨rfl, ⟨nd, rfl⟩⟩; (try first | exact ⟨rfl, _, World.drewN_drewN _ _ _⟩ | exact ⟨rfl, _, Eq.trans (World.drewN_drewN _ _ _) (congrArg (World.drewN _) (Nat.add_assoc _ _ _))⟩)) | (go_at_call 79; (with_reducible refine (spec_l1In.calls a0_2 (-1) 1000 t718 _ A20.out).mono ?_); rintro e w' ⟨rfl, ⟨nd, rfl⟩⟩; (try first | exact ⟨rfl, _, World.drewN_drewN _ _ _⟩ | exact ⟨rfl, _, Eq.trans (World.drewN_drewN _ _ _) (congrArg (World.drewN _) (Nat.add_assoc _ _ _))⟩))))
                  go_ret
                  exact ⟨by first | rfl | (simp [errW_none, errW_some] <;> rfl) | (simp [*, errW_none, errW_some] <;> rfl), by repeat (first | (with_reducible first | exact HB.out | apply below_alloc | apply pw_below_drewN | apply below_drew1 | refine below_set ?_ GE712.out) | exact HB.out)⟩
                · rw [if_neg c19] at H
                  have c19b0 : decide ((l0_1.length : Int) ≤ 30) = false := decide_eq_false c19
                  have c19b1 : decide (l0_1.length ≤ 30) = false := decide_eq_false (by omega)
                  clear c19
                  obtain rfl := Option.some.inj H
                  have hcz22_0 : wr.cell? ⟨gb712, 0, none⟩ = some (.slice A0_0 l0_0.length c0_0) := (blk_cell BK712.out 0).trans rfl
                  have hcz22_1 : wr.cell? ⟨gb712, 1, none⟩ = some (.slice A0_1 l0_1.length c0_1) := (blk_cell BK712.out 1).trans rfl
                  have hcz22_2 : wr.cell? ⟨gb712, 2, none⟩ = some (.int .i64 a0_2) := (blk_cell BK712.out 2).trans rfl
                  have hcz22_3 : wr.cell? ⟨gb712, 3, none⟩ = some (.bool a0_3) := (blk_cell BK712.out 3).trans rfl
                  have hfz22_0 := blk_frozen BK712.out 0
                  have hfz22_1 := blk_frozen BK712.out 1
                  have hfz22_2 := blk_frozen BK712.out 2
                  have hfz22_3 := blk_frozen BK712.out 3
                  go_wp2_with (first | (go_at_call 79; (with_reducible refine (spec_l1In.calls (l0_0.length : Int) 1 40 true _ A17.out).mono ?_); rintro e w' ⟨rfl, ⟨nd, rfl⟩⟩; (try first | exact ⟨rfl, _, World.drewN_drewN _ _ _⟩ | exact ⟨rfl, _, Eq.trans (World.drewN_drewN _ _ _) (congrArg (World.drewN _) (Nat.add_assoc _ _ _))⟩)))
                  repeat (go_quiet (first | (go_at_call 79; (with_reducible refine (spec_l1In.calls (l0_0.length : Int) 1 40 true _ A17.out).mono ?_); rintro e w' ⟨rfl, ⟨nd, rfl⟩⟩; (try first | exact ⟨rfl, _, World.drewN_drewN _ _ _⟩ | exact ⟨rfl, _, Eq.trans (World.drewN_drewN _ _ _) (congrArg (World.drewN _) (Nat.add_assoc _ _ _))⟩))); try go_wp2_with (first | (go_at_call 79; (with_reducible refine (spec_l1In.calls (l0_0.length : Int) 1 40 true _ A17.out).mono ?_); rintro e w' ⟨rfl, ⟨nd, rfl⟩⟩; (try first | exact ⟨rfl, _, World.drewN_drewN _ _ _⟩ | exact ⟨rfl, _, Eq.trans (World.drewN_drewN _ _ _) (congrArg (World.drewN _) (Nat.add_assoc _ _ _))⟩))))
                  go_ret
                  exact ⟨by first | rfl | (simp [errW_none, errW_some] <;> rfl) | (simp [*, errW_none, errW_some] <;> rfl), by repeat (first | (with_reducible first | exact HB.out | apply below_alloc | apply pw_below_drewN | apply below_drew1 | refine below_set ?_ GE712.out) | exact HB.out)⟩
              · replace c18 := Bool.eq_false_iff.mpr c18
                subst c18
                have H1 : (some false) = some r := by rw [if_neg (show ¬ (false = true) by decide)] at H; exact H
                clear H
                have H := H1
                clear H1
                obtain rfl := Option.some.inj H
                have hcz23_0 : wr.cell? ⟨gb712, 0, none⟩ = some (.slice A0_0 l0_0.length c0_0) := (blk_cell BK712.out 0).trans rfl
                have hcz23_1 : wr.cell? ⟨gb712, 1, none⟩ = some (.slice A0_1 l0_1.length c0_1) := (blk_cell BK712.out 1).trans rfl
                have hcz23_2 : wr.cell? ⟨gb712, 2, none⟩ = some (.int .i64 a0_2) := (blk_cell BK712.out 2).trans rfl
                have hcz23_3 : wr.cell? ⟨gb712, 3, none⟩ = some (.bool a0_3) := (blk_cell BK712.out 3).trans rfl
                have hfz23_0 := blk_frozen BK712.out 0
                have hfz23_1 := blk_frozen BK712.out 1
                have hfz23_2 := blk_frozen BK712.out 2
                have hfz23_3 := blk_frozen BK712.out 3
                go_wp2_with (first | (go_at_call 79; (with_reducible refine (spec_l1In.calls (l0_0.length : Int) 1 40 false _ A17.out).mono ?_); rintro e w' ⟨rfl, ⟨nd, rfl⟩⟩; (try first | exact ⟨rfl, _, World.drewN_drewN _ _ _⟩ | exact ⟨rfl, _, Eq.trans (World.drewN_drewN _ _ _) (congrArg (World.drewN _) (Nat.add_assoc _ _ _))⟩)))
                repeat (go_quiet (first | (go_at_call 79; (with_reducible refine (spec_l1In.calls (l0_0.length : Int) 1 40 false _ A17.out).mono ?_); rintro e w' ⟨rfl, ⟨nd, rfl⟩⟩; (try first | exact ⟨rfl, _, World.drewN_drewN _ _ _⟩ | exact ⟨rfl, _, Eq.trans (World.drewN_drewN _ _ _) (congrArg (World.drewN _) (Nat.add_assoc _ _ _))⟩))); try go_wp2_with (first | (go_at_call 79; (with_reducible refine (spec_l1In.calls (l0_0.length : Int) 1 40 false _ A17.out).mono ?_); rintro e w' ⟨rfl, ⟨nd, rfl⟩⟩; (try first | exact ⟨rfl, _, World.drewN_drewN _ _ _⟩ | exact ⟨rfl, _, Eq.trans (World.drewN_drewN _ _ _) (congrArg (World.drewN _) (Nat.add_assoc _ _ _))⟩))))
                go_ret
                exact ⟨by first | rfl | (simp [errW_none, errW_some] <;> rfl) | (simp [*, errW_none, errW_some] <;> rfl), by repeat (first | (with_reducible first | exact HB.out | apply below_alloc | apply pw_below_drewN | apply below_drew1 | refine below_set ?_ GE712.out) | exact HB.out)⟩

/-! ### impl_DiskOk: function 56 -/
theorem impl_DiskOk.mono_l : ∀ k, (∀ y0 y1 y2 y3 y4, LeO (impl_DiskOk.j0 k y0 y1 y2 y3 y4) (impl_DiskOk.j0 (k + 1) y0 y1 y2 y3 y4)) ∧ (∀ y0 y1 y2 y3 y4 y5 y6, LeO (impl_DiskOk.l0 k y0 y1 y2 y3 y4 y5 y6) (impl_DiskOk.l0 (k + 1) y0 y1 y2 y3 y4 y5 y6)) ∧ (∀ y0 y1 y2 y3 y4 y5 y6, LeO (impl_DiskOk.l1 k y0 y1 y2 y3 y4 y5 y6) (impl_DiskOk.l1 (k + 1) y0 y1 y2 y3 y4 y5 y6))
  | 0 => ⟨fun _ _ _ _ _ r h => by simp [impl_DiskOk.j0] at h, fun _ _ _ _ _ _ _ r h => by simp [impl_DiskOk.l0] at h, fun _ _ _ _ _ _ _ r h => by simp [impl_DiskOk.l1] at h⟩
  | k + 1 => by
    obtain ⟨ih0, ih1, ih2⟩ := impl_DiskOk.mono_l k
    refine ⟨?_, ?_, ?_⟩
    · intro y0 y1 y2 y3 y4
      unfold impl_DiskOk.j0
      repeat' first
      | (with_reducible exact ih0 _ _ _ _ _)
      | (with_reducible exact ih1 _ _ _ _ _ _ _)
      | (with_reducible exact ih2 _ _ _ _ _ _ _)
      | (with_reducible exact LeO.refl _)
      | (with_reducible exact LeO.none _)
      | (with_reducible refine LeO.ite ?_ ?_)
      | (with_reducible refine LeO.bind ?_ (fun _ => ?_))
      | exact ih0 _ _ _ _ _
      | exact ih1 _ _ _ _ _ _ _
      | exact ih2 _ _ _ _ _ _ _
      | exact LeO.none _
      | refine LeO.ite ?_ ?_
      | refine LeO.bind ?_ (fun _ => ?_)
    · intro y0 y1 y2 y3 y4 y5 y6
      unfold impl_DiskOk.l0
      repeat' first
      | (with_reducible exact ih0 _ _ _ _ _)
      | (with_reducible exact ih1 _ _ _ _ _ _ _)
      | (with_reducible exact ih2 _ _ _ _ _ _ _)
      | (with_reducible exact LeO.refl _)
      | (with_reducible exact LeO.none _)
      | (with_reducible refine LeO.ite ?_ ?_)
      | (with_reducible refine LeO.bind ?_ (fun _ => ?_))
      | exact ih0 _ _ _ _ _
      | exact ih1 _ _ _ _ _ _ _
      | exact ih2 _ _ _ _ _ _ _
      | exact LeO.none _
      | refine LeO.ite ?_ ?_
      | refine LeO.bind ?_ (fun _ => ?_)
    · intro y0 y1 y2 y3 y4 y5 y6
      unfold impl_DiskOk.l1
      repeat' first
      | (with_reducible exact ih0 _ _ _ _ _)
      | (with_reducible exact ih1 _ _ _ _ _ _ _)
      | (with_reducible exact ih2 _ _ _ _ _ _ _)
      | (with_reducible exact LeO.refl _)
      | (with_reducible exact LeO.none _)
      | (with_reducible refine LeO.ite ?_ ?_)
      | (with_reducible refine LeO.bind ?_ (fun _ => ?_))
      | exact ih0 _ _ _ _ _
      | exact ih1 _ _ _ _ _ _ _
      | exact ih2 _ _ _ _ _ _ _
      | exact LeO.none _
      | refine LeO.ite ?_ ?_
      | refine LeO.bind ?_ (fun _ => ?_)
theorem impl_DiskOk.mono : ∀ a0 a1 a2 a3 k, LeO (impl_DiskOk.f k a0 a1 a2 a3) (impl_DiskOk.f (k + 1) a0 a1 a2 a3) := by
  intro a0 a1 a2 a3 k
  obtain ⟨ih0, ih1, ih2⟩ := impl_DiskOk.mono_l k
  unfold impl_DiskOk.f
  repeat' first
      | (with_reducible exact ih0 _ _ _ _ _)
      | (with_reducible exact ih1 _ _ _ _ _ _ _)
      | (with_reducible exact ih2 _ _ _ _ _ _ _)
      | (with_reducible exact LeO.refl _)
      | (with_reducible exact LeO.none _)
      | (with_reducible refine LeO.ite ?_ ?_)
      | (with_reducible refine LeO.bind ?_ (fun _ => ?_))
      | exact ih0 _ _ _ _ _
      | exact ih1 _ _ _ _ _ _ _
      | exact ih2 _ _ _ _ _ _ _
      | exact LeO.none _
      | refine LeO.ite ?_ ?_
      | refine LeO.bind ?_ (fun _ => ?_)
set_option maxHeartbeats 8000000 in
set_option maxRecDepth 100000 in
theorem impl_DiskOk.calls (k : Nat) (A0_0 : Option Addr) (c0_0 : Nat) (l0_0 : List (List Int)) (A0_1 : Option Addr) (c0_1 : Nat) (l0_1 : List (S91)) (a0_2 : Int) (a0_3 : Bool) (r : Bool) (w : World) (hr0_0 : Kd.C (Kd.slice 5 (Kd.int .u8)) w A0_0 l0_0.length l0_0) (hc0_0 : l0_0.length ≤ c0_0) (hr0_1 : Kd.C k91 w A0_1 l0_1.length l0_1) (hc0_1 : l0_1.length ≤ c0_1) (h : impl_DiskOk.f k l0_0 l0_1 a0_2 a0_3 = some r) :
    Calls Try.prog 56 #[.agg #[.slice A0_0 l0_0.length c0_0, .slice A0_1 l0_1.length c0_1, .int .i64 a0_2, .bool a0_3]] w fun e w' => e = .returned (.bool r) ∧ Below w.heap.size w w' := by
  have hu54 := Try.underlying54
  have hu91 := Try.underlying91
  have HR0_0 := Aside0.mk hr0_0
  have HC0_0 := Aside0.mk hc0_0
  clear hr0_0 hc0_0
  have HR0_1 := Aside0.mk hr0_1
  have HC0_1 := Aside0.mk hc0_1
  clear hr0_1 hc0_1
  have HB := Aside0.mk (Below.refl w.heap.size w)
  have H : ((impl_isIn.f (l0_0.length : Int) 1 40).bind fun t752 => (if t752 = true then (if (l0_1.length : Int) > 30 then (impl_DiskOk.j0 k true l0_0 l0_1 a0_2 a0_3) else ((impl_isIn.f a0_2 (-1) 1000).bind fun t753 => (impl_DiskOk.j0 k (!t753) l0_0 l0_1 a0_2 a0_3))) else (impl_DiskOk.j0 k true l0_0 l0_1 a0_2 a0_3))) = some r := h
  clear h
  have HC2 := Aside0.mk H
  clear H
  go_enter Try.func56, Try.ntmps56
  go_upto_region 1 with (first | ((with_reducible refine gate_dst (N := 1) rfl ?_); (try (refine gate_guard (by rfl) ?_; dsimp only)); refine box_event ?hg (N := 1) ?hd (cs := #[.slice A0_0 l0_0.length c0_0, .slice A0_1 l0_1.length c0_1, .int .i64 a0_2, .bool a0_3]) (t := 54) ?hr ?_; (case hd => rfl); (case hg => rfl); (case hr => first | (go_simp; done) | (go_simp; rfl)); intro gb751 hg w3 hbox hb; have n0_ := Aside0.mk (below_step (by repeat (first | (with_reducible first | exact HB.out | apply below_alloc | apply pw_below_drewN | apply below_drew1) | exact HB.out)) hb); have n1_ := Aside0.mk (hbox); have n2_ := Aside0.mk ((by rw [hg]; exact (below_size (by repeat (first | (with_reducible first | exact HB.out | apply below_alloc | apply pw_below_drewN | apply below_drew1) | exact HB.out))) : w.heap.size ≤ gb751)); have n3_ := Aside0.mk ((by rw [hg]; exact (below_size (by repeat (first | (with_reducible first | exact HB.out | apply below_alloc | apply pw_below_drewN | apply below_drew1) | exact HB.out))) : w.heap.size ≤ gb751)); clear HB; have HB := n0_; have BK751 := n1_; have GW751 := n2_; have GE751 := n3_; clear n0_ n1_ n2_ n3_; clear hb hbox hg))
  (try simp only [Act.put, List.setIfInBounds_toArray, List.set_cons_zero, List.set_cons_succ])
  go_cut [23] (fun v23 wc => ∃ (kq : Nat) (x23_1 : Bool), v23 = .bool x23_1 ∧ Aside0 (impl_DiskOk.j0 kq x23_1 l0_0 l0_1 a0_2 a0_3 = some r) ∧ Aside0 (kq ≤ k) ∧ Aside0 (wc.heap[gb751]? = some (.cells #[(.slice A0_0 l0_0.length c0_0), (.slice A0_1 l0_1.length c0_1), .int .i64 a0_2, .bool a0_3] 54 (0, 0))) ∧ Aside0 (Below w.heap.size w wc))
  case first =>
    have H := HC2.out
    clear HC2
    replace H := Option.bind_eq_some_iff.mp H
    obtain ⟨t752, A40, H⟩ := H
    replace H : (if t752 = true then (if (l0_1.length : Int) > 30 then (impl_DiskOk.j0 k true l0_0 l0_1 a0_2 a0_3) else ((impl_isIn.f a0_2 (-1) 1000).bind fun t753 => (impl_DiskOk.j0 k (!t753) l0_0 l0_1 a0_2 a0_3))) else (impl_DiskOk.j0 k true l0_0 l0_1 a0_2 a0_3)) = some r := H
    have A4 := Aside0.mk A40
    clear A40
    by_cases c5 : t752 = true
    · subst c5
      have H1 : (if (l0_1.length : Int) > 30 then (impl_DiskOk.j0 k true l0_0 l0_1 a0_2 a0_3) else ((impl_isIn.f a0_2 (-1) 1000).bind fun t753 => (impl_DiskOk.j0 k (!t753) l0_0 l0_1 a0_2 a0_3))) = some r := by rw [if_pos rfl] at H; exact H
      clear H
      have H := H1
      clear H1
      by_cases c6 : (l0_1.length : Int) > 30
      · rw [if_pos c6] at H
        have c6b0 : decide (30 < (l0_1.length : Int)) = true := decide_eq_true c6
        have c6b1 : decide (30 < l0_1.length) = true := decide_eq_true (by omega)
        clear c6
        (first | rw [c6b0] | (simp only [i64_w, i32_w]; rw [c6b0]) | skip)
        have H' := Aside0.mk H
        clear H
        have hcz7_0 : w3.cell? ⟨gb751, 0, none⟩ = some (.slice A0_0 l0_0.length c0_0) := (blk_cell BK751.out 0).trans rfl
        have hcz7_1 : w3.cell? ⟨gb751, 1, none⟩ = some (.slice A0_1 l0_1.length c0_1) := (blk_cell BK751.out 1).trans rfl
        have hcz7_2 : w3.cell? ⟨gb751, 2, none⟩ = some (.int .i64 a0_2) := (blk_cell BK751.out 2).trans rfl
        have hcz7_3 : w3.cell? ⟨gb751, 3, none⟩ = some (.bool a0_3) := (blk_cell BK751.out 3).trans rfl
        have hfz7_0 := blk_frozen BK751.out 0
        have hfz7_1 := blk_frozen BK751.out 1
        have hfz7_2 := blk_frozen BK751.out 2
        have hfz7_3 := blk_frozen BK751.out 3
        go_wp2_with (first | ((with_reducible refine gate_callee (f := 81) rfl ?_); refine goesL_ (some 10) rfl rfl Try.func81 (by kernel_rfl) rfl #[.int .i64 (l0_0.length : Int), .int .i64 1, .int .i64 40] rfl (by (try simp only [List.map_toArray, List.map_cons, List.map_nil]); first | done | rfl | (simp only [List.length_drop, List.length_take]; rfl)) ?_; (with_reducible refine (impl_isIn.calls (l0_0.length : Int) 1 40 true _ A4.out).mono ?_); rintro e w' ⟨rfl, ⟨nd, rfl⟩⟩; refine ⟨_, rfl, ?_⟩))
        go_meet
        case rel => exact ⟨_, (true), (by first | rfl | (simp; done) | (simp [*]; done)), H', ⟨by first | omega | exact Nat.le_refl _⟩, ⟨by (with_reducible repeat (first | refine blk_drewN ?_ _ | refine blk_drew ?_ | refine blk_alloc ?_ _)); exact BK751.out⟩, ⟨by repeat (first | (with_reducible first | exact HB.out | apply below_alloc | apply pw_below_drewN | apply below_drew1 | refine below_set ?_ GE751.out) | exact HB.out)⟩⟩
      · rw [if_neg c6] at H
        have c6b0 : decide (30 < (l0_1.length : Int)) = false := decide_eq_false c6
        have c6b1 : decide (30 < l0_1.length) = false := decide_eq_false (by omega)
        clear c6
        (first | rw [c6b0] | (simp only [i64_w, i32_w]; rw [c6b0]) | skip)
        replace H := Option.bind_eq_some_iff.mp H
        obtain ⟨t753, A80, H⟩ := H
        replace H : (impl_DiskOk.j0 k (!t753) l0_0 l0_1 a0_2 a0_3) = some r := H
        have A8 := Aside0.mk A80
        clear A80
        have H' := Aside0.mk H
        clear H
        have hcz9_0 : w3.cell? ⟨gb751, 0, none⟩ = some (.slice A0_0 l0_0.length c0_0) := (blk_cell BK751.out 0).trans rfl
        have hcz9_1 : w3.cell? ⟨gb751, 1, none⟩ = some (.slice A0_1 l0_1.length c0_1) := (blk_cell BK751.out 1).trans rfl
        have hcz9_2 : w3.cell? ⟨gb751, 2, none⟩ = some (.int .i64 a0_2) := (blk_cell BK751.out 2).trans rfl
        have hcz9_3 : w3.cell? ⟨gb751, 3, none⟩ = some (.bool a0_3) := (blk_cell BK751.out 3).trans rfl
        have hfz9_0 := blk_frozen BK751.out 0
        have hfz9_1 := blk_frozen BK751.out 1
        have hfz9_2 := blk_frozen BK751.out 2
        have hfz9_3 := blk_frozen BK751.out 3
        go_wp2_with (first | ((with_reducible refine gate_callee (f := 81) rfl ?_); refine goesL_ (some 10) rfl rfl Try.func81 (by kernel_rfl) rfl #[.int .i64 (l0_0.length : Int), .int .i64 1, .int .i64 40] rfl (by (try simp only [List.map_toArray, List.map_cons, List.map_nil]); first | done | rfl | (simp only [List.length_drop, List.length_take]; rfl)) ?_; (with_reducible refine (impl_isIn.calls (l0_0.length : Int) 1 40 true _ A4.out).mono ?_); rintro e w' ⟨rfl, ⟨nd, rfl⟩⟩; refine ⟨_, rfl, ?_⟩) | (go_at_call 81; (with_reducible refine (impl_isIn.calls a0_2 (-1) 1000 t753 _ A8.out).mono ?_); rintro e w' ⟨rfl, ⟨nd, rfl⟩⟩))
        go_meet
        case rel => exact ⟨_, (!t753), (by first | rfl | (simp; done) | (simp [*]; done)), H', ⟨by first | omega | exact Nat.le_refl _⟩, ⟨by (with_reducible repeat (first | refine blk_drewN ?_ _ | refine blk_drew ?_ | refine blk_alloc ?_ _)); exact BK751.out⟩, ⟨by repeat (first | (with_reducible first | exact HB.out | apply below_alloc | apply pw_below_drewN | apply below_drew1 | refine below_set ?_ GE751.out) | exact HB.out)⟩⟩
    · replace c5 := Bool.eq_false_iff.mpr c5
      subst c5
      have H1 : (impl_DiskOk.j0 k true l0_0 l0_1 a0_2 a0_3) = some r := by rw [if_neg (show ¬ (false = true) by decide)] at H; exact H
      clear H
      have H := H1
      clear H1
      have H' := Aside0.mk H
      clear H
      have hcz10_0 : w3.cell? ⟨gb751, 0, none⟩ = some (.slice A0_0 l0_0.length c0_0) := (blk_cell BK751.out 0).trans rfl
      have hcz10_1 : w3.cell? ⟨gb751, 1, none⟩ = some (.slice A0_1 l0_1.length c0_1) := (blk_cell BK751.out 1).trans rfl
      have hcz10_2 : w3.cell? ⟨gb751, 2, none⟩ = some (.int .i64 a0_2) := (blk_cell BK751.out 2).trans rfl
      have hcz10_3 : w3.cell? ⟨gb751, 3, none⟩ = some (.bool a0_3) := (blk_cell BK751.out 3).trans rfl
      have hfz10_0 := blk_frozen BK751.out 0
      have hfz10_1 := blk_frozen BK751.out 1
      have hfz10_2 := blk_frozen BK751.out 2
      have hfz10_3 := blk_frozen BK751.out 3
      go_wp2_with (first | ((with_reducible refine gate_callee (f := 81) rfl ?_); refine goesL_ (some 10) rfl rfl Try.func81 (by kernel_rfl) rfl #[.int .i64 (l0_0.length : Int), .int .i64 1, .int .i64 40] rfl (by (try simp only [List.map_toArray, List.map_cons, List.map_nil]); first | done | rfl | (simp only [List.length_drop, List.length_take]; rfl)) ?_; (with_reducible refine (impl_isIn.calls (l0_0.length : Int) 1 40 false _ A4.out).mono ?_); rintro e w' ⟨rfl, ⟨nd, rfl⟩⟩; refine ⟨_, rfl, ?_⟩))
      go_meet
      case rel => exact ⟨_, (true), (by first | rfl | (simp; done) | (simp [*]; done)), H', ⟨by first | omega | exact Nat.le_refl _⟩, ⟨by (with_reducible repeat (first | refine blk_drewN ?_ _ | refine blk_drew ?_ | refine blk_alloc ?_ _)); exact BK751.out⟩, ⟨by repeat (first | (with_reducible first | exact HB.out | apply below_alloc | apply pw_below_drewN | apply below_drew1 | refine below_set ?_ GE751.out) | exact HB.out)⟩⟩
  case rest =>
    clear HC2
    try clear p2
    try clear c5
    try clear c6
    try clear c6b0
    try clear c6b1
    try clear c8
    try clear hcz10_0
    try clear hcz10_1
    try clear hcz10_2
    try clear hcz10_3
    try clear hcz7_0
    try clear hcz7_1
    try clear hcz7_2
    try clear hcz7_3
    try clear hcz9_0
    try clear hcz9_1
    try clear hcz9_2
    try clear hcz9_3
    try clear hfz10_0
    try clear hfz10_1
    try clear hfz10_2
    try clear hfz10_3
    try clear hfz7_0
    try clear hfz7_1
    try clear hfz7_2
    try clear hfz7_3
    try clear hfz9_0
    try clear hfz9_1
    try clear hfz9_2
    try clear hfz9_3
    obtain ⟨kq, x23_1, rfl, HA, HJ1, BK751, HB⟩ := hcut
    cases kq with
    | zero => exact absurd HA.out (by simp [impl_DiskOk.j0])
    | succ kj1 =>
      have H := HA.out
      clear HA
      simp only [impl_DiskOk.j0] at H
      by_cases c11 : x23_1 = true
      · subst c11
        have H1 : (some false) = some r := by rw [if_pos rfl] at H; exact H
        clear H
        have H := H1
        clear H1
        obtain rfl := Option.some.inj H
        go_wp2
        go_ret
        exact ⟨by first | rfl | (simp [errW_none, errW_some] <;> rfl) | (simp [*, errW_none, errW_some] <;> rfl), by repeat (first | (with_reducible first | exact HB.out | apply below_alloc | apply pw_below_drewN | apply below_drew1 | refine below_set ?_ GE751.out) | exact HB.out)⟩
      · replace c11 := Bool.eq_false_iff.mpr c11
        subst c11
        have H1 : (impl_DiskOk.l0 kj1 l0_0 (l0_0.length : Int) 0 l0_0 l0_1 a0_2 a0_3) = some r := by rw [if_neg (show ¬ (false = true) by decide)] at H; exact H
        clear H
        have H := H1
        clear H1
        have H' := Aside0.mk H
        clear H
        have hcz12_0 : wc.cell? ⟨gb751, 0, none⟩ = some (.slice A0_0 l0_0.length c0_0) := (blk_cell BK751.out 0).trans rfl
        have hcz12_1 : wc.cell? ⟨gb751, 1, none⟩ = some (.slice A0_1 l0_1.length c0_1) := (blk_cell BK751.out 1).trans rfl
        have hcz12_2 : wc.cell? ⟨gb751, 2, none⟩ = some (.int .i64 a0_2) := (blk_cell BK751.out 2).trans rfl
        have hcz12_3 : wc.cell? ⟨gb751, 3, none⟩ = some (.bool a0_3) := (blk_cell BK751.out 3).trans rfl
        have hfz12_0 := blk_frozen BK751.out 0
        have hfz12_1 := blk_frozen BK751.out 1
        have hfz12_2 := blk_frozen BK751.out 2
        have hfz12_3 := blk_frozen BK751.out 3
        go_wp2
        go_loopg [27] kj1 (fun kq v27 w' => ∃ (x27_2 : Int), v27 = .int .i64 x27_2 ∧ Aside0 (impl_DiskOk.l0 kq l0_0 (l0_0.length : Int) x27_2 l0_0 l0_1 a0_2 a0_3 = some r) ∧ Aside0 (kq ≤ kj1) ∧ Aside0 (w'.heap[gb751]? = some (.cells #[(.slice A0_0 l0_0.length c0_0), (.slice A0_1 l0_1.length c0_1), .int .i64 a0_2, .bool a0_3] 54 (0, 0))) ∧ Aside0 (Below w.heap.size w w'))
        case atStart => exact ⟨(0), (by first | rfl | (simp; done) | (simp [*]; done)), H', ⟨Nat.le_refl _⟩, ⟨by (with_reducible repeat (first | refine blk_drewN ?_ _ | refine blk_drew ?_ | refine blk_alloc ?_ _)); exact BK751.out⟩, ⟨by repeat (first | (with_reducible first | exact HB.out | apply below_alloc | apply pw_below_drewN | apply below_drew1 | refine below_set ?_ GE751.out) | exact HB.out)⟩⟩
        case round =>
          clear H'
          try clear c1
          try clear p2
          try clear c5
          try clear c6
          try clear c6b0
          try clear c6b1
          try clear c8
          try clear c11
          try clear hcz10_0
          try clear hcz10_1
          try clear hcz10_2
          try clear hcz10_3
          try clear hcz12_0
          try clear hcz12_1
          try clear hcz12_2
          try clear hcz12_3
          try clear hcz7_0
          try clear hcz7_1
          try clear hcz7_2
          try clear hcz7_3
          try clear hcz9_0
          try clear hcz9_1
          try clear hcz9_2
          try clear hcz9_3
          try clear hfz10_0
          try clear hfz10_1
          try clear hfz10_2
          try clear hfz10_3
          try clear hfz12_0
          try clear hfz12_1
          try clear hfz12_2
          try clear hfz12_3
          try clear hfz7_0
          try clear hfz7_1
          try clear hfz7_2
          try clear hfz7_3
          try clear hfz9_0
          try clear hfz9_1
          try clear hfz9_2
          try clear hfz9_3
          try clear p2
          obtain ⟨x27_2, rfl, HA, HK2, BK751, HB⟩ := hrel
          cases gk with
          | zero => exact absurd HA.out (by simp [impl_DiskOk.l0])
          | succ k2 =>
            have H := HA.out
            clear HA
            simp only [impl_DiskOk.l0] at H
            by_cases c13 : x27_2 < (l0_0.length : Int)
            · rw [if_pos c13] at H
              have c13b0 : decide (x27_2 < (l0_0.length : Int)) = true := decide_eq_true c13
              clear c13
              by_cases c14 : 0 ≤ x27_2
              · rw [if_pos c14] at H
                have c14b0 : decide (0 ≤ x27_2) = true := decide_eq_true c14
                clear c14
                by_cases c15 : x27_2 < (l0_0.length : Int)
                · rw [if_pos c15] at H
                  have c15b0 : decide (x27_2 < (l0_0.length : Int)) = true := decide_eq_true c15
                  clear c15
                  by_cases c16 : ((rd_L9 l0_0 x27_2).length : Int) > 160
                  · rw [if_pos c16] at H
                    have c16b0 : decide (160 < ((rd_L9 l0_0 x27_2).length : Int)) = true := decide_eq_true c16
                    have c16b1 : decide (160 < (rd_L9 l0_0 x27_2).length) = true := decide_eq_true (by omega)
                    clear c16
                    obtain rfl := Option.some.inj H
                    have p754 : 0 ≤ (x27_2 : Int) := of_decide_eq_true (by first | (with_reducible assumption) | assumption)
                    have q754 : x27_2 < (l0_0.length : Int) := of_decide_eq_true (by first | (with_reducible assumption) | assumption)
                    obtain ⟨ad754, A754_0, c754_0, e754, hx754_0, hl754_0, hi754_0⟩ := at_L9 HR0_0.out x27_2 p754 q754
                    cases e754
                    replace hx754_0 := (HB.out.cell (World.block_lt_of_cell? w _ hx754_0)).trans hx754_0
                    have HR754_0 := Aside0.mk hi754_0
                    have HC754_0 := Aside0.mk hl754_0
                    clear hi754_0 hl754_0
                    replace p754 := eq_true p754
                    replace q754 := eq_true q754
                    go_wp2
                    go_ret
                    exact ⟨by first | rfl | (simp [errW_none, errW_some] <;> rfl) | (simp [*, errW_none, errW_some] <;> rfl), by repeat (first | (with_reducible first | exact HB.out | apply below_alloc | apply pw_below_drewN | apply below_drew1 | refine below_set ?_ GE751.out) | exact HB.out)⟩
                  · rw [if_neg c16] at H
                    have c16b0 : decide (160 < ((rd_L9 l0_0 x27_2).length : Int)) = false := decide_eq_false c16
                    have c16b1 : decide (160 < (rd_L9 l0_0 x27_2).length) = false := decide_eq_false (by omega)
                    clear c16
                    have H' := Aside0.mk H
                    clear H
                    have p754 : 0 ≤ (x27_2 : Int) := of_decide_eq_true (by first | (with_reducible assumption) | assumption)
                    have q754 : x27_2 < (l0_0.length : Int) := of_decide_eq_true (by first | (with_reducible assumption) | assumption)
                    obtain ⟨ad754, A754_0, c754_0, e754, hx754_0, hl754_0, hi754_0⟩ := at_L9 HR0_0.out x27_2 p754 q754
                    cases e754
                    replace hx754_0 := (HB.out.cell (World.block_lt_of_cell? w _ hx754_0)).trans hx754_0
                    have HR754_0 := Aside0.mk hi754_0
                    have HC754_0 := Aside0.mk hl754_0
                    clear hi754_0 hl754_0
                    replace p754 := eq_true p754
                    replace q754 := eq_true q754
                    go_wp2
                    go_roundg k2
                    case measure => have := HJ1.out; have := HK2.out; omega
                    case rel => exact ⟨(wrap64 (x27_2 + 1)), (by first | rfl | (simp; done) | (simp [*]; done)), H', ⟨by have := HJ1.out; have := HK2.out; omega⟩, ⟨by (with_reducible repeat (first | refine blk_drewN ?_ _ | refine blk_drew ?_ | refine blk_alloc ?_ _)); exact BK751.out⟩, ⟨by repeat (first | (with_reducible first | exact HB.out | apply below_alloc | apply pw_below_drewN | apply below_drew1 | refine below_set ?_ GE751.out) | exact HB.out)⟩⟩
                · rw [if_neg c15] at H
                  exact absurd H (by simp)
              · rw [if_neg c14] at H
                exact absurd H (by simp)
            · rw [if_neg c13] at H
              have c13b0 : decide (x27_2 < (l0_0.length : Int)) = false := decide_eq_false c13
              clear c13
              have H' := Aside0.mk H
              clear H
              have hcz17_0 : wr.cell? ⟨gb751, 0, none⟩ = some (.slice A0_0 l0_0.length c0_0) := (blk_cell BK751.out 0).trans rfl
              have hcz17_1 : wr.cell? ⟨gb751, 1, none⟩ = some (.slice A0_1 l0_1.length c0_1) := (blk_cell BK751.out 1).trans rfl
              have hcz17_2 : wr.cell? ⟨gb751, 2, none⟩ = some (.int .i64 a0_2) := (blk_cell BK751.out 2).trans rfl
              have hcz17_3 : wr.cell? ⟨gb751, 3, none⟩ = some (.bool a0_3) := (blk_cell BK751.out 3).trans rfl
              have hfz17_0 := blk_frozen BK751.out 0
              have hfz17_1 := blk_frozen BK751.out 1
              have hfz17_2 := blk_frozen BK751.out 2
              have hfz17_3 := blk_frozen BK751.out 3
              go_wp2
              go_loopg [38] k2 (fun kq v38 w' => ∃ (x38_3 : Int), v38 = .int .i64 x38_3 ∧ Aside0 (impl_DiskOk.l1 kq l0_1 (l0_1.length : Int) x38_3 l0_0 l0_1 a0_2 a0_3 = some r) ∧ Aside0 (kq ≤ k2) ∧ Aside0 (w'.heap[gb751]? = some (.cells #[(.slice A0_0 l0_0.length c0_0), (.slice A0_1 l0_1.length c0_1), .int .i64 a0_2, .bool a0_3] 54 (0, 0))) ∧ Aside0 (Below w.heap.size w w'))
              case atStart => exact ⟨(0), (by first | rfl | (simp; done) | (simp [*]; done)), H', ⟨Nat.le_refl _⟩, ⟨by (with_reducible repeat (first | refine blk_drewN ?_ _ | refine blk_drew ?_ | refine blk_alloc ?_ _)); exact BK751.out⟩, ⟨by repeat (first | (with_reducible first | exact HB.out | apply below_alloc | apply pw_below_drewN | apply below_drew1 | refine below_set ?_ GE751.out) | exact HB.out)⟩⟩
              case round =>
                clear H'
                try clear c1
                try clear p2
                try clear c5
                try clear c6
                try clear c6b0
                try clear c6b1
                try clear p6
                try clear c7
                try clear p7
                try clear q7
                try clear hx7
                try clear c8
                try clear c11
                try clear c13
                try clear c13b0
                try clear c14
                try clear c14b0
                try clear c15
                try clear c15b0
                try clear c16
                try clear c16b0
                try clear c16b1
                try clear hcz10_0
                try clear hcz10_1
                try clear hcz10_2
                try clear hcz10_3
                try clear hcz12_0
                try clear hcz12_1
                try clear hcz12_2
                try clear hcz12_3
                try clear hcz17_0
                try clear hcz17_1
                try clear hcz17_2
                try clear hcz17_3
                try clear hcz7_0
                try clear hcz7_1
                try clear hcz7_2
                try clear hcz7_3
                try clear hcz9_0
                try clear hcz9_1
                try clear hcz9_2
                try clear hcz9_3
                try clear hfz10_0
                try clear hfz10_1
                try clear hfz10_2
                try clear hfz10_3
                try clear hfz12_0
                try clear hfz12_1
                try clear hfz12_2
                try clear hfz12_3
                try clear hfz17_0
                try clear hfz17_1
                try clear hfz17_2
                try clear hfz17_3
                try clear hfz7_0
                try clear hfz7_1
                try clear hfz7_2
                try clear hfz7_3
                try clear hfz9_0
                try clear hfz9_1
                try clear hfz9_2
                try clear hfz9_3
                try clear hx754_0
                try clear p2
                try clear p754
                try clear q754
                obtain ⟨x38_3, rfl, HA, HK3, BK751, HB⟩ := hrel
                cases gk with
                | zero => exact absurd HA.out (by simp [impl_DiskOk.l1])
                | succ k3 =>
                  have H := HA.out
                  clear HA
                  simp only [impl_DiskOk.l1] at H
                  by_cases c18 : x38_3 < (l0_1.length : Int)
                  · rw [if_pos c18] at H
                    have c18b0 : decide (x38_3 < (l0_1.length : Int)) = true := decide_eq_true c18
                    clear c18
                    by_cases c19 : 0 ≤ x38_3
                    · rw [if_pos c19] at H
                      have c19b0 : decide (0 ≤ x38_3) = true := decide_eq_true c19
                      clear c19
                      by_cases c20 : x38_3 < (l0_1.length : Int)
                      · rw [if_pos c20] at H
                        have c20b0 : decide (x38_3 < (l0_1.length : Int)) = true := decide_eq_true c20
                        clear c20
                        replace H := Option.bind_eq_some_iff.mp H
                        obtain ⟨t757, A210, H⟩ := H
                        replace H : (if t757 = true then (if (((rd_T91 l0_1 x38_3).f1).length : Int) > 160 then (some false) else (impl_DiskOk.l1 k3 l0_1 (l0_1.length : Int) (wrap64 (x38_3 + 1)) l0_0 l0_1 a0_2 a0_3)) else (some false)) = some r := H
                        have A21 := Aside0.mk A210
                        clear A210
                        by_cases c22 : t757 = true
                        · subst c22
                          have H1 : (if (((rd_T91 l0_1 x38_3).f1).length : Int) > 160 then (some false) else (impl_DiskOk.l1 k3 l0_1 (l0_1.length : Int) (wrap64 (x38_3 + 1)) l0_0 l0_1 a0_2 a0_3)) = some r := by rw [if_pos rfl] at H; exact H
                          clear H
                          have H := H1
                          clear H1
                          by_cases c23 : (((rd_T91 l0_1 x38_3).f1).length : Int) > 160
                          · rw [if_pos c23] at H
                            have c23b0 : decide (160 < (((rd_T91 l0_1 x38_3).f1).length : Int)) = true := decide_eq_true c23
                            have c23b1 : decide (160 < ((rd_T91 l0_1 x38_3).f1).length) = true := decide_eq_true (by omega)
                            clear c23
                            obtain rfl := Option.some.inj H
                            have p755 : 0 ≤ (x38_3 : Int) := of_decide_eq_true (by first | (with_reducible assumption) | assumption)
                            have q755 : x38_3 < (l0_1.length : Int) := of_decide_eq_true (by first | (with_reducible assumption) | assumption)
                            obtain ⟨ad755, A755_1, c755_1, e755, hx755_0, hx755_1, hl755_1, hi755_1⟩ := at_T91 HR0_1.out x38_3 p755 q755
                            cases e755
                            replace hx755_0 := (HB.out.cell (World.block_lt_of_cell? w _ hx755_0)).trans hx755_0
                            replace hx755_1 := (HB.out.cell (World.block_lt_of_cell? w _ hx755_1)).trans hx755_1
                            have HR755_1 := Aside0.mk hi755_1
                            have HC755_1 := Aside0.mk hl755_1
                            clear hi755_1 hl755_1
                            replace p755 := eq_true p755
                            replace q755 := eq_true q755
                            go_wp2_with (first | ((with_reducible refine gate_dst (N := 6) rfl ?_); (try (refine gate_guard (by rfl) ?_; dsimp only)); refine box_event ?hg (N := 6) ?hd (cs := #[.int .i64 0, .slice none 0 0]) (t := 91) ?hr ?_; (case hd => rfl); (case hg => rfl); (case hr => first | (go_simp; done) | (go_simp; rfl)); intro gb756 hg w24 hbox hb; have n0_ := Aside0.mk (blk_below (g := gb751) (o := .cells #[.slice A0_0 l0_0.length c0_0, .slice (some ad755) l0_1.length c0_1, .int .i64 a0_2, .bool a0_3] 54 (0, 0)) (by (with_reducible repeat (first | refine blk_drewN ?_ _ | refine blk_drew ?_ | refine blk_alloc ?_ _)); exact BK751.out) hb); have n1_ := Aside0.mk (below_step (by repeat (first | (with_reducible first | exact HB.out | apply below_alloc | apply pw_below_drewN | apply below_drew1 | refine below_set ?_ GE751.out) | exact HB.out)) hb); have n2_ := Aside0.mk (hbox); have n3_ := Aside0.mk ((by rw [hg]; exact (below_size (by repeat (first | (with_reducible first | exact HB.out | apply below_alloc | apply pw_below_drewN | apply below_drew1 | refine below_set ?_ GE751.out) | exact HB.out))) : w.heap.size ≤ gb756)); have n4_ := Aside0.mk ((by rw [hg]; exact (below_size (by repeat (first | (with_reducible first | exact HB.out | apply below_alloc | apply pw_below_drewN | apply below_drew1 | refine below_set ?_ GE751.out) | exact HB.out))) : w.heap.size ≤ gb756)); have n5_ := Aside0.mk ((by rw [hg]; exact Nat.ne_of_lt (blk_lt (g := gb751) (o := .cells #[.slice A0_0 l0_0.length c0_0, .slice (some ad755) l0_1.length c0_1, .int .i64 a0_2, .bool a0_3] 54 (0, 0)) (by (with_reducible repeat (first | refine blk_drewN ?_ _ | refine blk_drew ?_ | refine blk_alloc ?_ _)); exact BK751.out)) : gb751 ≠ gb756)); have n6_ := Aside0.mk ((by rw [hg]; exact Nat.ne_of_gt (blk_lt (g := gb751) (o := .cells #[.slice A0_0 l0_0.length c0_0, .slice (some ad755) l0_1.length c0_1, .int .i64 a0_2, .bool a0_3] 54 (0, 0)) (by (with_reducible repeat (first | refine blk_drewN ?_ _ | refine blk_drew ?_ | refine blk_alloc ?_ _)); exact BK751.out)) : gb756 ≠ gb751)); clear BK751; clear HB; have BK751 := n0_; have HB := n1_; have BK756 := n2_; have GW756 := n3_; have GE756 := n4_; have NB751_756 := n5_; have NB756_751 := n6_; clear n0_ n1_ n2_ n3_ n4_ n5_ n6_; clear hb hbox hg; have hnb25 := NB756_751.out; have hnc25 := NB751_756.out; have hcz26_0 : w24.cell? ⟨gb756, 0, none⟩ = some (.int .i64 0) := (blk_cell BK756.out 0).trans rfl; have hcz26_1 : w24.cell? ⟨gb756, 1, none⟩ = some (.slice none 0 0) := (blk_cell BK756.out 1).trans rfl; have hfz26_0 := blk_frozen BK756.out 0; have hfz26_1 := blk_frozen BK756.out 1; have hcz27_0 : w24.cell? ⟨gb751, 0, none⟩ = some (.slice A0_0 l0_0.length c0_0) := (blk_cell BK751.out 0).trans rfl; have hcz27_1 : w24.cell? ⟨gb751, 1, none⟩ = some (.slice (some ad755) l0_1.length c0_1) := (blk_cell BK751.out 1).trans rfl; have hcz27_2 : w24.cell? ⟨gb751, 2, none⟩ = some (.int .i64 a0_2) := (blk_cell BK751.out 2).trans rfl; have hcz27_3 : w24.cell? ⟨gb751, 3, none⟩ = some (.bool a0_3) := (blk_cell BK751.out 3).trans rfl; have hfz27_0 := blk_frozen BK751.out 0; have hfz27_1 := blk_frozen BK751.out 1; have hfz27_2 := blk_frozen BK751.out 2; have hfz27_3 := blk_frozen BK751.out 3) | ((with_reducible refine gate_callee (f := 81) rfl ?_); refine goesL_ (some 48) rfl rfl Try.func81 (by kernel_rfl) rfl #[.int .i64 ((rd_T91 l0_1 x38_3).f0), .int .i64 0, .int .i64 (wrap64 ((l0_0.length : Int) - 1))] rfl (by (try simp only [List.map_toArray, List.map_cons, List.map_nil]); first | done | rfl | (simp only [List.length_drop, List.length_take]; rfl)) ?_; (with_reducible refine (impl_isIn.calls ((rd_T91 l0_1 x38_3).f0) 0 (wrap64 ((l0_0.length : Int) - 1)) true _ A21.out).mono ?_); rintro e w' ⟨rfl, ⟨nd, rfl⟩⟩; refine ⟨_, rfl, ?_⟩))
                            go_ret
                            exact ⟨by first | rfl | (simp [errW_none, errW_some] <;> rfl) | (simp [*, errW_none, errW_some] <;> rfl), by repeat (first | (with_reducible first | exact HB.out | apply below_alloc | apply pw_below_drewN | apply below_drew1 | refine below_set ?_ GE751.out | refine below_set ?_ GE756.out) | exact HB.out)⟩
                          · rw [if_neg c23] at H
                            have c23b0 : decide (160 < (((rd_T91 l0_1 x38_3).f1).length : Int)) = false := decide_eq_false c23
                            have c23b1 : decide (160 < ((rd_T91 l0_1 x38_3).f1).length) = false := decide_eq_false (by omega)
                            clear c23
                            have H' := Aside0.mk H
                            clear H
                            have p755 : 0 ≤ (x38_3 : Int) := of_decide_eq_true (by first | (with_reducible assumption) | assumption)
                            have q755 : x38_3 < (l0_1.length : Int) := of_decide_eq_true (by first | (with_reducible assumption) | assumption)
                            obtain ⟨ad755, A755_1, c755_1, e755, hx755_0, hx755_1, hl755_1, hi755_1⟩ := at_T91 HR0_1.out x38_3 p755 q755
                            cases e755
                            replace hx755_0 := (HB.out.cell (World.block_lt_of_cell? w _ hx755_0)).trans hx755_0
                            replace hx755_1 := (HB.out.cell (World.block_lt_of_cell? w _ hx755_1)).trans hx755_1
                            have HR755_1 := Aside0.mk hi755_1
                            have HC755_1 := Aside0.mk hl755_1
                            clear hi755_1 hl755_1
                            replace p755 := eq_true p755
                            replace q755 := eq_true q755
                            go_wp2_with (first | ((with_reducible refine gate_dst (N := 6) rfl ?_); (try (refine gate_guard (by rfl) ?_; dsimp only)); refine box_event ?hg (N := 6) ?hd (cs := #[.int .i64 0, .slice none 0 0]) (t := 91) ?hr ?_; (case hd => rfl); (case hg => rfl); (case hr => first | (go_simp; done) | (go_simp; rfl)); intro gb756 hg w28 hbox hb; have n0_ := Aside0.mk (blk_below (g := gb751) (o := .cells #[.slice A0_0 l0_0.length c0_0, .slice (some ad755) l0_1.length c0_1, .int .i64 a0_2, .bool a0_3] 54 (0, 0)) (by (with_reducible repeat (first | refine blk_drewN ?_ _ | refine blk_drew ?_ | refine blk_alloc ?_ _)); exact BK751.out) hb); have n1_ := Aside0.mk (below_step (by repeat (first | (with_reducible first | exact HB.out | apply below_alloc | apply pw_below_drewN | apply below_drew1 | refine below_set ?_ GE751.out) | exact HB.out)) hb); have n2_ := Aside0.mk (hbox); have n3_ := Aside0.mk ((by rw [hg]; exact (below_size (by repeat (first | (with_reducible first | exact HB.out | apply below_alloc | apply pw_below_drewN | apply below_drew1 | refine below_set ?_ GE751.out) | exact HB.out))) : w.heap.size ≤ gb756)); have n4_ := Aside0.mk ((by rw [hg]; exact (below_size (by repeat (first | (with_reducible first | exact HB.out | apply below_alloc | apply pw_below_drewN | apply below_drew1 | refine below_set ?_ GE751.out) | exact HB.out))) : w.heap.size ≤ gb756)); have n5_ := Aside0.mk ((by rw [hg]; exact Nat.ne_of_lt (blk_lt (g := gb751) (o := .cells #[.slice A0_0 l0_0.length c0_0, .slice (some ad755) l0_1.length c0_1, .int .i64 a0_2, .bool a0_3] 54 (0, 0)) (by (with_reducible repeat (first | refine blk_drewN ?_ _ | refine blk_drew ?_ | refine blk_alloc ?_ _)); exact BK751.out)) : gb751 ≠ gb756)); have n6_ := Aside0.mk ((by rw [hg]; exact Nat.ne_of_gt (blk_lt (g := gb751) (o := .cells #[.slice A0_0 l0_0.length c0_0, .slice (some ad755) l0_1.length c0_1, .int .i64 a0_2, .bool a0_3] 54 (0, 0)) (by (with_reducible repeat (first | refine blk_drewN ?_ _ | refine blk_drew ?_ | refine blk_alloc ?_ _)); exact BK751.out)) : gb756 ≠ gb751)); clear BK751; clear HB; have BK751 := n0_; have HB := n1_; have BK756 := n2_; have GW756 := n3_; have GE756 := n4_; have NB751_756 := n5_; have NB756_751 := n6_; clear n0_ n1_ n2_ n3_ n4_ n5_ n6_; clear hb hbox hg; have hnb29 := NB756_751.out; have hnc29 := NB751_756.out; have hcz30_0 : w28.cell? ⟨gb756, 0, none⟩ = some (.int .i64 0) := (blk_cell BK756.out 0).trans rfl; have hcz30_1 : w28.cell? ⟨gb756, 1, none⟩ = some (.slice none 0 0) := (blk_cell BK756.out 1).trans rfl; have hfz30_0 := blk_frozen BK756.out 0; have hfz30_1 := blk_frozen BK756.out 1; have hcz31_0 : w28.cell? ⟨gb751, 0, none⟩ = some (.slice A0_0 l0_0.length c0_0) := (blk_cell BK751.out 0).trans rfl; have hcz31_1 : w28.cell? ⟨gb751, 1, none⟩ = some (.slice (some ad755) l0_1.length c0_1) := (blk_cell BK751.out 1).trans rfl; have hcz31_2 : w28.cell? ⟨gb751, 2, none⟩ = some (.int .i64 a0_2) := (blk_cell BK751.out 2).trans rfl; have hcz31_3 : w28.cell? ⟨gb751, 3, none⟩ = some (.bool a0_3) := (blk_cell BK751.out 3).trans rfl; have hfz31_0 := blk_frozen BK751.out 0; have hfz31_1 := blk_frozen BK751.out 1; have hfz31_2 := blk_frozen BK751.out 2; have hfz31_3 := blk_frozen BK751.out 3) | ((with_reducible refine gate_callee (f := 81) rfl ?_); refine goesL_ (some 48) rfl rfl Try.func81 (by kernel_rfl) rfl #[.int .i64 ((rd_T91 l0_1 x38_3).f0), .int .i64 0, .int .i64 (wrap64 ((l0_0.length : Int) - 1))] rfl (by (try simp only [List.map_toArray, List.map_cons, List.map_nil]); first | done | rfl | (simp only [List.length_drop, List.length_take]; rfl)) ?_; (with_reducible refine (impl_isIn.calls ((rd_T91 l0_1 x38_3).f0) 0 (wrap64 ((l0_0.length : Int) - 1)) true _ A21.out).mono ?_); rintro e w' ⟨rfl, ⟨nd, rfl⟩⟩; refine ⟨_, rfl, ?_⟩))
                            go_roundg k3
                            case measure => have := HJ1.out; have := HK2.out; have := HK3.out; omega
                            case rel => exact ⟨(wrap64 (x38_3 + 1)), (by first | rfl | (simp; done) | (simp [*]; done)), H', ⟨by have := HJ1.out; have := HK2.out; have := HK3.out; omega⟩, ⟨by (with_reducible repeat (first | refine blk_drewN ?_ _ | refine blk_drew ?_ | refine blk_alloc ?_ _)); refine blk_far ?_ NB751_756.out _; (with_reducible repeat (first | refine blk_drewN ?_ _ | refine blk_drew ?_ | refine blk_alloc ?_ _)); refine blk_far ?_ NB751_756.out _; (with_reducible repeat (first | refine blk_drewN ?_ _ | refine blk_drew ?_ | refine blk_alloc ?_ _)); exact BK751.out⟩, ⟨by repeat (first | (with_reducible first | exact HB.out | apply below_alloc | apply pw_below_drewN | apply below_drew1 | refine below_set ?_ GE751.out | refine below_set ?_ GE756.out) | exact HB.out)⟩⟩
                        · replace c22 := Bool.eq_false_iff.mpr c22
                          subst c22
                          have H1 : (some false) = some r := by rw [if_neg (show ¬ (false = true) by decide)] at H; exact H
                          clear H
                          have H := H1
                          clear H1
                          obtain rfl := Option.some.inj H
                          have p755 : 0 ≤ (x38_3 : Int) := of_decide_eq_true (by first | (with_reducible assumption) | assumption)
                          have q755 : x38_3 < (l0_1.length : Int) := of_decide_eq_true (by first | (with_reducible assumption) | assumption)
                          obtain ⟨ad755, A755_1, c755_1, e755, hx755_0, hx755_1, hl755_1, hi755_1⟩ := at_T91 HR0_1.out x38_3 p755 q755
                          cases e755
                          replace hx755_0 := (HB.out.cell (World.block_lt_of_cell? w _ hx755_0)).trans hx755_0
                          replace hx755_1 := (HB.out.cell (World.block_lt_of_cell? w _ hx755_1)).trans hx755_1
                          have HR755_1 := Aside0.mk hi755_1
                          have HC755_1 := Aside0.mk hl755_1
                          clear hi755_1 hl755_1
                          replace p755 := eq_true p755
                          replace q755 := eq_true q755
                          go_wp2_with (first | ((with_reducible refine gate_dst (N := 6) rfl ?_); (try (refine gate_guard (by rfl) ?_; dsimp only)); refine box_event ?hg (N := 6) ?hd (cs := #[.int .i64 0, .slice none 0 0]) (t := 91) ?hr ?_; (case hd => rfl); (case hg => rfl); (case hr => first | (go_simp; done) | (go_simp; rfl)); intro gb756 hg w32 hbox hb; have n0_ := Aside0.mk (blk_below (g := gb751) (o := .cells #[.slice A0_0 l0_0.length c0_0, .slice (some ad755) l0_1.length c0_1, .int .i64 a0_2, .bool a0_3] 54 (0, 0)) (by (with_reducible repeat (first | refine blk_drewN ?_ _ | refine blk_drew ?_ | refine blk_alloc ?_ _)); exact BK751.out) hb); have n1_ := Aside0.mk (below_step (by repeat (first | (with_reducible first | exact HB.out | apply below_alloc | apply pw_below_drewN | apply below_drew1 | refine below_set ?_ GE751.out) | exact HB.out)) hb); have n2_ := Aside0.mk (hbox); have n3_ := Aside0.mk ((by rw [hg]; exact (below_size (by repeat (first | (with_reducible first | exact HB.out | apply below_alloc | apply pw_below_drewN | apply below_drew1 | refine below_set ?_ GE751.out) | exact HB.out))) : w.heap.size ≤ gb756)); have n4_ := Aside0.mk ((by rw [hg]; exact (below_size (by repeat (first | (with_reducible first | exact HB.out | apply below_alloc | apply pw_below_drewN | apply below_drew1 | refine below_set ?_ GE751.out) | exact HB.out))) : w.heap.size ≤ gb756)); have n5_ := Aside0.mk ((by rw [hg]; exact Nat.ne_of_lt (blk_lt (g := gb751) (o := .cells #[.slice A0_0 l0_0.length c0_0, .slice (some ad755) l0_1.length c0_1, .int .i64 a0_2, .bool a0_3] 54 (0, 0)) (by (with_reducible repeat (first | refine blk_drewN ?_ _ | refine blk_drew ?_ | refine blk_alloc ?_ _)); exact BK751.out)) : gb751 ≠ gb756)); have n6_ := Aside0.mk ((by rw [hg]; exact Nat.ne_of_gt (blk_lt (g := gb751) (o := .cells #[.slice A0_0 l0_0.length c0_0, .slice (some ad755) l0_1.length c0_1, .int .i64 a0_2, .bool a0_3] 54 (0, 0)) (by (with_reducible repeat (first | refine blk_drewN ?_ _ | refine blk_drew ?_ | refine blk_alloc ?_ _)); exact BK751.out)) : gb756 ≠ gb751)); clear BK751; clear HB; have BK751 := n0_; have HB := n1_; have BK756 := n2_; have GW756 := n3_; have GE756 := n4_; have NB751_756 := n5_; have NB756_751 := n6_; clear n0_ n1_ n2_ n3_ n4_ n5_ n6_; clear hb hbox hg; have hnb33 := NB756_751.out; have hnc33 := NB751_756.out; have hcz34_0 : w32.cell? ⟨gb756, 0, none⟩ = some (.int .i64 0) := (blk_cell BK756.out 0).trans rfl; have hcz34_1 : w32.cell? ⟨gb756, 1, none⟩ = some (.slice none 0 0) := (blk_cell BK756.out 1).trans rfl; have hfz34_0 := blk_frozen BK756.out 0; have hfz34_1 := blk_frozen BK756.out 1; have hcz35_0 : w32.cell? ⟨gb751, 0, none⟩ = some (.slice A0_0 l0_0.length c0_0) := (blk_cell BK751.out 0).trans rfl; have hcz35_1 : w32.cell? ⟨gb751, 1, none⟩ = some (.slice (some ad755) l0_1.length c0_1) := (blk_cell BK751.out 1).trans rfl; have hcz35_2 : w32.cell? ⟨gb751, 2, none⟩ = some (.int .i64 a0_2) := (blk_cell BK751.out 2).trans rfl; have hcz35_3 : w32.cell? ⟨gb751, 3, none⟩ = some (.bool a0_3) := (blk_cell BK751.out 3).trans rfl; have hfz35_0 := blk_frozen BK751.out 0; have hfz35_1 := blk_frozen BK751.out 1; have hfz35_2 := blk_frozen BK751.out 2; have hfz35_3 := blk_frozen BK751.out 3) | ((with_reducible refine gate_callee (f := 81) rfl ?_); refine goesL_ (some 48) rfl rfl Try.func81 (by kernel_rfl) rfl #[.int .i64 ((rd_T91 l0_1 x38_3).f0), .int .i64 0, .int .i64 (wrap64 ((l0_0.length : Int) - 1))] rfl (by (try simp only [List.map_toArray, List.map_cons, List.map_nil]); first | done | rfl | (simp only [List.length_drop, List.length_take]; rfl)) ?_; (with_reducible refine (impl_isIn.calls ((rd_T91 l0_1 x38_3).f0) 0 (wrap64 ((l0_0.length : Int) - 1)) false _ A21.out).mono ?_); rintro e w' ⟨rfl, ⟨nd, rfl⟩⟩; refine ⟨_, rfl, ?_⟩))
                          go_ret
                          exact ⟨by first | rfl | (simp [errW_none, errW_some] <;> rfl) | (simp [*, errW_none, errW_some] <;> rfl), by repeat (first | (with_reducible first | exact HB.out | apply below_alloc | apply pw_below_drewN | apply below_drew1 | refine below_set ?_ GE751.out | refine below_set ?_ GE756.out) | exact HB.out)⟩
                      · rw [if_neg c20] at H
                        exact absurd H (by simp)
                    · rw [if_neg c19] at H
                      exact absurd H (by simp)
                  · rw [if_neg c18] at H
                    have c18b0 : decide (x38_3 < (l0_1.length : Int)) = false := decide_eq_false c18
                    clear c18
                    obtain rfl := Option.some.inj H
                    go_wp2
                    go_ret
                    exact ⟨by first | rfl | (simp [errW_none, errW_some] <;> rfl) | (simp [*, errW_none, errW_some] <;> rfl), by repeat (first | (with_reducible first | exact HB.out | apply below_alloc | apply pw_below_drewN | apply below_drew1 | refine below_set ?_ GE751.out) | exact HB.out)⟩

end Go.Proofs.Ytdanfcjaamcaiaa.P
