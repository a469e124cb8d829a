/- The statement FnExactApply: the law's row, out of its pure statement and the walk of its code. For every input the law returns true, and each argument reads behind the call as it read before; no condition beyond the row's own. -/
/- Texts of this claim, put together: Px27, Open, Base, Crc, Bytes, Lists, Conf, Frame, Dbs, NumText, ConfText, Split, Num, Numbers, Parse, ParseConf, ParseImpl, RecOk, KnownOk, Apply, PureFnExactApply, CardFnExactApply -/
import Derived.Test.YthkepmicdpgbbaaDoorPackFnExactApply4
import Derived.Deep.Slices
import Derived.ChangeArms
import Derived.WideShapes
import Derived.Laws.BitsLemmas
import Derived.Lib.ItoaLen
import Derived.Lib.Join
import Derived.Lib.SplitLaws
import Derived.Lib.IndexLaws
import Derived.Test.YthkepmicdpgbbaaDoorRows
import Derived.Test.YthkepmicdpgbbaaDoorCards
import Derived.Test.YthkepmicdpgbbaaDoorTie
import Derived.SevenTiedAt
import Derived.WalkKit
import Derived.ProofKit
import Derived.OpenShut
import Derived.ShutString
import Derived.ChangeOld
import Derived.Below
import Derived.SizedLaws
-- Written by xprint.py (by way of the kit's print program) out of the translation.
namespace Go.Proofs.YthkepmicdpgbbaaDoor.P
open Go.RowKit Go.Proofs.YthkepmicdpgbbaaDoorW.PrintWords Go.Proofs.YthkepmicdpgbbaaDoorW.PrintLast Go.Proofs.YthkepmicdpgbbaaDoorW.PrintMore
attribute [local go_sem] max2_int min2_int max_two min_two max_three min_three max_four min_four   -- for this text's walks alone
set_option linter.unusedVariables false
set_option linter.unusedSimpArgs false

/-! ### laws_FnExactApply: function 4 -/
def laws_FnExactApply.T8 : Bool × List (List Nat × List Nat) := (true, [([], []), ([0], [0]), ([], []), ([2, 1], [2]), ([1, 3, 3], [1, 3]), ([4], [4]), ([5], [5]), ([5], [5]), ([], []), ([8, 6, 4, 0, 1, 2, 3, 4, 5, 6, 8], [6, 8]), ([7, 9, 0, 1, 2, 3, 4, 5, 6, 7, 8, 9], [7])])
def laws_FnExactApply.B8 : List Nat := [0, 1, 0, 7, 15, 31, 63, 63, 0, 383, 1023]
theorem laws_FnExactApply.tab8 : rtab .any (opsOf Tryd.f4 8) = laws_FnExactApply.T8 := by kernel_rfl
theorem laws_FnExactApply.bits8 : waitsOk laws_FnExactApply.T8.2 laws_FnExactApply.B8 = true := by kernel_rfl
def laws_FnExactApply.T9 : Bool × List (List Nat × List Nat) := (true, [([], []), ([0], [0]), ([], []), ([2, 1], [2]), ([1, 3, 3], [1, 3]), ([4], [4]), ([5], [5]), ([5], [5]), ([], []), ([8, 6, 4, 0, 1, 2, 3, 4, 5, 6, 8], [6, 8]), ([7, 9, 0, 1, 2, 3, 4, 5, 6, 7, 8, 9], [7])])
def laws_FnExactApply.B9 : List Nat := [0, 1, 0, 7, 15, 31, 63, 63, 0, 383, 1023]
theorem laws_FnExactApply.tab9 : rtab .any (opsOf Tryd.f4 9) = laws_FnExactApply.T9 := by kernel_rfl
theorem laws_FnExactApply.bits9 : waitsOk laws_FnExactApply.T9.2 laws_FnExactApply.B9 = true := by kernel_rfl
set_option maxHeartbeats 100000000 in
set_option maxRecDepth 100000 in
theorem laws_FnExactApply.calls (k : Nat) (a0_0 : Int) (a0_1 : ByteArray) (a0_2 : Int) (a0_3 : ByteArray) (a0_4 : Int) (a0_5 : Int) (a1_0 : Int) (a1_1 : Int) (a1_2 : Int) (a1_3 : ByteArray) (r : Bool) (w : World) (hgw : GW w) (hr_ : Aside0 (r = true)) (h : laws_FnExactApply.f k a0_0 a0_1 a0_2 a0_3 a0_4 a0_5 a1_0 a1_1 a1_2 a1_3 = some r) :
  Calls Tryd.prog 4 #[.agg #[.int .i64 a0_0, .string a0_1, .int .i64 a0_2, .string a0_3, .int .i64 a0_4, .int .i64 a0_5], .agg #[.int .i64 a1_0, .int .i64 a1_1, .int .i64 a1_2, .string a1_3]] w fun e w' => e = .returned (.bool r) ∧ Below w.heap.size w w' := by
 have HGW := Aside0.mk hgw
 clear hgw
 have hu29 := Tryd.underlying29
 have hu31 := Tryd.underlying31
 have hu34 := Tryd.underlying34
 have HB := Aside0.mk (Below.refl w.heap.size w)
 have H : ((laws_szKnown.f a0_0 a0_1 a0_2 a0_3 a0_4 a0_5 1048576).bind fun t313 => (if t313 < 0 then (some true) else ((laws_szRec.f a1_0 a1_1 a1_2 a1_3 t313).bind fun t314 => (if t314 < 0 then (some true) else ((laws_toKnown.f a0_0 a0_1 a0_2 a0_3 a0_4 a0_5).bind fun bt315 => ((laws_toRec.f a1_0 a1_1 a1_2 a1_3).bind fun bt321 => ((spec_Apply.f k bt315.1 bt315.2.1 bt315.2.2.1 bt315.2.2.2.1 bt315.2.2.2.2.1 bt315.2.2.2.2.2 bt321.1 bt321.2.1 bt321.2.2.1 bt321.2.2.2).bind fun bt325 => ((laws_toKnown.f a0_0 a0_1 a0_2 a0_3 a0_4 a0_5).bind fun bt333 => ((laws_toRec.f a1_0 a1_1 a1_2 a1_3).bind fun bt339 => ((impl_Apply.f k bt333.1 bt333.2.1 bt333.2.2.1 bt333.2.2.2.1 bt333.2.2.2.2.1 bt333.2.2.2.2.2 bt339.1 bt339.2.1 bt339.2.2.1 bt339.2.2.2).bind fun bt343 => ((laws_eqKnown.f bt343.1 bt343.2.1 bt343.2.2.1 bt343.2.2.2.1 bt343.2.2.2.2.1 bt343.2.2.2.2.2.1 bt325.1 bt325.2.1 bt325.2.2.1 bt325.2.2.2.1 bt325.2.2.2.2.1 bt325.2.2.2.2.2.1).bind fun t351 => (if t351 = true then (if (bt343.2.2.2.2.2.2 != bt325.2.2.2.2.2.2) = true then (some false) else (some true)) else (some false))))))))))))) = some r := h
 clear h
 replace H := Option.bind_eq_some_iff.mp H
 obtain ⟨t313, A30, H⟩ := H
 replace H : (if t313 < 0 then (some true) else ((laws_szRec.f a1_0 a1_1 a1_2 a1_3 t313).bind fun t314 => (if t314 < 0 then (some true) else ((laws_toKnown.f a0_0 a0_1 a0_2 a0_3 a0_4 a0_5).bind fun bt315 => ((laws_toRec.f a1_0 a1_1 a1_2 a1_3).bind fun bt321 => ((spec_Apply.f k bt315.1 bt315.2.1 bt315.2.2.1 bt315.2.2.2.1 bt315.2.2.2.2.1 bt315.2.2.2.2.2 bt321.1 bt321.2.1 bt321.2.2.1 bt321.2.2.2).bind fun bt325 => ((laws_toKnown.f a0_0 a0_1 a0_2 a0_3 a0_4 a0_5).bind fun bt333 => ((laws_toRec.f a1_0 a1_1 a1_2 a1_3).bind fun bt339 => ((impl_Apply.f k bt333.1 bt333.2.1 bt333.2.2.1 bt333.2.2.2.1 bt333.2.2.2.2.1 bt333.2.2.2.2.2 bt339.1 bt339.2.1 bt339.2.2.1 bt339.2.2.2).bind fun bt343 => ((laws_eqKnown.f bt343.1 bt343.2.1 bt343.2.2.1 bt343.2.2.2.1 bt343.2.2.2.2.1 bt343.2.2.2.2.2.1 bt325.1 bt325.2.1 bt325.2.2.1 bt325.2.2.2.1 bt325.2.2.2.2.1 bt325.2.2.2.2.2.1).bind fun t351 => (if t351 = true then (if (bt343.2.2.2.2.2.2 != bt325.2.2.2.2.2.2) = true then (some false) else (some true)) else (some false)))))))))))) = some r := H
 have A3 := Aside0.mk A30
 clear A30
 by_cases c4 : t313 < 0
 ·rw [if_pos c4] at H
  have c4b0 : decide (t313 < 0) = true := decide_eq_true c4
  clear c4
  obtain rfl := Option.some.inj H
  go_enter Tryd.func4, Tryd.ntmps4
  go_wp2_with (first | ((with_reducible refine gate_dst (N := 2) rfl ?_); refine box_event ?hg (N := 2) ?hd (cs := #[.int .i64 a0_0, .string a0_1, .int .i64 a0_2, .string a0_3, .int .i64 a0_4, .int .i64 a0_5]) (t := 29) ?hr ?_; (case hd => rfl); (case hg => rfl); (case hr => first | (go_simp; done) | (go_simp; rfl)); intro gb311 hg w5 hbox hb; have n0_ := Aside0.mk (below_step z0_ hb); have n1_ := Aside0.mk (hbox); have n2_ := Aside0.mk ((by rw [hg]; exact (below_size z0_) : w.heap.size ≤ gb311)); have n3_ := Aside0.mk ((by rw [hg]; exact (below_size z0_) : w.heap.size ≤ gb311)); clear HB; have HB := n0_; have BK311 := n1_; have GW311 := n2_; have GE311 := n3_; clear n0_ n1_ n2_ n3_; clear hb hbox hg) | ((with_reducible refine gate_dst (N := 3) rfl ?_); refine box_event ?hg (N := 3) ?hd (cs := #[.int .i64 a1_0, .int .i64 a1_1, .int .i64 a1_2, .string a1_3]) (t := 31) ?hr ?_; (case hd => rfl); (case hg => rfl); (case hr => first | (go_simp; done) | (go_simp; rfl)); intro gb312 hg w6 hbox hb; have n0_ := Aside0.mk (blk_below (g := gb311) (o := .cells #[.int .i64 a0_0, .string a0_1, .int .i64 a0_2, .string a0_3, .int .i64 a0_4, .int .i64 a0_5] 29 (0, 0)) z6_ hb); have n1_ := Aside0.mk (below_step z28_ hb); have n2_ := Aside0.mk (hbox); have n3_ := Aside0.mk ((by rw [hg]; exact (below_size z28_) : w.heap.size ≤ gb312)); have n4_ := Aside0.mk ((by rw [hg]; exact (below_size z28_) : w.heap.size ≤ gb312)); have n5_ := Aside0.mk ((by rw [hg]; exact Nat.ne_of_lt (blk_lt (g := gb311) (o := .cells #[.int .i64 a0_0, .string a0_1, .int .i64 a0_2, .string a0_3, .int .i64 a0_4, .int .i64 a0_5] 29 (0, 0)) z6_) : gb311 ≠ gb312)); have n6_ := Aside0.mk ((by rw [hg]; exact Nat.ne_of_gt (blk_lt (g := gb311) (o := .cells #[.int .i64 a0_0, .string a0_1, .int .i64 a0_2, .string a0_3, .int .i64 a0_4, .int .i64 a0_5] 29 (0, 0)) z6_) : gb312 ≠ gb311)); clear BK311; clear HB; have BK311 := n0_; have HB := n1_; have BK312 := n2_; have GW312 := n3_; have GE312 := n4_; have NB311_312 := n5_; have NB312_311 := n6_; clear n0_ n1_ n2_ n3_ n4_ n5_ n6_; clear hb hbox hg; have hnb7 := NB311_312.out; have hnc7 := NB312_311.out; have hcz8_0 : w6.cell? ⟨gb311, 0, none⟩ = some (.int .i64 a0_0) := (blk_cell BK311.out 0).trans rfl; have hcz8_1 : w6.cell? ⟨gb311, 1, none⟩ = some (.string a0_1) := (blk_cell BK311.out 1).trans rfl; have hcz8_2 : w6.cell? ⟨gb311, 2, none⟩ = some (.int .i64 a0_2) := (blk_cell BK311.out 2).trans rfl; have hcz8_3 : w6.cell? ⟨gb311, 3, none⟩ = some (.string a0_3) := (blk_cell BK311.out 3).trans rfl; have hcz8_4 : w6.cell? ⟨gb311, 4, none⟩ = some (.int .i64 a0_4) := (blk_cell BK311.out 4).trans rfl; have hcz8_5 : w6.cell? ⟨gb311, 5, none⟩ = some (.int .i64 a0_5) := (blk_cell BK311.out 5).trans rfl; have hfz8_0 := blk_frozen BK311.out 0; have hfz8_1 := blk_frozen BK311.out 1; have hfz8_2 := blk_frozen BK311.out 2; have hfz8_3 := blk_frozen BK311.out 3; have hfz8_4 := blk_frozen BK311.out 4; have hfz8_5 := blk_frozen BK311.out 5) | ((with_reducible refine gate_callee (f := 14) rfl ?_); refine goesL_ (some 12) rfl rfl Tryd.func14 (by kernel_rfl) rfl #[.agg #[.int .i64 a0_0, .string a0_1, .int .i64 a0_2, .string a0_3, .int .i64 a0_4, .int .i64 a0_5], .int .i64 1048576] rfl z1_ ?_; (with_reducible refine (laws_szKnown.calls a0_0 a0_1 a0_2 a0_3 a0_4 a0_5 1048576 t313 _ A3.out).mono ?_); rintro e w9 ⟨rfl, hb⟩; refine ⟨_, rfl, ?_⟩; have n0_ := Aside0.mk (blk_below (g := gb311) (o := .cells #[.int .i64 a0_0, .string a0_1, .int .i64 a0_2, .string a0_3, .int .i64 a0_4, .int .i64 a0_5] 29 (0, 0)) z6_ hb); have n1_ := Aside0.mk (blk_below (g := gb312) (o := .cells #[.int .i64 a1_0, .int .i64 a1_1, .int .i64 a1_2, .string a1_3] 31 (0, 0)) z7_ hb); have n2_ := Aside0.mk (below_step z15_ hb); clear BK311; clear BK312; clear HB; have BK311 := n0_; have BK312 := n1_; have HB := n2_; clear n0_ n1_ n2_; (try clear hb); (try clear hb2); (try clear hk); (try clear hi)))
  go_ret
  exact ⟨by first | rfl | (simp [errW_none, errW_some] <;> rfl) | (simp [*, errW_none, errW_some] <;> rfl), by repeat (first | (with_reducible first | exact HB.out | apply below_alloc | apply pw_below_drewN | apply below_drew1 | refine below_set ?_ GE311.out | refine below_set ?_ GE312.out) | exact HB.out)⟩
 ·rw [if_neg c4] at H
  have c4b0 : decide (t313 < 0) = false := decide_eq_false c4
  clear c4
  replace H := Option.bind_eq_some_iff.mp H
  obtain ⟨t314, A100, H⟩ := H
  replace H : (if t314 < 0 then (some true) else ((laws_toKnown.f a0_0 a0_1 a0_2 a0_3 a0_4 a0_5).bind fun bt315 => ((laws_toRec.f a1_0 a1_1 a1_2 a1_3).bind fun bt321 => ((spec_Apply.f k bt315.1 bt315.2.1 bt315.2.2.1 bt315.2.2.2.1 bt315.2.2.2.2.1 bt315.2.2.2.2.2 bt321.1 bt321.2.1 bt321.2.2.1 bt321.2.2.2).bind fun bt325 => ((laws_toKnown.f a0_0 a0_1 a0_2 a0_3 a0_4 a0_5).bind fun bt333 => ((laws_toRec.f a1_0 a1_1 a1_2 a1_3).bind fun bt339 => ((impl_Apply.f k bt333.1 bt333.2.1 bt333.2.2.1 bt333.2.2.2.1 bt333.2.2.2.2.1 bt333.2.2.2.2.2 bt339.1 bt339.2.1 bt339.2.2.1 bt339.2.2.2).bind fun bt343 => ((laws_eqKnown.f bt343.1 bt343.2.1 bt343.2.2.1 bt343.2.2.2.1 bt343.2.2.2.2.1 bt343.2.2.2.2.2.1 bt325.1 bt325.2.1 bt325.2.2.1 bt325.2.2.2.1 bt325.2.2.2.2.1 bt325.2.2.2.2.2.1).bind fun t351 => (if t351 = true then (if (bt343.2.2.2.2.2.2 != bt325.2.2.2.2.2.2) = true then (some false) else (some true)) else (some false)))))))))) = some r := H
  have A10 := Aside0.mk A100
  clear A100
  by_cases c11 : t314 < 0
  ·rw [if_pos c11] at H
   have c11b0 : decide (t314 < 0) = true := decide_eq_true c11
   clear c11
   obtain rfl := Option.some.inj H
   go_enter Tryd.func4, Tryd.ntmps4
   go_wp2_with (first | ((with_reducible refine gate_dst (N := 2) rfl ?_); refine box_event ?hg (N := 2) ?hd (cs := #[.int .i64 a0_0, .string a0_1, .int .i64 a0_2, .string a0_3, .int .i64 a0_4, .int .i64 a0_5]) (t := 29) ?hr ?_; (case hd => rfl); (case hg => rfl); (case hr => first | (go_simp; done) | (go_simp; rfl)); intro gb311 hg w12 hbox hb; have n0_ := Aside0.mk (below_step z0_ hb); have n1_ := Aside0.mk (hbox); have n2_ := Aside0.mk ((by rw [hg]; exact (below_size z0_) : w.heap.size ≤ gb311)); have n3_ := Aside0.mk ((by rw [hg]; exact (below_size z0_) : w.heap.size ≤ gb311)); clear HB; have HB := n0_; have BK311 := n1_; have GW311 := n2_; have GE311 := n3_; clear n0_ n1_ n2_ n3_; clear hb hbox hg) | ((with_reducible refine gate_dst (N := 3) rfl ?_); refine box_event ?hg (N := 3) ?hd (cs := #[.int .i64 a1_0, .int .i64 a1_1, .int .i64 a1_2, .string a1_3]) (t := 31) ?hr ?_; (case hd => rfl); (case hg => rfl); (case hr => first | (go_simp; done) | (go_simp; rfl)); intro gb312 hg w13 hbox hb; have n0_ := Aside0.mk (blk_below (g := gb311) (o := .cells #[.int .i64 a0_0, .string a0_1, .int .i64 a0_2, .string a0_3, .int .i64 a0_4, .int .i64 a0_5] 29 (0, 0)) z6_ hb); have n1_ := Aside0.mk (below_step z28_ hb); have n2_ := Aside0.mk (hbox); have n3_ := Aside0.mk ((by rw [hg]; exact (below_size z28_) : w.heap.size ≤ gb312)); have n4_ := Aside0.mk ((by rw [hg]; exact (below_size z28_) : w.heap.size ≤ gb312)); have n5_ := Aside0.mk ((by rw [hg]; exact Nat.ne_of_lt (blk_lt (g := gb311) (o := .cells #[.int .i64 a0_0, .string a0_1, .int .i64 a0_2, .string a0_3, .int .i64 a0_4, .int .i64 a0_5] 29 (0, 0)) z6_) : gb311 ≠ gb312)); have n6_ := Aside0.mk ((by rw [hg]; exact Nat.ne_of_gt (blk_lt (g := gb311) (o := .cells #[.int .i64 a0_0, .string a0_1, .int .i64 a0_2, .string a0_3, .int .i64 a0_4, .int .i64 a0_5] 29 (0, 0)) z6_) : gb312 ≠ gb311)); clear BK311; clear HB; have BK311 := n0_; have HB := n1_; have BK312 := n2_; have GW312 := n3_; have GE312 := n4_; have NB311_312 := n5_; have NB312_311 := n6_; clear n0_ n1_ n2_ n3_ n4_ n5_ n6_; clear hb hbox hg; have hnb14 := NB311_312.out; have hnc14 := NB312_311.out; have hcz15_0 : w13.cell? ⟨gb311, 0, none⟩ = some (.int .i64 a0_0) := (blk_cell BK311.out 0).trans rfl; have hcz15_1 : w13.cell? ⟨gb311, 1, none⟩ = some (.string a0_1) := (blk_cell BK311.out 1).trans rfl; have hcz15_2 : w13.cell? ⟨gb311, 2, none⟩ = some (.int .i64 a0_2) := (blk_cell BK311.out 2).trans rfl; have hcz15_3 : w13.cell? ⟨gb311, 3, none⟩ = some (.string a0_3) := (blk_cell BK311.out 3).trans rfl; have hcz15_4 : w13.cell? ⟨gb311, 4, none⟩ = some (.int .i64 a0_4) := (blk_cell BK311.out 4).trans rfl; have hcz15_5 : w13.cell? ⟨gb311, 5, none⟩ = some (.int .i64 a0_5) := (blk_cell BK311.out 5).trans rfl; have hfz15_0 := blk_frozen BK311.out 0; have hfz15_1 := blk_frozen BK311.out 1; have hfz15_2 := blk_frozen BK311.out 2; have hfz15_3 := blk_frozen BK311.out 3; have hfz15_4 := blk_frozen BK311.out 4; have hfz15_5 := blk_frozen BK311.out 5) | ((with_reducible refine gate_callee (f := 14) rfl ?_); refine goesL_ (some 12) rfl rfl Tryd.func14 (by kernel_rfl) rfl #[.agg #[.int .i64 a0_0, .string a0_1, .int .i64 a0_2, .string a0_3, .int .i64 a0_4, .int .i64 a0_5], .int .i64 1048576] rfl z1_ ?_; (with_reducible refine (laws_szKnown.calls a0_0 a0_1 a0_2 a0_3 a0_4 a0_5 1048576 t313 _ A3.out).mono ?_); rintro e w16 ⟨rfl, hb⟩; refine ⟨_, rfl, ?_⟩; have n0_ := Aside0.mk (blk_below (g := gb311) (o := .cells #[.int .i64 a0_0, .string a0_1, .int .i64 a0_2, .string a0_3, .int .i64 a0_4, .int .i64 a0_5] 29 (0, 0)) z6_ hb); have n1_ := Aside0.mk (blk_below (g := gb312) (o := .cells #[.int .i64 a1_0, .int .i64 a1_1, .int .i64 a1_2, .string a1_3] 31 (0, 0)) z7_ hb); have n2_ := Aside0.mk (below_step z15_ hb); clear BK311; clear BK312; clear HB; have BK311 := n0_; have BK312 := n1_; have HB := n2_; clear n0_ n1_ n2_; (try clear hb); (try clear hb2); (try clear hk); (try clear hi); have hcz17_0 : w16.cell? ⟨gb312, 0, none⟩ = some (.int .i64 a1_0) := (blk_cell BK312.out 0).trans rfl; have hcz17_1 : w16.cell? ⟨gb312, 1, none⟩ = some (.int .i64 a1_1) := (blk_cell BK312.out 1).trans rfl; have hcz17_2 : w16.cell? ⟨gb312, 2, none⟩ = some (.int .i64 a1_2) := (blk_cell BK312.out 2).trans rfl; have hcz17_3 : w16.cell? ⟨gb312, 3, none⟩ = some (.string a1_3) := (blk_cell BK312.out 3).trans rfl; have hfz17_0 := blk_frozen BK312.out 0; have hfz17_1 := blk_frozen BK312.out 1; have hfz17_2 := blk_frozen BK312.out 2; have hfz17_3 := blk_frozen BK312.out 3) | ((with_reducible refine gate_callee (f := 15) rfl ?_); refine goesL_ (some 17) rfl rfl Tryd.func15 (by kernel_rfl) rfl #[.agg #[.int .i64 a1_0, .int .i64 a1_1, .int .i64 a1_2, .string a1_3], .int .i64 t313] rfl z1_ ?_; (with_reducible refine (laws_szRec.calls a1_0 a1_1 a1_2 a1_3 t313 t314 _ A10.out).mono ?_); rintro e w18 ⟨rfl, hb⟩; refine ⟨_, rfl, ?_⟩; have n0_ := Aside0.mk (blk_below (g := gb311) (o := .cells #[.int .i64 a0_0, .string a0_1, .int .i64 a0_2, .string a0_3, .int .i64 a0_4, .int .i64 a0_5] 29 (0, 0)) z6_ hb); have n1_ := Aside0.mk (blk_below (g := gb312) (o := .cells #[.int .i64 a1_0, .int .i64 a1_1, .int .i64 a1_2, .string a1_3] 31 (0, 0)) z7_ hb); have n2_ := Aside0.mk (below_step z15_ hb); clear BK311; clear BK312; clear HB; have BK311 := n0_; have BK312 := n1_; have HB := n2_; clear n0_ n1_ n2_; (try clear hb); (try clear hb2); (try clear hk); (try clear hi)))
   go_ret
   exact ⟨by first | rfl | (simp [errW_none, errW_some] <;> rfl) | (simp [*, errW_none, errW_some] <;> rfl), by repeat (first | (with_reducible first | exact HB.out | apply below_alloc | apply pw_below_drewN | apply below_drew1 | refine below_set ?_ GE311.out | refine below_set ?_ GE312.out) | exact HB.out)⟩
  ·rw [if_neg c11] at H
   have c11b0 : decide (t314 < 0) = false := decide_eq_false c11
   clear c11
   replace H := Option.bind_eq_some_iff.mp H
   obtain ⟨⟨t315, t316, t317, t318, t319, t320⟩, A190, H⟩ := H
   replace H : ((laws_toRec.f a1_0 a1_1 a1_2 a1_3).bind fun bt321 => ((spec_Apply.f k t315 t316 t317 t318 t319 t320 bt321.1 bt321.2.1 bt321.2.2.1 bt321.2.2.2).bind fun bt325 => ((laws_toKnown.f a0_0 a0_1 a0_2 a0_3 a0_4 a0_5).bind fun bt333 => ((laws_toRec.f a1_0 a1_1 a1_2 a1_3).bind fun bt339 => ((impl_Apply.f k bt333.1 bt333.2.1 bt333.2.2.1 bt333.2.2.2.1 bt333.2.2.2.2.1 bt333.2.2.2.2.2 bt339.1 bt339.2.1 bt339.2.2.1 bt339.2.2.2).bind fun bt343 => ((laws_eqKnown.f bt343.1 bt343.2.1 bt343.2.2.1 bt343.2.2.2.1 bt343.2.2.2.2.1 bt343.2.2.2.2.2.1 bt325.1 bt325.2.1 bt325.2.2.1 bt325.2.2.2.1 bt325.2.2.2.2.1 bt325.2.2.2.2.2.1).bind fun t351 => (if t351 = true then (if (bt343.2.2.2.2.2.2 != bt325.2.2.2.2.2.2) = true then (some false) else (some true)) else (some false)))))))) = some r := H
   have A19 := Aside0.mk A190
   clear A190
   replace H := Option.bind_eq_some_iff.mp H
   obtain ⟨⟨t321, t322, t323, t324⟩, A200, H⟩ := H
   replace H : ((spec_Apply.f k t315 t316 t317 t318 t319 t320 t321 t322 t323 t324).bind fun bt325 => ((laws_toKnown.f a0_0 a0_1 a0_2 a0_3 a0_4 a0_5).bind fun bt333 => ((laws_toRec.f a1_0 a1_1 a1_2 a1_3).bind fun bt339 => ((impl_Apply.f k bt333.1 bt333.2.1 bt333.2.2.1 bt333.2.2.2.1 bt333.2.2.2.2.1 bt333.2.2.2.2.2 bt339.1 bt339.2.1 bt339.2.2.1 bt339.2.2.2).bind fun bt343 => ((laws_eqKnown.f bt343.1 bt343.2.1 bt343.2.2.1 bt343.2.2.2.1 bt343.2.2.2.2.1 bt343.2.2.2.2.2.1 bt325.1 bt325.2.1 bt325.2.2.1 bt325.2.2.2.1 bt325.2.2.2.2.1 bt325.2.2.2.2.2.1).bind fun t351 => (if t351 = true then (if (bt343.2.2.2.2.2.2 != bt325.2.2.2.2.2.2) = true then (some false) else (some true)) else (some false))))))) = some r := H
   have A20 := Aside0.mk A200
   clear A200
   replace H := Option.bind_eq_some_iff.mp H
   obtain ⟨⟨t325, t326, t327, t328, t329, t330, t331⟩, A210, H⟩ := H
   replace H : ((laws_toKnown.f a0_0 a0_1 a0_2 a0_3 a0_4 a0_5).bind fun bt333 => ((laws_toRec.f a1_0 a1_1 a1_2 a1_3).bind fun bt339 => ((impl_Apply.f k bt333.1 bt333.2.1 bt333.2.2.1 bt333.2.2.2.1 bt333.2.2.2.2.1 bt333.2.2.2.2.2 bt339.1 bt339.2.1 bt339.2.2.1 bt339.2.2.2).bind fun bt343 => ((laws_eqKnown.f bt343.1 bt343.2.1 bt343.2.2.1 bt343.2.2.2.1 bt343.2.2.2.2.1 bt343.2.2.2.2.2.1 t325 t326 t327 t328 t329 t330).bind fun t351 => (if t351 = true then (if (bt343.2.2.2.2.2.2 != t331) = true then (some false) else (some true)) else (some false)))))) = some r := H
   have A21 := Aside0.mk A210
   clear A210
   replace H := Option.bind_eq_some_iff.mp H
   obtain ⟨⟨t333, t334, t335, t336, t337, t338⟩, A220, H⟩ := H
   replace H : ((laws_toRec.f a1_0 a1_1 a1_2 a1_3).bind fun bt339 => ((impl_Apply.f k t333 t334 t335 t336 t337 t338 bt339.1 bt339.2.1 bt339.2.2.1 bt339.2.2.2).bind fun bt343 => ((laws_eqKnown.f bt343.1 bt343.2.1 bt343.2.2.1 bt343.2.2.2.1 bt343.2.2.2.2.1 bt343.2.2.2.2.2.1 t325 t326 t327 t328 t329 t330).bind fun t351 => (if t351 = true then (if (bt343.2.2.2.2.2.2 != t331) = true then (some false) else (some true)) else (some false))))) = some r := H
   have A22 := Aside0.mk A220
   clear A220
   replace H := Option.bind_eq_some_iff.mp H
   obtain ⟨⟨t339, t340, t341, t342⟩, A230, H⟩ := H
   replace H : ((impl_Apply.f k t333 t334 t335 t336 t337 t338 t339 t340 t341 t342).bind fun bt343 => ((laws_eqKnown.f bt343.1 bt343.2.1 bt343.2.2.1 bt343.2.2.2.1 bt343.2.2.2.2.1 bt343.2.2.2.2.2.1 t325 t326 t327 t328 t329 t330).bind fun t351 => (if t351 = true then (if (bt343.2.2.2.2.2.2 != t331) = true then (some false) else (some true)) else (some false)))) = some r := H
   have A23 := Aside0.mk A230
   clear A230
   replace H := Option.bind_eq_some_iff.mp H
   obtain ⟨⟨t343, t344, t345, t346, t347, t348, t349⟩, A240, H⟩ := H
   replace H : ((laws_eqKnown.f t343 t344 t345 t346 t347 t348 t325 t326 t327 t328 t329 t330).bind fun t351 => (if t351 = true then (if (t349 != t331) = true then (some false) else (some true)) else (some false))) = some r := H
   have A24 := Aside0.mk A240
   clear A240
   replace H := Option.bind_eq_some_iff.mp H
   obtain ⟨t351, A250, H⟩ := H
   replace H : (if t351 = true then (if (t349 != t331) = true then (some false) else (some true)) else (some false)) = some r := H
   have A25 := Aside0.mk A250
   clear A250
   by_cases c26 : t351 = true
   ·subst c26
    have H1 : (if (t349 != t331) = true then (some false) else (some true)) = some r := by rw [if_pos rfl] at H; exact H
    clear H
    have H := H1
    clear H1
    by_cases c27 : (t349 != t331) = true
    ·rw [if_pos c27] at H
     have c27b0 : (t349 != t331) = true := c27
     (try (have c27b1 : decide (t349 = t331) = false := by simpa using c27))
     (try (have c27b2 : (t349 == t331) = false := by simpa using c27))
     (try (have c27b3 : ¬ (t349 = t331) := by simpa using c27))
     clear c27
     exact absurd ((Option.some.inj H).trans hr_.out) (by decide)
    ·rw [if_neg c27] at H
     have c27b0 : (t349 != t331) = false := by simpa using c27
     (try (have c27b1 : decide (t349 = t331) = true := by simpa using c27))
     (try (have c27b2 : (t349 == t331) = true := by simpa using c27))
     clear c27
     obtain rfl := Option.some.inj H
     go_enter Tryd.func4, Tryd.ntmps4
     try go_wp2_with (first | ((with_reducible refine gate_dst (N := 2) rfl ?_); refine box_event ?hg (N := 2) ?hd (cs := #[.int .i64 a0_0, .string a0_1, .int .i64 a0_2, .string a0_3, .int .i64 a0_4, .int .i64 a0_5]) (t := 29) ?hr ?_; (case hd => rfl); (case hg => rfl); (case hr => first | (go_simp; done) | (go_simp; rfl)); intro gb311 hg w28 hbox hb; have n0_ := Aside0.mk (below_step z0_ hb); have n1_ := Aside0.mk (hbox); have n2_ := Aside0.mk ((by rw [hg]; exact (below_size z0_) : w.heap.size ≤ gb311)); have n3_ := Aside0.mk ((by rw [hg]; exact (below_size z0_) : w.heap.size ≤ gb311)); clear HB; have HB := n0_; have BK311 := n1_; have GW311 := n2_; have GE311 := n3_; clear n0_ n1_ n2_ n3_; clear hb hbox hg) | ((with_reducible refine gate_dst (N := 3) rfl ?_); refine box_event ?hg (N := 3) ?hd (cs := #[.int .i64 a1_0, .int .i64 a1_1, .int .i64 a1_2, .string a1_3]) (t := 31) ?hr ?_; (case hd => rfl); (case hg => rfl); (case hr => first | (go_simp; done) | (go_simp; rfl)); intro gb312 hg w29 hbox hb; have n0_ := Aside0.mk (blk_below (g := gb311) (o := .cells #[.int .i64 a0_0, .string a0_1, .int .i64 a0_2, .string a0_3, .int .i64 a0_4, .int .i64 a0_5] 29 (0, 0)) z6_ hb); have n1_ := Aside0.mk (below_step z28_ hb); have n2_ := Aside0.mk (hbox); have n3_ := Aside0.mk ((by rw [hg]; exact (below_size z28_) : w.heap.size ≤ gb312)); have n4_ := Aside0.mk ((by rw [hg]; exact (below_size z28_) : w.heap.size ≤ gb312)); have n5_ := Aside0.mk ((by rw [hg]; exact Nat.ne_of_lt (blk_lt (g := gb311) (o := .cells #[.int .i64 a0_0, .string a0_1, .int .i64 a0_2, .string a0_3, .int .i64 a0_4, .int .i64 a0_5] 29 (0, 0)) z6_) : gb311 ≠ gb312)); have n6_ := Aside0.mk ((by rw [hg]; exact Nat.ne_of_gt (blk_lt (g := gb311) (o := .cells #[.int .i64 a0_0, .string a0_1, .int .i64 a0_2, .string a0_3, .int .i64 a0_4, .int .i64 a0_5] 29 (0, 0)) z6_) : gb312 ≠ gb311)); clear BK311; clear HB; have BK311 := n0_; have HB := n1_; have BK312 := n2_; have GW312 := n3_; have GE312 := n4_; have NB311_312 := n5_; have NB312_311 := n6_; clear n0_ n1_ n2_ n3_ n4_ n5_ n6_; clear hb hbox hg; have hnb30 := NB311_312.out; have hnc30 := NB312_311.out; have hcz31_0 : w29.cell? ⟨gb311, 0, none⟩ = some (.int .i64 a0_0) := (blk_cell BK311.out 0).trans rfl; have hcz31_1 : w29.cell? ⟨gb311, 1, none⟩ = some (.string a0_1) := (blk_cell BK311.out 1).trans rfl; have hcz31_2 : w29.cell? ⟨gb311, 2, none⟩ = some (.int .i64 a0_2) := (blk_cell BK311.out 2).trans rfl; have hcz31_3 : w29.cell? ⟨gb311, 3, none⟩ = some (.string a0_3) := (blk_cell BK311.out 3).trans rfl; have hcz31_4 : w29.cell? ⟨gb311, 4, none⟩ = some (.int .i64 a0_4) := (blk_cell BK311.out 4).trans rfl; have hcz31_5 : w29.cell? ⟨gb311, 5, none⟩ = some (.int .i64 a0_5) := (blk_cell BK311.out 5).trans rfl; have hfz31_0 := blk_frozen BK311.out 0; have hfz31_1 := blk_frozen BK311.out 1; have hfz31_2 := blk_frozen BK311.out 2; have hfz31_3 := blk_frozen BK311.out 3; have hfz31_4 := blk_frozen BK311.out 4; have hfz31_5 := blk_frozen BK311.out 5) | ((with_reducible refine gate_callee (f := 14) rfl ?_); refine goesL_ (some 12) rfl rfl Tryd.func14 (by kernel_rfl) rfl #[.agg #[.int .i64 a0_0, .string a0_1, .int .i64 a0_2, .string a0_3, .int .i64 a0_4, .int .i64 a0_5], .int .i64 1048576] rfl z1_ ?_; (with_reducible refine (laws_szKnown.calls a0_0 a0_1 a0_2 a0_3 a0_4 a0_5 1048576 t313 _ A3.out).mono ?_); rintro e w32 ⟨rfl, hb⟩; refine ⟨_, rfl, ?_⟩; have n0_ := Aside0.mk (blk_below (g := gb311) (o := .cells #[.int .i64 a0_0, .string a0_1, .int .i64 a0_2, .string a0_3, .int .i64 a0_4, .int .i64 a0_5] 29 (0, 0)) z6_ hb); have n1_ := Aside0.mk (blk_below (g := gb312) (o := .cells #[.int .i64 a1_0, .int .i64 a1_1, .int .i64 a1_2, .string a1_3] 31 (0, 0)) z7_ hb); have n2_ := Aside0.mk (below_step z15_ hb); clear BK311; clear BK312; clear HB; have BK311 := n0_; have BK312 := n1_; have HB := n2_; clear n0_ n1_ n2_; (try clear hb); (try clear hb2); (try clear hk); (try clear hi); have hcz33_0 : w32.cell? ⟨gb312, 0, none⟩ = some (.int .i64 a1_0) := (blk_cell BK312.out 0).trans rfl; have hcz33_1 : w32.cell? ⟨gb312, 1, none⟩ = some (.int .i64 a1_1) := (blk_cell BK312.out 1).trans rfl; have hcz33_2 : w32.cell? ⟨gb312, 2, none⟩ = some (.int .i64 a1_2) := (blk_cell BK312.out 2).trans rfl; have hcz33_3 : w32.cell? ⟨gb312, 3, none⟩ = some (.string a1_3) := (blk_cell BK312.out 3).trans rfl; have hfz33_0 := blk_frozen BK312.out 0; have hfz33_1 := blk_frozen BK312.out 1; have hfz33_2 := blk_frozen BK312.out 2; have hfz33_3 := blk_frozen BK312.out 3) | ((with_reducible refine gate_callee (f := 15) rfl ?_); refine goesL_ (some 17) rfl rfl Tryd.func15 (by kernel_rfl) rfl #[.agg #[.int .i64 a1_0, .int .i64 a1_1, .int .i64 a1_2, .string a1_3], .int .i64 t313] rfl z1_ ?_; (with_reducible refine (laws_szRec.calls a1_0 a1_1 a1_2 a1_3 t313 t314 _ A10.out).mono ?_); rintro e w34 ⟨rfl, hb⟩; refine ⟨_, rfl, ?_⟩; have n0_ := Aside0.mk (blk_below (g := gb311) (o := .cells #[.int .i64 a0_0, .string a0_1, .int .i64 a0_2, .string a0_3, .int .i64 a0_4, .int .i64 a0_5] 29 (0, 0)) z6_ hb); have n1_ := Aside0.mk (blk_below (g := gb312) (o := .cells #[.int .i64 a1_0, .int .i64 a1_1, .int .i64 a1_2, .string a1_3] 31 (0, 0)) z7_ hb); have n2_ := Aside0.mk (below_step z15_ hb); clear BK311; clear BK312; clear HB; have BK311 := n0_; have BK312 := n1_; have HB := n2_; clear n0_ n1_ n2_; (try clear hb); (try clear hb2); (try clear hk); (try clear hi)))
     have n0_ := Aside0.mk (blk_drew BK311.out)
     have n1_ := Aside0.mk (blk_drew BK312.out)
     have n2_ := Aside0.mk (below_drew1 HB.out)
     clear BK311
     clear BK312
     clear HB
     have BK311 := n0_
     have BK312 := n1_
     have HB := n2_
     clear n0_ n1_ n2_
     refine start_ (n := 11) (S := fun w' => w'.cell? ⟨gb311, 0, none⟩ = some (.int .i64 a0_0) ∧ w'.cell? ⟨gb311, 1, none⟩ = some (.string a0_1) ∧ w'.cell? ⟨gb311, 2, none⟩ = some (.int .i64 a0_2) ∧ w'.cell? ⟨gb311, 3, none⟩ = some (.string a0_3) ∧ w'.cell? ⟨gb311, 4, none⟩ = some (.int .i64 a0_4) ∧ w'.cell? ⟨gb311, 5, none⟩ = some (.int .i64 a0_5) ∧ w'.cell? ⟨gb312, 0, none⟩ = some (.int .i64 a1_0) ∧ w'.cell? ⟨gb312, 1, none⟩ = some (.int .i64 a1_1) ∧ w'.cell? ⟨gb312, 2, none⟩ = some (.int .i64 a1_2) ∧ w'.cell? ⟨gb312, 3, none⟩ = some (.string a1_3)) (ds := []) #[false, false, false, false, false, false, false, false, false, false, false] (by kernel_rfl) rfl rfl ⟨(blk_cell BK311.out 0).trans rfl, (blk_cell BK311.out 1).trans rfl, (blk_cell BK311.out 2).trans rfl, (blk_cell BK311.out 3).trans rfl, (blk_cell BK311.out 4).trans rfl, (blk_cell BK311.out 5).trans rfl, (blk_cell BK312.out 0).trans rfl, (blk_cell BK312.out 1).trans rfl, (blk_cell BK312.out 2).trans rfl, (blk_cell BK312.out 3).trans rfl⟩ (fun hHeld => ?_); refine with_tabW laws_FnExactApply.tab8 laws_FnExactApply.bits8 (fun HT_ HW_ => ?_)
     generalize w34.drew = w35 at BK311 BK312 HB hHeld ⊢
     refine take_ (i := 0) (N := some 21) (v := ?_) (a' := ?_) #[true, false, false, false, false, false, false, false, false, false, false] rfl rfl (take_ofW HT_.out HW_.out (by kernel_rfl)) (fun _ _ _ h => h) (Or.inl ⟨by rfl, ?_⟩) hHeld ?_ ?_
     rotate_left
     ·rintro w' ⟨s0, s1, s2, s3, s4, s5, s6, s7, s8, s9⟩
      go_simp
      with_reducible rfl
     rotate_left
     ·simp only [Act.put, List.setIfInBounds_toArray, List.set_cons_zero, List.set_cons_succ, i64_w, i32_w]
      rfl
     refine take_ (i := 2) (N := some 23) (v := ?_) (a' := ?_) #[true, false, true, false, false, false, false, false, false, false, false] rfl rfl (take_ofW HT_.out HW_.out (by kernel_rfl)) (fun _ _ _ h => h) (Or.inl ⟨by rfl, ?_⟩) hHeld ?_ ?_
     rotate_left
     ·rintro w' ⟨s0, s1, s2, s3, s4, s5, s6, s7, s8, s9⟩
      go_simp
      with_reducible rfl
     rotate_left
     ·simp only [Act.put, List.setIfInBounds_toArray, List.set_cons_zero, List.set_cons_succ, i64_w, i32_w]
      rfl
     refine join_ (σ := Nat) 2 #[true, true, true, true, true, true, true, true, true, false, false] (fun s_ => [(22, .agg #[.int .i64 t315, .string t316, .int .i64 t317, .string t318, .int .i64 t319, .int .i64 t320]), (24, .agg #[.int .i64 t321, .int .i64 t322, .int .i64 t323, .string t324]), (25, .tuple #[.agg #[.int .i64 t325, .string t326, .int .i64 t327, .string t328, .int .i64 t329, .int .i64 t330], .bool t331]), (6, .pointer (some ⟨s_, 0, none⟩)), (20, .tuple #[.agg #[.int .i64 t325, .string t326, .int .i64 t327, .string t328, .int .i64 t329, .int .i64 t330], .bool t331]), (26, .agg #[.int .i64 t325, .string t326, .int .i64 t327, .string t328, .int .i64 t329, .int .i64 t330]), (27, .bool t331)]) (fun s_ w' => (w'.cell? ⟨gb311, 0, none⟩ = some (.int .i64 a0_0) ∧ w'.cell? ⟨gb311, 1, none⟩ = some (.string a0_1) ∧ w'.cell? ⟨gb311, 2, none⟩ = some (.int .i64 a0_2) ∧ w'.cell? ⟨gb311, 3, none⟩ = some (.string a0_3) ∧ w'.cell? ⟨gb311, 4, none⟩ = some (.int .i64 a0_4) ∧ w'.cell? ⟨gb311, 5, none⟩ = some (.int .i64 a0_5) ∧ w'.cell? ⟨gb312, 0, none⟩ = some (.int .i64 a1_0) ∧ w'.cell? ⟨gb312, 1, none⟩ = some (.int .i64 a1_1) ∧ w'.cell? ⟨gb312, 2, none⟩ = some (.int .i64 a1_2) ∧ w'.cell? ⟨gb312, 3, none⟩ = some (.string a1_3)) ∧ (w'.heap[gb311]? = some (.cells #[.int .i64 a0_0, .string a0_1, .int .i64 a0_2, .string a0_3, .int .i64 a0_4, .int .i64 a0_5] 29 (0, 0))) ∧ (w'.heap[gb312]? = some (.cells #[.int .i64 a1_0, .int .i64 a1_1, .int .i64 a1_2, .string a1_3] 31 (0, 0))) ∧ (w'.heap[s_]? = some (.cells #[.int .i64 0, .string (⟨#[]⟩ : ByteArray), .int .i64 0, .string (⟨#[]⟩ : ByteArray), .int .i64 0, .int .i64 0] 34 (0, 0))) ∧ (w.heap.size ≤ s_) ∧ (w.heap.size ≤ s_) ∧ (gb311 ≠ s_) ∧ (s_ ≠ gb311) ∧ (gb312 ≠ s_) ∧ (s_ ≠ gb312) ∧ (Below w.heap.size w w')) ?_ ?_
     rotate_left
     ·intro hCont
      refine two_ (i := 1) (j := 8) (Ni := some 22) (Nj := some 6) #[true, true, true, false, false, false, false, false, false, false, false] #[true, false, true, false, false, false, false, false, true, false, false] rfl rfl rfl rfl (two_of HT_.out (by kernel_rfl)) (by decide) (by decide) (fun K hK => ?_) (fun K hK => ?_)
      ·skip
       refine goes_ Tryd.func17 (by kernel_rfl) rfl #[.agg #[.int .i64 a0_0, .string a0_1, .int .i64 a0_2, .string a0_3, .int .i64 a0_4, .int .i64 a0_5]] (by rfl) rfl rfl z1_ ?_
       with_reducible refine (laws_toKnown.calls a0_0 a0_1 a0_2 a0_3 a0_4 a0_5 t315 t316 t317 t318 t319 t320 _ A19.out).mono ?_
       rintro e w36 ⟨rfl, hb⟩
       refine ⟨_, rfl, ?_⟩
       have n0_ := Aside0.mk (blk_below (g := gb311) (o := .cells #[.int .i64 a0_0, .string a0_1, .int .i64 a0_2, .string a0_3, .int .i64 a0_4, .int .i64 a0_5] 29 (0, 0)) z6_ hb)
       have n1_ := Aside0.mk (blk_below (g := gb312) (o := .cells #[.int .i64 a1_0, .int .i64 a1_1, .int .i64 a1_2, .string a1_3] 31 (0, 0)) z7_ hb)
       have n2_ := Aside0.mk (below_step z15_ hb)
       clear BK311
       clear BK312
       clear HB
       have BK311 := n0_
       have BK312 := n1_
       have HB := n2_
       clear n0_ n1_ n2_
       (try clear hb)
       (try clear hb2)
       (try clear hk)
       (try clear hi)
       refine hK.out _ _ ⟨(blk_cell BK311.out 0).trans rfl, (blk_cell BK311.out 1).trans rfl, (blk_cell BK311.out 2).trans rfl, (blk_cell BK311.out 3).trans rfl, (blk_cell BK311.out 4).trans rfl, (blk_cell BK311.out 5).trans rfl, (blk_cell BK312.out 0).trans rfl, (blk_cell BK312.out 1).trans rfl, (blk_cell BK312.out 2).trans rfl, (blk_cell BK312.out 3).trans rfl⟩ (fun hHeld => ?_)
       clear hK K
       refine norm_ (a' := ?_) ?_ ?_
       rotate_left
       ·show Act.put _ (some 22) _ = _
        simp only [Act.put, List.setIfInBounds_toArray, List.set_cons_zero, List.set_cons_succ, i64_w, i32_w]
        rfl
       refine two_ (i := 3) (j := 8) (Ni := some 24) (Nj := some 6) #[true, true, true, true, false, false, false, false, false, false, false] #[true, true, true, false, false, false, false, false, true, false, false] rfl rfl rfl rfl (two_of HT_.out (by kernel_rfl)) (by decide) (by decide) (fun K hK => ?_) (fun K hK => ?_)
       ·skip
        refine goes_ Tryd.func18 (by kernel_rfl) rfl #[.agg #[.int .i64 a1_0, .int .i64 a1_1, .int .i64 a1_2, .string a1_3]] (by rfl) rfl rfl z1_ ?_
        with_reducible refine (laws_toRec.calls a1_0 a1_1 a1_2 a1_3 t321 t322 t323 t324 _ A20.out).mono ?_
        rintro e w37 ⟨rfl, hb⟩
        refine ⟨_, rfl, ?_⟩
        have n0_ := Aside0.mk (blk_below (g := gb311) (o := .cells #[.int .i64 a0_0, .string a0_1, .int .i64 a0_2, .string a0_3, .int .i64 a0_4, .int .i64 a0_5] 29 (0, 0)) z6_ hb)
        have n1_ := Aside0.mk (blk_below (g := gb312) (o := .cells #[.int .i64 a1_0, .int .i64 a1_1, .int .i64 a1_2, .string a1_3] 31 (0, 0)) z7_ hb)
        have n2_ := Aside0.mk (below_step z15_ hb)
        clear BK311
        clear BK312
        clear HB
        have BK311 := n0_
        have BK312 := n1_
        have HB := n2_
        clear n0_ n1_ n2_
        (try clear hb)
        (try clear hb2)
        (try clear hk)
        (try clear hi)
        refine hK.out _ _ ⟨(blk_cell BK311.out 0).trans rfl, (blk_cell BK311.out 1).trans rfl, (blk_cell BK311.out 2).trans rfl, (blk_cell BK311.out 3).trans rfl, (blk_cell BK311.out 4).trans rfl, (blk_cell BK311.out 5).trans rfl, (blk_cell BK312.out 0).trans rfl, (blk_cell BK312.out 1).trans rfl, (blk_cell BK312.out 2).trans rfl, (blk_cell BK312.out 3).trans rfl⟩ (fun hHeld => ?_)
        clear hK K
        refine norm_ (a' := ?_) ?_ ?_
        rotate_left
        ·show Act.put _ (some 24) _ = _
         simp only [Act.put, List.setIfInBounds_toArray, List.set_cons_zero, List.set_cons_succ, i64_w, i32_w]
         rfl
        refine two_ (i := 4) (j := 8) (Ni := some 25) (Nj := some 6) #[true, true, true, true, true, false, false, false, false, false, false] #[true, true, true, true, false, false, false, false, true, false, false] rfl rfl rfl rfl (two_of HT_.out (by kernel_rfl)) (by decide) (by decide) (fun K hK => ?_) (fun K hK => ?_)
        ·skip
         refine goes_ Tryd.func16 (by kernel_rfl) rfl #[.agg #[.int .i64 t315, .string t316, .int .i64 t317, .string t318, .int .i64 t319, .int .i64 t320], .agg #[.int .i64 t321, .int .i64 t322, .int .i64 t323, .string t324]] (by rfl) rfl rfl z1_ ?_
         with_reducible refine (spec_Apply.calls k t315 t316 t317 t318 t319 t320 t321 t322 t323 t324 t325 t326 t327 t328 t329 t330 t331 _ A21.out).mono ?_
         rintro e w38 ⟨rfl, hb⟩
         refine ⟨_, rfl, ?_⟩
         have n0_ := Aside0.mk (blk_below (g := gb311) (o := .cells #[.int .i64 a0_0, .string a0_1, .int .i64 a0_2, .string a0_3, .int .i64 a0_4, .int .i64 a0_5] 29 (0, 0)) z6_ hb)
         have n1_ := Aside0.mk (blk_below (g := gb312) (o := .cells #[.int .i64 a1_0, .int .i64 a1_1, .int .i64 a1_2, .string a1_3] 31 (0, 0)) z7_ hb)
         have n2_ := Aside0.mk (below_step z15_ hb)
         clear BK311
         clear BK312
         clear HB
         have BK311 := n0_
         have BK312 := n1_
         have HB := n2_
         clear n0_ n1_ n2_
         (try clear hb)
         (try clear hb2)
         (try clear hk)
         (try clear hi)
         refine hK.out _ _ ⟨(blk_cell BK311.out 0).trans rfl, (blk_cell BK311.out 1).trans rfl, (blk_cell BK311.out 2).trans rfl, (blk_cell BK311.out 3).trans rfl, (blk_cell BK311.out 4).trans rfl, (blk_cell BK311.out 5).trans rfl, (blk_cell BK312.out 0).trans rfl, (blk_cell BK312.out 1).trans rfl, (blk_cell BK312.out 2).trans rfl, (blk_cell BK312.out 3).trans rfl⟩ (fun hHeld => ?_)
         clear hK K
         refine norm_ (a' := ?_) ?_ ?_
         rotate_left
         ·show Act.put _ (some 25) _ = _
          simp only [Act.put, List.setIfInBounds_toArray, List.set_cons_zero, List.set_cons_succ, i64_w, i32_w]
          rfl
         refine pure_ (i := 5) (N := some 20) (v := ?_) (a' := ?_) #[true, true, true, true, true, true, false, false, false, false, false] rfl rfl (any_of HT_.out (by kernel_rfl)) (fun _ _ _ h => h) (Or.inl ⟨by rfl, ?_⟩) ?_ ?_
         rotate_left
         ·intro w'
          go_simp
          with_reducible rfl
         rotate_left
         ·simp only [Act.put, List.setIfInBounds_toArray, List.set_cons_zero, List.set_cons_succ, i64_w, i32_w]
          rfl
         refine pure_ (i := 6) (N := some 26) (v := ?_) (a' := ?_) #[true, true, true, true, true, true, true, false, false, false, false] rfl rfl (any_of HT_.out (by kernel_rfl)) (fun _ _ _ h => h) (Or.inl ⟨by rfl, ?_⟩) ?_ ?_
         rotate_left
         ·intro w'
          go_simp
          with_reducible rfl
         rotate_left
         ·simp only [Act.put, List.setIfInBounds_toArray, List.set_cons_zero, List.set_cons_succ, i64_w, i32_w]
          rfl
         refine pure_ (i := 7) (N := some 27) (v := ?_) (a' := ?_) #[true, true, true, true, true, true, true, true, false, false, false] rfl rfl (any_of HT_.out (by kernel_rfl)) (fun _ _ _ h => h) (Or.inl ⟨by rfl, ?_⟩) ?_ ?_
         rotate_left
         ·intro w'
          go_simp
          with_reducible rfl
         rotate_left
         ·simp only [Act.put, List.setIfInBounds_toArray, List.set_cons_zero, List.set_cons_succ, i64_w, i32_w]
          rfl
         refine one_ (i := 8) (N := some 6) #[true, true, true, true, true, true, true, true, true, false, false] rfl rfl (one_of HT_.out (by kernel_rfl)) (by decide) (fun K hK => ?_)
         refine box_step ?hg (N := 6) ?hd (cs := #[.int .i64 0, .string (⟨#[]⟩ : ByteArray), .int .i64 0, .string (⟨#[]⟩ : ByteArray), .int .i64 0, .int .i64 0]) (t := 34) ?hr ?_; (case hd => rfl); (case hg => rfl); (case hr => first | (go_simp; done) | (go_simp; rfl))
         intro gb332 hg w39 hbox hb
         have n0_ := Aside0.mk (blk_below (g := gb311) (o := .cells #[.int .i64 a0_0, .string a0_1, .int .i64 a0_2, .string a0_3, .int .i64 a0_4, .int .i64 a0_5] 29 (0, 0)) z6_ hb)
         have n1_ := Aside0.mk (blk_below (g := gb312) (o := .cells #[.int .i64 a1_0, .int .i64 a1_1, .int .i64 a1_2, .string a1_3] 31 (0, 0)) z7_ hb)
         have n2_ := Aside0.mk (below_step z15_ hb)
         have n3_ := Aside0.mk (hbox)
         have n4_ := Aside0.mk ((by rw [hg]; exact (below_size z15_) : w.heap.size ≤ gb332))
         have n5_ := Aside0.mk ((by rw [hg]; exact (below_size z15_) : w.heap.size ≤ gb332))
         have n6_ := Aside0.mk ((by rw [hg]; exact Nat.ne_of_lt (blk_lt (g := gb311) (o := .cells #[.int .i64 a0_0, .string a0_1, .int .i64 a0_2, .string a0_3, .int .i64 a0_4, .int .i64 a0_5] 29 (0, 0)) z6_) : gb311 ≠ gb332))
         have n7_ := Aside0.mk ((by rw [hg]; exact Nat.ne_of_gt (blk_lt (g := gb311) (o := .cells #[.int .i64 a0_0, .string a0_1, .int .i64 a0_2, .string a0_3, .int .i64 a0_4, .int .i64 a0_5] 29 (0, 0)) z6_) : gb332 ≠ gb311))
         have n8_ := Aside0.mk ((by rw [hg]; exact Nat.ne_of_lt (blk_lt (g := gb312) (o := .cells #[.int .i64 a1_0, .int .i64 a1_1, .int .i64 a1_2, .string a1_3] 31 (0, 0)) z7_) : gb312 ≠ gb332))
         have n9_ := Aside0.mk ((by rw [hg]; exact Nat.ne_of_gt (blk_lt (g := gb312) (o := .cells #[.int .i64 a1_0, .int .i64 a1_1, .int .i64 a1_2, .string a1_3] 31 (0, 0)) z7_) : gb332 ≠ gb312))
         clear BK311
         clear BK312
         clear HB
         have BK311 := n0_
         have BK312 := n1_
         have HB := n2_
         have BK332 := n3_
         have GW332 := n4_
         have GE332 := n5_
         have NB311_332 := n6_
         have NB332_311 := n7_
         have NB312_332 := n8_
         have NB332_312 := n9_
         clear n0_ n1_ n2_ n3_ n4_ n5_ n6_ n7_ n8_ n9_
         clear hb hbox hg
         refine hK.out _ _ ⟨(blk_cell BK311.out 0).trans rfl, (blk_cell BK311.out 1).trans rfl, (blk_cell BK311.out 2).trans rfl, (blk_cell BK311.out 3).trans rfl, (blk_cell BK311.out 4).trans rfl, (blk_cell BK311.out 5).trans rfl, (blk_cell BK312.out 0).trans rfl, (blk_cell BK312.out 1).trans rfl, (blk_cell BK312.out 2).trans rfl, (blk_cell BK312.out 3).trans rfl⟩ (fun hHeld => ?_)
         clear hK K
         refine norm_ (a' := ?_) ?_ ?_
         rotate_left
         ·show Act.put _ (some 6) _ = _
          simp only [Act.put, List.setIfInBounds_toArray, List.set_cons_zero, List.set_cons_succ, i64_w, i32_w]
          rfl
         exact norm_ z34_ (hCont (gb332) _ ⟨hHeld, z6_, z7_, z14_, GW332.out, GE332.out, NB311_332.out, NB332_311.out, NB312_332.out, NB332_312.out, z9_⟩)
        ·skip
         refine box_step ?hg (N := 6) ?hd (cs := #[.int .i64 0, .string (⟨#[]⟩ : ByteArray), .int .i64 0, .string (⟨#[]⟩ : ByteArray), .int .i64 0, .int .i64 0]) (t := 34) ?hr ?_; (case hd => rfl); (case hg => rfl); (case hr => first | (go_simp; done) | (go_simp; rfl))
         intro gb332 hg w38 hbox hb
         have n0_ := Aside0.mk (blk_below (g := gb311) (o := .cells #[.int .i64 a0_0, .string a0_1, .int .i64 a0_2, .string a0_3, .int .i64 a0_4, .int .i64 a0_5] 29 (0, 0)) z6_ hb)
         have n1_ := Aside0.mk (blk_below (g := gb312) (o := .cells #[.int .i64 a1_0, .int .i64 a1_1, .int .i64 a1_2, .string a1_3] 31 (0, 0)) z7_ hb)
         have n2_ := Aside0.mk (below_step z15_ hb)
         have n3_ := Aside0.mk (hbox)
         have n4_ := Aside0.mk ((by rw [hg]; exact (below_size z15_) : w.heap.size ≤ gb332))
         have n5_ := Aside0.mk ((by rw [hg]; exact (below_size z15_) : w.heap.size ≤ gb332))
         have n6_ := Aside0.mk ((by rw [hg]; exact Nat.ne_of_lt (blk_lt (g := gb311) (o := .cells #[.int .i64 a0_0, .string a0_1, .int .i64 a0_2, .string a0_3, .int .i64 a0_4, .int .i64 a0_5] 29 (0, 0)) z6_) : gb311 ≠ gb332))
         have n7_ := Aside0.mk ((by rw [hg]; exact Nat.ne_of_gt (blk_lt (g := gb311) (o := .cells #[.int .i64 a0_0, .string a0_1, .int .i64 a0_2, .string a0_3, .int .i64 a0_4, .int .i64 a0_5] 29 (0, 0)) z6_) : gb332 ≠ gb311))
         have n8_ := Aside0.mk ((by rw [hg]; exact Nat.ne_of_lt (blk_lt (g := gb312) (o := .cells #[.int .i64 a1_0, .int .i64 a1_1, .int .i64 a1_2, .string a1_3] 31 (0, 0)) z7_) : gb312 ≠ gb332))
         have n9_ := Aside0.mk ((by rw [hg]; exact Nat.ne_of_gt (blk_lt (g := gb312) (o := .cells #[.int .i64 a1_0, .int .i64 a1_1, .int .i64 a1_2, .string a1_3] 31 (0, 0)) z7_) : gb332 ≠ gb312))
         clear BK311
         clear BK312
         clear HB
         have BK311 := n0_
         have BK312 := n1_
         have HB := n2_
         have BK332 := n3_
         have GW332 := n4_
         have GE332 := n5_
         have NB311_332 := n6_
         have NB332_311 := n7_
         have NB312_332 := n8_
         have NB332_312 := n9_
         clear n0_ n1_ n2_ n3_ n4_ n5_ n6_ n7_ n8_ n9_
         clear hb hbox hg
         refine hK.out _ _ ⟨(blk_cell BK311.out 0).trans rfl, (blk_cell BK311.out 1).trans rfl, (blk_cell BK311.out 2).trans rfl, (blk_cell BK311.out 3).trans rfl, (blk_cell BK311.out 4).trans rfl, (blk_cell BK311.out 5).trans rfl, (blk_cell BK312.out 0).trans rfl, (blk_cell BK312.out 1).trans rfl, (blk_cell BK312.out 2).trans rfl, (blk_cell BK312.out 3).trans rfl⟩ (fun hHeld => ?_)
         clear hK K
         refine norm_ (a' := ?_) ?_ ?_
         rotate_left
         ·show Act.put _ (some 6) _ = _
          simp only [Act.put, List.setIfInBounds_toArray, List.set_cons_zero, List.set_cons_succ, i64_w, i32_w]
          rfl
         refine one_ (i := 4) (N := some 25) #[true, true, true, true, true, false, false, false, true, false, false] rfl rfl (one_of HT_.out (by kernel_rfl)) (by decide) (fun K hK => ?_)
         refine goes_ Tryd.func16 (by kernel_rfl) rfl #[.agg #[.int .i64 t315, .string t316, .int .i64 t317, .string t318, .int .i64 t319, .int .i64 t320], .agg #[.int .i64 t321, .int .i64 t322, .int .i64 t323, .string t324]] (by rfl) rfl rfl z1_ ?_
         with_reducible refine (spec_Apply.calls k t315 t316 t317 t318 t319 t320 t321 t322 t323 t324 t325 t326 t327 t328 t329 t330 t331 _ A21.out).mono ?_
         rintro e w39 ⟨rfl, hb⟩
         refine ⟨_, rfl, ?_⟩
         have n0_ := Aside0.mk (blk_below (g := gb311) (o := .cells #[.int .i64 a0_0, .string a0_1, .int .i64 a0_2, .string a0_3, .int .i64 a0_4, .int .i64 a0_5] 29 (0, 0)) z6_ hb)
         have n1_ := Aside0.mk (blk_below (g := gb312) (o := .cells #[.int .i64 a1_0, .int .i64 a1_1, .int .i64 a1_2, .string a1_3] 31 (0, 0)) z7_ hb)
         have n2_ := Aside0.mk (blk_below (g := gb332) (o := .cells #[.int .i64 0, .string (⟨#[]⟩ : ByteArray), .int .i64 0, .string (⟨#[]⟩ : ByteArray), .int .i64 0, .int .i64 0] 34 (0, 0)) z14_ hb)
         have n3_ := Aside0.mk (below_step z9_ hb)
         clear BK311
         clear BK312
         clear BK332
         clear HB
         have BK311 := n0_
         have BK312 := n1_
         have BK332 := n2_
         have HB := n3_
         clear n0_ n1_ n2_ n3_
         (try clear hb)
         (try clear hb2)
         (try clear hk)
         (try clear hi)
         refine hK.out _ _ ⟨(blk_cell BK311.out 0).trans rfl, (blk_cell BK311.out 1).trans rfl, (blk_cell BK311.out 2).trans rfl, (blk_cell BK311.out 3).trans rfl, (blk_cell BK311.out 4).trans rfl, (blk_cell BK311.out 5).trans rfl, (blk_cell BK312.out 0).trans rfl, (blk_cell BK312.out 1).trans rfl, (blk_cell BK312.out 2).trans rfl, (blk_cell BK312.out 3).trans rfl⟩ (fun hHeld => ?_)
         clear hK K
         refine norm_ (a' := ?_) ?_ ?_
         rotate_left
         ·show Act.put _ (some 25) _ = _
          simp only [Act.put, List.setIfInBounds_toArray, List.set_cons_zero, List.set_cons_succ, i64_w, i32_w]
          rfl
         refine pure_ (i := 5) (N := some 20) (v := ?_) (a' := ?_) #[true, true, true, true, true, true, false, false, true, false, false] rfl rfl (any_of HT_.out (by kernel_rfl)) (fun _ _ _ h => h) (Or.inl ⟨by rfl, ?_⟩) ?_ ?_
         rotate_left
         ·intro w'
          go_simp
          with_reducible rfl
         rotate_left
         ·simp only [Act.put, List.setIfInBounds_toArray, List.set_cons_zero, List.set_cons_succ, i64_w, i32_w]
          rfl
         refine pure_ (i := 6) (N := some 26) (v := ?_) (a' := ?_) #[true, true, true, true, true, true, true, false, true, false, false] rfl rfl (any_of HT_.out (by kernel_rfl)) (fun _ _ _ h => h) (Or.inl ⟨by rfl, ?_⟩) ?_ ?_
         rotate_left
         ·intro w'
          go_simp
          with_reducible rfl
         rotate_left
         ·simp only [Act.put, List.setIfInBounds_toArray, List.set_cons_zero, List.set_cons_succ, i64_w, i32_w]
          rfl
         refine pure_ (i := 7) (N := some 27) (v := ?_) (a' := ?_) #[true, true, true, true, true, true, true, true, true, false, false] rfl rfl (any_of HT_.out (by kernel_rfl)) (fun _ _ _ h => h) (Or.inl ⟨by rfl, ?_⟩) ?_ ?_
         rotate_left
         ·intro w'
          go_simp
          with_reducible rfl
         rotate_left
         ·simp only [Act.put, List.setIfInBounds_toArray, List.set_cons_zero, List.set_cons_succ, i64_w, i32_w]
          rfl
         exact norm_ z34_ (hCont (gb332) _ ⟨hHeld, z6_, z7_, z14_, GW332.out, GE332.out, NB311_332.out, NB332_311.out, NB312_332.out, NB332_312.out, z9_⟩)
       ·skip
        refine box_step ?hg (N := 6) ?hd (cs := #[.int .i64 0, .string (⟨#[]⟩ : ByteArray), .int .i64 0, .string (⟨#[]⟩ : ByteArray), .int .i64 0, .int .i64 0]) (t := 34) ?hr ?_; (case hd => rfl); (case hg => rfl); (case hr => first | (go_simp; done) | (go_simp; rfl))
        intro gb332 hg w37 hbox hb
        have n0_ := Aside0.mk (blk_below (g := gb311) (o := .cells #[.int .i64 a0_0, .string a0_1, .int .i64 a0_2, .string a0_3, .int .i64 a0_4, .int .i64 a0_5] 29 (0, 0)) z6_ hb)
        have n1_ := Aside0.mk (blk_below (g := gb312) (o := .cells #[.int .i64 a1_0, .int .i64 a1_1, .int .i64 a1_2, .string a1_3] 31 (0, 0)) z7_ hb)
        have n2_ := Aside0.mk (below_step z15_ hb)
        have n3_ := Aside0.mk (hbox)
        have n4_ := Aside0.mk ((by rw [hg]; exact (below_size z15_) : w.heap.size ≤ gb332))
        have n5_ := Aside0.mk ((by rw [hg]; exact (below_size z15_) : w.heap.size ≤ gb332))
        have n6_ := Aside0.mk ((by rw [hg]; exact Nat.ne_of_lt (blk_lt (g := gb311) (o := .cells #[.int .i64 a0_0, .string a0_1, .int .i64 a0_2, .string a0_3, .int .i64 a0_4, .int .i64 a0_5] 29 (0, 0)) z6_) : gb311 ≠ gb332))
        have n7_ := Aside0.mk ((by rw [hg]; exact Nat.ne_of_gt (blk_lt (g := gb311) (o := .cells #[.int .i64 a0_0, .string a0_1, .int .i64 a0_2, .string a0_3, .int .i64 a0_4, .int .i64 a0_5] 29 (0, 0)) z6_) : gb332 ≠ gb311))
        have n8_ := Aside0.mk ((by rw [hg]; exact Nat.ne_of_lt (blk_lt (g := gb312) (o := .cells #[.int .i64 a1_0, .int .i64 a1_1, .int .i64 a1_2, .string a1_3] 31 (0, 0)) z7_) : gb312 ≠ gb332))
        have n9_ := Aside0.mk ((by rw [hg]; exact Nat.ne_of_gt (blk_lt (g := gb312) (o := .cells #[.int .i64 a1_0, .int .i64 a1_1, .int .i64 a1_2, .string a1_3] 31 (0, 0)) z7_) : gb332 ≠ gb312))
        clear BK311
        clear BK312
        clear HB
        have BK311 := n0_
        have BK312 := n1_
        have HB := n2_
        have BK332 := n3_
        have GW332 := n4_
        have GE332 := n5_
        have NB311_332 := n6_
        have NB332_311 := n7_
        have NB312_332 := n8_
        have NB332_312 := n9_
        clear n0_ n1_ n2_ n3_ n4_ n5_ n6_ n7_ n8_ n9_
        clear hb hbox hg
        refine hK.out _ _ ⟨(blk_cell BK311.out 0).trans rfl, (blk_cell BK311.out 1).trans rfl, (blk_cell BK311.out 2).trans rfl, (blk_cell BK311.out 3).trans rfl, (blk_cell BK311.out 4).trans rfl, (blk_cell BK311.out 5).trans rfl, (blk_cell BK312.out 0).trans rfl, (blk_cell BK312.out 1).trans rfl, (blk_cell BK312.out 2).trans rfl, (blk_cell BK312.out 3).trans rfl⟩ (fun hHeld => ?_)
        clear hK K
        refine norm_ (a' := ?_) ?_ ?_
        rotate_left
        ·show Act.put _ (some 6) _ = _
         simp only [Act.put, List.setIfInBounds_toArray, List.set_cons_zero, List.set_cons_succ, i64_w, i32_w]
         rfl
        refine one_ (i := 3) (N := some 24) #[true, true, true, true, false, false, false, false, true, false, false] rfl rfl (one_of HT_.out (by kernel_rfl)) (by decide) (fun K hK => ?_)
        refine goes_ Tryd.func18 (by kernel_rfl) rfl #[.agg #[.int .i64 a1_0, .int .i64 a1_1, .int .i64 a1_2, .string a1_3]] (by rfl) rfl rfl z1_ ?_
        with_reducible refine (laws_toRec.calls a1_0 a1_1 a1_2 a1_3 t321 t322 t323 t324 _ A20.out).mono ?_
        rintro e w38 ⟨rfl, hb⟩
        refine ⟨_, rfl, ?_⟩
        have n0_ := Aside0.mk (blk_below (g := gb311) (o := .cells #[.int .i64 a0_0, .string a0_1, .int .i64 a0_2, .string a0_3, .int .i64 a0_4, .int .i64 a0_5] 29 (0, 0)) z6_ hb)
        have n1_ := Aside0.mk (blk_below (g := gb312) (o := .cells #[.int .i64 a1_0, .int .i64 a1_1, .int .i64 a1_2, .string a1_3] 31 (0, 0)) z7_ hb)
        have n2_ := Aside0.mk (blk_below (g := gb332) (o := .cells #[.int .i64 0, .string (⟨#[]⟩ : ByteArray), .int .i64 0, .string (⟨#[]⟩ : ByteArray), .int .i64 0, .int .i64 0] 34 (0, 0)) z14_ hb)
        have n3_ := Aside0.mk (below_step z9_ hb)
        clear BK311
        clear BK312
        clear BK332
        clear HB
        have BK311 := n0_
        have BK312 := n1_
        have BK332 := n2_
        have HB := n3_
        clear n0_ n1_ n2_ n3_
        (try clear hb)
        (try clear hb2)
        (try clear hk)
        (try clear hi)
        refine hK.out _ _ ⟨(blk_cell BK311.out 0).trans rfl, (blk_cell BK311.out 1).trans rfl, (blk_cell BK311.out 2).trans rfl, (blk_cell BK311.out 3).trans rfl, (blk_cell BK311.out 4).trans rfl, (blk_cell BK311.out 5).trans rfl, (blk_cell BK312.out 0).trans rfl, (blk_cell BK312.out 1).trans rfl, (blk_cell BK312.out 2).trans rfl, (blk_cell BK312.out 3).trans rfl⟩ (fun hHeld => ?_)
        clear hK K
        refine norm_ (a' := ?_) ?_ ?_
        rotate_left
        ·show Act.put _ (some 24) _ = _
         simp only [Act.put, List.setIfInBounds_toArray, List.set_cons_zero, List.set_cons_succ, i64_w, i32_w]
         rfl
        refine one_ (i := 4) (N := some 25) #[true, true, true, true, true, false, false, false, true, false, false] rfl rfl (one_of HT_.out (by kernel_rfl)) (by decide) (fun K hK => ?_)
        refine goes_ Tryd.func16 (by kernel_rfl) rfl #[.agg #[.int .i64 t315, .string t316, .int .i64 t317, .string t318, .int .i64 t319, .int .i64 t320], .agg #[.int .i64 t321, .int .i64 t322, .int .i64 t323, .string t324]] (by rfl) rfl rfl z1_ ?_
        with_reducible refine (spec_Apply.calls k t315 t316 t317 t318 t319 t320 t321 t322 t323 t324 t325 t326 t327 t328 t329 t330 t331 _ A21.out).mono ?_
        rintro e w39 ⟨rfl, hb⟩
        refine ⟨_, rfl, ?_⟩
        have n0_ := Aside0.mk (blk_below (g := gb311) (o := .cells #[.int .i64 a0_0, .string a0_1, .int .i64 a0_2, .string a0_3, .int .i64 a0_4, .int .i64 a0_5] 29 (0, 0)) z6_ hb)
        have n1_ := Aside0.mk (blk_below (g := gb312) (o := .cells #[.int .i64 a1_0, .int .i64 a1_1, .int .i64 a1_2, .string a1_3] 31 (0, 0)) z7_ hb)
        have n2_ := Aside0.mk (blk_below (g := gb332) (o := .cells #[.int .i64 0, .string (⟨#[]⟩ : ByteArray), .int .i64 0, .string (⟨#[]⟩ : ByteArray), .int .i64 0, .int .i64 0] 34 (0, 0)) z14_ hb)
        have n3_ := Aside0.mk (below_step z9_ hb)
        clear BK311
        clear BK312
        clear BK332
        clear HB
        have BK311 := n0_
        have BK312 := n1_
        have BK332 := n2_
        have HB := n3_
        clear n0_ n1_ n2_ n3_
        (try clear hb)
        (try clear hb2)
        (try clear hk)
        (try clear hi)
        refine hK.out _ _ ⟨(blk_cell BK311.out 0).trans rfl, (blk_cell BK311.out 1).trans rfl, (blk_cell BK311.out 2).trans rfl, (blk_cell BK311.out 3).trans rfl, (blk_cell BK311.out 4).trans rfl, (blk_cell BK311.out 5).trans rfl, (blk_cell BK312.out 0).trans rfl, (blk_cell BK312.out 1).trans rfl, (blk_cell BK312.out 2).trans rfl, (blk_cell BK312.out 3).trans rfl⟩ (fun hHeld => ?_)
        clear hK K
        refine norm_ (a' := ?_) ?_ ?_
        rotate_left
        ·show Act.put _ (some 25) _ = _
         simp only [Act.put, List.setIfInBounds_toArray, List.set_cons_zero, List.set_cons_succ, i64_w, i32_w]
         rfl
        refine pure_ (i := 5) (N := some 20) (v := ?_) (a' := ?_) #[true, true, true, true, true, true, false, false, true, false, false] rfl rfl (any_of HT_.out (by kernel_rfl)) (fun _ _ _ h => h) (Or.inl ⟨by rfl, ?_⟩) ?_ ?_
        rotate_left
        ·intro w'
         go_simp
         with_reducible rfl
        rotate_left
        ·simp only [Act.put, List.setIfInBounds_toArray, List.set_cons_zero, List.set_cons_succ, i64_w, i32_w]
         rfl
        refine pure_ (i := 6) (N := some 26) (v := ?_) (a' := ?_) #[true, true, true, true, true, true, true, false, true, false, false] rfl rfl (any_of HT_.out (by kernel_rfl)) (fun _ _ _ h => h) (Or.inl ⟨by rfl, ?_⟩) ?_ ?_
        rotate_left
        ·intro w'
         go_simp
         with_reducible rfl
        rotate_left
        ·simp only [Act.put, List.setIfInBounds_toArray, List.set_cons_zero, List.set_cons_succ, i64_w, i32_w]
         rfl
        refine pure_ (i := 7) (N := some 27) (v := ?_) (a' := ?_) #[true, true, true, true, true, true, true, true, true, false, false] rfl rfl (any_of HT_.out (by kernel_rfl)) (fun _ _ _ h => h) (Or.inl ⟨by rfl, ?_⟩) ?_ ?_
        rotate_left
        ·intro w'
         go_simp
         with_reducible rfl
        rotate_left
        ·simp only [Act.put, List.setIfInBounds_toArray, List.set_cons_zero, List.set_cons_succ, i64_w, i32_w]
         rfl
        exact norm_ z34_ (hCont (gb332) _ ⟨hHeld, z6_, z7_, z14_, GW332.out, GE332.out, NB311_332.out, NB332_311.out, NB312_332.out, NB332_312.out, z9_⟩)
      ·skip
       refine box_step ?hg (N := 6) ?hd (cs := #[.int .i64 0, .string (⟨#[]⟩ : ByteArray), .int .i64 0, .string (⟨#[]⟩ : ByteArray), .int .i64 0, .int .i64 0]) (t := 34) ?hr ?_; (case hd => rfl); (case hg => rfl); (case hr => first | (go_simp; done) | (go_simp; rfl))
       intro gb332 hg w36 hbox hb
       have n0_ := Aside0.mk (blk_below (g := gb311) (o := .cells #[.int .i64 a0_0, .string a0_1, .int .i64 a0_2, .string a0_3, .int .i64 a0_4, .int .i64 a0_5] 29 (0, 0)) z6_ hb)
       have n1_ := Aside0.mk (blk_below (g := gb312) (o := .cells #[.int .i64 a1_0, .int .i64 a1_1, .int .i64 a1_2, .string a1_3] 31 (0, 0)) z7_ hb)
       have n2_ := Aside0.mk (below_step z15_ hb)
       have n3_ := Aside0.mk (hbox)
       have n4_ := Aside0.mk ((by rw [hg]; exact (below_size z15_) : w.heap.size ≤ gb332))
       have n5_ := Aside0.mk ((by rw [hg]; exact (below_size z15_) : w.heap.size ≤ gb332))
       have n6_ := Aside0.mk ((by rw [hg]; exact Nat.ne_of_lt (blk_lt (g := gb311) (o := .cells #[.int .i64 a0_0, .string a0_1, .int .i64 a0_2, .string a0_3, .int .i64 a0_4, .int .i64 a0_5] 29 (0, 0)) z6_) : gb311 ≠ gb332))
       have n7_ := Aside0.mk ((by rw [hg]; exact Nat.ne_of_gt (blk_lt (g := gb311) (o := .cells #[.int .i64 a0_0, .string a0_1, .int .i64 a0_2, .string a0_3, .int .i64 a0_4, .int .i64 a0_5] 29 (0, 0)) z6_) : gb332 ≠ gb311))
       have n8_ := Aside0.mk ((by rw [hg]; exact Nat.ne_of_lt (blk_lt (g := gb312) (o := .cells #[.int .i64 a1_0, .int .i64 a1_1, .int .i64 a1_2, .string a1_3] 31 (0, 0)) z7_) : gb312 ≠ gb332))
       have n9_ := Aside0.mk ((by rw [hg]; exact Nat.ne_of_gt (blk_lt (g := gb312) (o := .cells #[.int .i64 a1_0, .int .i64 a1_1, .int .i64 a1_2, .string a1_3] 31 (0, 0)) z7_) : gb332 ≠ gb312))
       clear BK311
       clear BK312
       clear HB
       have BK311 := n0_
       have BK312 := n1_
       have HB := n2_
       have BK332 := n3_
       have GW332 := n4_
       have GE332 := n5_
       have NB311_332 := n6_
       have NB332_311 := n7_
       have NB312_332 := n8_
       have NB332_312 := n9_
       clear n0_ n1_ n2_ n3_ n4_ n5_ n6_ n7_ n8_ n9_
       clear hb hbox hg
       refine hK.out _ _ ⟨(blk_cell BK311.out 0).trans rfl, (blk_cell BK311.out 1).trans rfl, (blk_cell BK311.out 2).trans rfl, (blk_cell BK311.out 3).trans rfl, (blk_cell BK311.out 4).trans rfl, (blk_cell BK311.out 5).trans rfl, (blk_cell BK312.out 0).trans rfl, (blk_cell BK312.out 1).trans rfl, (blk_cell BK312.out 2).trans rfl, (blk_cell BK312.out 3).trans rfl⟩ (fun hHeld => ?_)
       clear hK K
       refine norm_ (a' := ?_) ?_ ?_
       rotate_left
       ·show Act.put _ (some 6) _ = _
        simp only [Act.put, List.setIfInBounds_toArray, List.set_cons_zero, List.set_cons_succ, i64_w, i32_w]
        rfl
       refine one_ (i := 1) (N := some 22) #[true, true, true, false, false, false, false, false, true, false, false] rfl rfl (one_of HT_.out (by kernel_rfl)) (by decide) (fun K hK => ?_)
       refine goes_ Tryd.func17 (by kernel_rfl) rfl #[.agg #[.int .i64 a0_0, .string a0_1, .int .i64 a0_2, .string a0_3, .int .i64 a0_4, .int .i64 a0_5]] (by rfl) rfl rfl z1_ ?_
       with_reducible refine (laws_toKnown.calls a0_0 a0_1 a0_2 a0_3 a0_4 a0_5 t315 t316 t317 t318 t319 t320 _ A19.out).mono ?_
       rintro e w37 ⟨rfl, hb⟩
       refine ⟨_, rfl, ?_⟩
       have n0_ := Aside0.mk (blk_below (g := gb311) (o := .cells #[.int .i64 a0_0, .string a0_1, .int .i64 a0_2, .string a0_3, .int .i64 a0_4, .int .i64 a0_5] 29 (0, 0)) z6_ hb)
       have n1_ := Aside0.mk (blk_below (g := gb312) (o := .cells #[.int .i64 a1_0, .int .i64 a1_1, .int .i64 a1_2, .string a1_3] 31 (0, 0)) z7_ hb)
       have n2_ := Aside0.mk (blk_below (g := gb332) (o := .cells #[.int .i64 0, .string (⟨#[]⟩ : ByteArray), .int .i64 0, .string (⟨#[]⟩ : ByteArray), .int .i64 0, .int .i64 0] 34 (0, 0)) z14_ hb)
       have n3_ := Aside0.mk (below_step z9_ hb)
       clear BK311
       clear BK312
       clear BK332
       clear HB
       have BK311 := n0_
       have BK312 := n1_
       have BK332 := n2_
       have HB := n3_
       clear n0_ n1_ n2_ n3_
       (try clear hb)
       (try clear hb2)
       (try clear hk)
       (try clear hi)
       refine hK.out _ _ ⟨(blk_cell BK311.out 0).trans rfl, (blk_cell BK311.out 1).trans rfl, (blk_cell BK311.out 2).trans rfl, (blk_cell BK311.out 3).trans rfl, (blk_cell BK311.out 4).trans rfl, (blk_cell BK311.out 5).trans rfl, (blk_cell BK312.out 0).trans rfl, (blk_cell BK312.out 1).trans rfl, (blk_cell BK312.out 2).trans rfl, (blk_cell BK312.out 3).trans rfl⟩ (fun hHeld => ?_)
       clear hK K
       refine norm_ (a' := ?_) ?_ ?_
       rotate_left
       ·show Act.put _ (some 22) _ = _
        simp only [Act.put, List.setIfInBounds_toArray, List.set_cons_zero, List.set_cons_succ, i64_w, i32_w]
        rfl
       refine one_ (i := 3) (N := some 24) #[true, true, true, true, false, false, false, false, true, false, false] rfl rfl (one_of HT_.out (by kernel_rfl)) (by decide) (fun K hK => ?_)
       refine goes_ Tryd.func18 (by kernel_rfl) rfl #[.agg #[.int .i64 a1_0, .int .i64 a1_1, .int .i64 a1_2, .string a1_3]] (by rfl) rfl rfl z1_ ?_
       with_reducible refine (laws_toRec.calls a1_0 a1_1 a1_2 a1_3 t321 t322 t323 t324 _ A20.out).mono ?_
       rintro e w38 ⟨rfl, hb⟩
       refine ⟨_, rfl, ?_⟩
       have n0_ := Aside0.mk (blk_below (g := gb311) (o := .cells #[.int .i64 a0_0, .string a0_1, .int .i64 a0_2, .string a0_3, .int .i64 a0_4, .int .i64 a0_5] 29 (0, 0)) z6_ hb)
       have n1_ := Aside0.mk (blk_below (g := gb312) (o := .cells #[.int .i64 a1_0, .int .i64 a1_1, .int .i64 a1_2, .string a1_3] 31 (0, 0)) z7_ hb)
       have n2_ := Aside0.mk (blk_below (g := gb332) (o := .cells #[.int .i64 0, .string (⟨#[]⟩ : ByteArray), .int .i64 0, .string (⟨#[]⟩ : ByteArray), .int .i64 0, .int .i64 0] 34 (0, 0)) z14_ hb)
       have n3_ := Aside0.mk (below_step z9_ hb)
       clear BK311
       clear BK312
       clear BK332
       clear HB
       have BK311 := n0_
       have BK312 := n1_
       have BK332 := n2_
       have HB := n3_
       clear n0_ n1_ n2_ n3_
       (try clear hb)
       (try clear hb2)
       (try clear hk)
       (try clear hi)
       refine hK.out _ _ ⟨(blk_cell BK311.out 0).trans rfl, (blk_cell BK311.out 1).trans rfl, (blk_cell BK311.out 2).trans rfl, (blk_cell BK311.out 3).trans rfl, (blk_cell BK311.out 4).trans rfl, (blk_cell BK311.out 5).trans rfl, (blk_cell BK312.out 0).trans rfl, (blk_cell BK312.out 1).trans rfl, (blk_cell BK312.out 2).trans rfl, (blk_cell BK312.out 3).trans rfl⟩ (fun hHeld => ?_)
       clear hK K
       refine norm_ (a' := ?_) ?_ ?_
       rotate_left
       ·show Act.put _ (some 24) _ = _
        simp only [Act.put, List.setIfInBounds_toArray, List.set_cons_zero, List.set_cons_succ, i64_w, i32_w]
        rfl
       refine one_ (i := 4) (N := some 25) #[true, true, true, true, true, false, false, false, true, false, false] rfl rfl (one_of HT_.out (by kernel_rfl)) (by decide) (fun K hK => ?_)
       refine goes_ Tryd.func16 (by kernel_rfl) rfl #[.agg #[.int .i64 t315, .string t316, .int .i64 t317, .string t318, .int .i64 t319, .int .i64 t320], .agg #[.int .i64 t321, .int .i64 t322, .int .i64 t323, .string t324]] (by rfl) rfl rfl z1_ ?_
       with_reducible refine (spec_Apply.calls k t315 t316 t317 t318 t319 t320 t321 t322 t323 t324 t325 t326 t327 t328 t329 t330 t331 _ A21.out).mono ?_
       rintro e w39 ⟨rfl, hb⟩
       refine ⟨_, rfl, ?_⟩
       have n0_ := Aside0.mk (blk_below (g := gb311) (o := .cells #[.int .i64 a0_0, .string a0_1, .int .i64 a0_2, .string a0_3, .int .i64 a0_4, .int .i64 a0_5] 29 (0, 0)) z6_ hb)
       have n1_ := Aside0.mk (blk_below (g := gb312) (o := .cells #[.int .i64 a1_0, .int .i64 a1_1, .int .i64 a1_2, .string a1_3] 31 (0, 0)) z7_ hb)
       have n2_ := Aside0.mk (blk_below (g := gb332) (o := .cells #[.int .i64 0, .string (⟨#[]⟩ : ByteArray), .int .i64 0, .string (⟨#[]⟩ : ByteArray), .int .i64 0, .int .i64 0] 34 (0, 0)) z14_ hb)
       have n3_ := Aside0.mk (below_step z9_ hb)
       clear BK311
       clear BK312
       clear BK332
       clear HB
       have BK311 := n0_
       have BK312 := n1_
       have BK332 := n2_
       have HB := n3_
       clear n0_ n1_ n2_ n3_
       (try clear hb)
       (try clear hb2)
       (try clear hk)
       (try clear hi)
       refine hK.out _ _ ⟨(blk_cell BK311.out 0).trans rfl, (blk_cell BK311.out 1).trans rfl, (blk_cell BK311.out 2).trans rfl, (blk_cell BK311.out 3).trans rfl, (blk_cell BK311.out 4).trans rfl, (blk_cell BK311.out 5).trans rfl, (blk_cell BK312.out 0).trans rfl, (blk_cell BK312.out 1).trans rfl, (blk_cell BK312.out 2).trans rfl, (blk_cell BK312.out 3).trans rfl⟩ (fun hHeld => ?_)
       clear hK K
       refine norm_ (a' := ?_) ?_ ?_
       rotate_left
       ·show Act.put _ (some 25) _ = _
        simp only [Act.put, List.setIfInBounds_toArray, List.set_cons_zero, List.set_cons_succ, i64_w, i32_w]
        rfl
       refine pure_ (i := 5) (N := some 20) (v := ?_) (a' := ?_) #[true, true, true, true, true, true, false, false, true, false, false] rfl rfl (any_of HT_.out (by kernel_rfl)) (fun _ _ _ h => h) (Or.inl ⟨by rfl, ?_⟩) ?_ ?_
       rotate_left
       ·intro w'
        go_simp
        with_reducible rfl
       rotate_left
       ·simp only [Act.put, List.setIfInBounds_toArray, List.set_cons_zero, List.set_cons_succ, i64_w, i32_w]
        rfl
       refine pure_ (i := 6) (N := some 26) (v := ?_) (a' := ?_) #[true, true, true, true, true, true, true, false, true, false, false] rfl rfl (any_of HT_.out (by kernel_rfl)) (fun _ _ _ h => h) (Or.inl ⟨by rfl, ?_⟩) ?_ ?_
       rotate_left
       ·intro w'
        go_simp
        with_reducible rfl
       rotate_left
       ·simp only [Act.put, List.setIfInBounds_toArray, List.set_cons_zero, List.set_cons_succ, i64_w, i32_w]
        rfl
       refine pure_ (i := 7) (N := some 27) (v := ?_) (a' := ?_) #[true, true, true, true, true, true, true, true, true, false, false] rfl rfl (any_of HT_.out (by kernel_rfl)) (fun _ _ _ h => h) (Or.inl ⟨by rfl, ?_⟩) ?_ ?_
       rotate_left
       ·intro w'
        go_simp
        with_reducible rfl
       rotate_left
       ·simp only [Act.put, List.setIfInBounds_toArray, List.set_cons_zero, List.set_cons_succ, i64_w, i32_w]
        rfl
       exact norm_ z34_ (hCont (gb332) _ ⟨hHeld, z6_, z7_, z14_, GW332.out, GE332.out, NB311_332.out, NB332_311.out, NB312_332.out, NB332_312.out, z9_⟩)
     rintro gb332 w40 ⟨hS_, h0_, h1_, h2_, h3_, h4_, h5_, h6_, h7_, h8_, h9_⟩
     have n0_ : Aside0 (w40.heap[gb311]? = some (.cells #[.int .i64 a0_0, .string a0_1, .int .i64 a0_2, .string a0_3, .int .i64 a0_4, .int .i64 a0_5] 29 (0, 0))) := ⟨h0_⟩
     have n1_ : Aside0 (w40.heap[gb312]? = some (.cells #[.int .i64 a1_0, .int .i64 a1_1, .int .i64 a1_2, .string a1_3] 31 (0, 0))) := ⟨h1_⟩
     have n2_ : Aside0 (w40.heap[gb332]? = some (.cells #[.int .i64 0, .string (⟨#[]⟩ : ByteArray), .int .i64 0, .string (⟨#[]⟩ : ByteArray), .int .i64 0, .int .i64 0] 34 (0, 0))) := ⟨h2_⟩
     have n3_ : Aside0 (w.heap.size ≤ gb332) := ⟨h3_⟩
     have n4_ : Aside0 (w.heap.size ≤ gb332) := ⟨h4_⟩
     have n5_ : Aside0 (gb311 ≠ gb332) := ⟨h5_⟩
     have n6_ : Aside0 (gb332 ≠ gb311) := ⟨h6_⟩
     have n7_ : Aside0 (gb312 ≠ gb332) := ⟨h7_⟩
     have n8_ : Aside0 (gb332 ≠ gb312) := ⟨h8_⟩
     have n9_ : Aside0 (Below w.heap.size w w40) := ⟨h9_⟩
     clear BK311
     clear BK312
     clear HB
     clear h0_ h1_ h2_ h3_ h4_ h5_ h6_ h7_ h8_ h9_
     have BK311 := n0_
     have BK312 := n1_
     have BK332 := n2_
     have GW332 := n3_
     have GE332 := n4_
     have NB311_332 := n5_
     have NB332_311 := n6_
     have NB312_332 := n7_
     have NB332_312 := n8_
     have HB := n9_
     clear n0_ n1_ n2_ n3_ n4_ n5_ n6_ n7_ n8_ n9_
     have hHeld : w40.cell? ⟨gb311, 0, none⟩ = some (.int .i64 a0_0) ∧ w40.cell? ⟨gb311, 1, none⟩ = some (.string a0_1) ∧ w40.cell? ⟨gb311, 2, none⟩ = some (.int .i64 a0_2) ∧ w40.cell? ⟨gb311, 3, none⟩ = some (.string a0_3) ∧ w40.cell? ⟨gb311, 4, none⟩ = some (.int .i64 a0_4) ∧ w40.cell? ⟨gb311, 5, none⟩ = some (.int .i64 a0_5) ∧ w40.cell? ⟨gb312, 0, none⟩ = some (.int .i64 a1_0) ∧ w40.cell? ⟨gb312, 1, none⟩ = some (.int .i64 a1_1) ∧ w40.cell? ⟨gb312, 2, none⟩ = some (.int .i64 a1_2) ∧ w40.cell? ⟨gb312, 3, none⟩ = some (.string a1_3) := hS_
     refine norm_ (a' := ?_) ?_ ?_
     rotate_left
     ·simp only [putAll, Act.put, List.setIfInBounds_toArray, List.set_cons_zero, List.set_cons_succ]
      rfl
     refine one_ (i := 9) (N := none) #[true, true, true, true, true, true, true, true, true, true, false] rfl rfl (one_of HT_.out (by kernel_rfl)) (by decide) (fun K hK => ?_)
     have hs41 : w40.cell? ⟨gb332, 0, none⟩ = some (.int .i64 0) := (blk_cell BK332.out 0).trans rfl
     have hfs41 := blk_frozen BK332.out 0
     have hns41_0 := NB311_332.out
     have hns41_1 := NB312_332.out
     have hms41_0 := NB332_311.out
     have hms41_1 := NB332_312.out
     have hs42 : w40.cell? ⟨gb332, 1, none⟩ = some (.string (⟨#[]⟩ : ByteArray)) := (blk_cell BK332.out 1).trans rfl
     have hfs42 := blk_frozen BK332.out 1
     have hns42_0 := NB311_332.out
     have hns42_1 := NB312_332.out
     have hms42_0 := NB332_311.out
     have hms42_1 := NB332_312.out
     have hs43 : w40.cell? ⟨gb332, 2, none⟩ = some (.int .i64 0) := (blk_cell BK332.out 2).trans rfl
     have hfs43 := blk_frozen BK332.out 2
     have hns43_0 := NB311_332.out
     have hns43_1 := NB312_332.out
     have hms43_0 := NB332_311.out
     have hms43_1 := NB332_312.out
     have hs44 : w40.cell? ⟨gb332, 3, none⟩ = some (.string (⟨#[]⟩ : ByteArray)) := (blk_cell BK332.out 3).trans rfl
     have hfs44 := blk_frozen BK332.out 3
     have hns44_0 := NB311_332.out
     have hns44_1 := NB312_332.out
     have hms44_0 := NB332_311.out
     have hms44_1 := NB332_312.out
     have hs45 : w40.cell? ⟨gb332, 4, none⟩ = some (.int .i64 0) := (blk_cell BK332.out 4).trans rfl
     have hfs45 := blk_frozen BK332.out 4
     have hns45_0 := NB311_332.out
     have hns45_1 := NB312_332.out
     have hms45_0 := NB332_311.out
     have hms45_1 := NB332_312.out
     have hs46 : w40.cell? ⟨gb332, 5, none⟩ = some (.int .i64 0) := (blk_cell BK332.out 5).trans rfl
     have hfs46 := blk_frozen BK332.out 5
     have hns46_0 := NB311_332.out
     have hns46_1 := NB312_332.out
     have hms46_0 := NB332_311.out
     have hms46_1 := NB332_312.out
     refine skip_ (w1 := ?_) (by rfl) rfl ?_ ?_
     rotate_left
     ·go_simp
      rfl
     refine hK.out _ _ ⟨((cell_far (p := ⟨gb332, _, none⟩) NB311_332.out _).trans (((cell_far (p := ⟨gb332, _, none⟩) NB311_332.out _).trans (((cell_far (p := ⟨gb332, _, none⟩) NB311_332.out _).trans (((cell_far (p := ⟨gb332, _, none⟩) NB311_332.out _).trans (((cell_far (p := ⟨gb332, _, none⟩) NB311_332.out _).trans (((cell_far (p := ⟨gb332, _, none⟩) NB311_332.out _).trans (hHeld.1)))))))))))), ((cell_far (p := ⟨gb332, _, none⟩) NB311_332.out _).trans (((cell_far (p := ⟨gb332, _, none⟩) NB311_332.out _).trans (((cell_far (p := ⟨gb332, _, none⟩) NB311_332.out _).trans (((cell_far (p := ⟨gb332, _, none⟩) NB311_332.out _).trans (((cell_far (p := ⟨gb332, _, none⟩) NB311_332.out _).trans (((cell_far (p := ⟨gb332, _, none⟩) NB311_332.out _).trans (hHeld.2.1)))))))))))), ((cell_far (p := ⟨gb332, _, none⟩) NB311_332.out _).trans (((cell_far (p := ⟨gb332, _, none⟩) NB311_332.out _).trans (((cell_far (p := ⟨gb332, _, none⟩) NB311_332.out _).trans (((cell_far (p := ⟨gb332, _, none⟩) NB311_332.out _).trans (((cell_far (p := ⟨gb332, _, none⟩) NB311_332.out _).trans (((cell_far (p := ⟨gb332, _, none⟩) NB311_332.out _).trans (hHeld.2.2.1)))))))))))), ((cell_far (p := ⟨gb332, _, none⟩) NB311_332.out _).trans (((cell_far (p := ⟨gb332, _, none⟩) NB311_332.out _).trans (((cell_far (p := ⟨gb332, _, none⟩) NB311_332.out _).trans (((cell_far (p := ⟨gb332, _, none⟩) NB311_332.out _).trans (((cell_far (p := ⟨gb332, _, none⟩) NB311_332.out _).trans (((cell_far (p := ⟨gb332, _, none⟩) NB311_332.out _).trans (hHeld.2.2.2.1)))))))))))), ((cell_far (p := ⟨gb332, _, none⟩) NB311_332.out _).trans (((cell_far (p := ⟨gb332, _, none⟩) NB311_332.out _).trans (((cell_far (p := ⟨gb332, _, none⟩) NB311_332.out _).trans (((cell_far (p := ⟨gb332, _, none⟩) NB311_332.out _).trans (((cell_far (p := ⟨gb332, _, none⟩) NB311_332.out _).trans (((cell_far (p := ⟨gb332, _, none⟩) NB311_332.out _).trans (hHeld.2.2.2.2.1)))))))))))), ((cell_far (p := ⟨gb332, _, none⟩) NB311_332.out _).trans (((cell_far (p := ⟨gb332, _, none⟩) NB311_332.out _).trans (((cell_far (p := ⟨gb332, _, none⟩) NB311_332.out _).trans (((cell_far (p := ⟨gb332, _, none⟩) NB311_332.out _).trans (((cell_far (p := ⟨gb332, _, none⟩) NB311_332.out _).trans (((cell_far (p := ⟨gb332, _, none⟩) NB311_332.out _).trans (hHeld.2.2.2.2.2.1)))))))))))), ((cell_far (p := ⟨gb332, _, none⟩) NB312_332.out _).trans (((cell_far (p := ⟨gb332, _, none⟩) NB312_332.out _).trans (((cell_far (p := ⟨gb332, _, none⟩) NB312_332.out _).trans (((cell_far (p := ⟨gb332, _, none⟩) NB312_332.out _).trans (((cell_far (p := ⟨gb332, _, none⟩) NB312_332.out _).trans (((cell_far (p := ⟨gb332, _, none⟩) NB312_332.out _).trans (hHeld.2.2.2.2.2.2.1)))))))))))), ((cell_far (p := ⟨gb332, _, none⟩) NB312_332.out _).trans (((cell_far (p := ⟨gb332, _, none⟩) NB312_332.out _).trans (((cell_far (p := ⟨gb332, _, none⟩) NB312_332.out _).trans (((cell_far (p := ⟨gb332, _, none⟩) NB312_332.out _).trans (((cell_far (p := ⟨gb332, _, none⟩) NB312_332.out _).trans (((cell_far (p := ⟨gb332, _, none⟩) NB312_332.out _).trans (hHeld.2.2.2.2.2.2.2.1)))))))))))), ((cell_far (p := ⟨gb332, _, none⟩) NB312_332.out _).trans (((cell_far (p := ⟨gb332, _, none⟩) NB312_332.out _).trans (((cell_far (p := ⟨gb332, _, none⟩) NB312_332.out _).trans (((cell_far (p := ⟨gb332, _, none⟩) NB312_332.out _).trans (((cell_far (p := ⟨gb332, _, none⟩) NB312_332.out _).trans (((cell_far (p := ⟨gb332, _, none⟩) NB312_332.out _).trans (hHeld.2.2.2.2.2.2.2.2.1)))))))))))), ((cell_far (p := ⟨gb332, _, none⟩) NB312_332.out _).trans (((cell_far (p := ⟨gb332, _, none⟩) NB312_332.out _).trans (((cell_far (p := ⟨gb332, _, none⟩) NB312_332.out _).trans (((cell_far (p := ⟨gb332, _, none⟩) NB312_332.out _).trans (((cell_far (p := ⟨gb332, _, none⟩) NB312_332.out _).trans (((cell_far (p := ⟨gb332, _, none⟩) NB312_332.out _).trans (hHeld.2.2.2.2.2.2.2.2.2))))))))))))⟩ (fun hHeld => ?_)
     clear hK K
     refine pure_ (i := 10) (N := some 7) (v := ?_) (a' := ?_) #[true, true, true, true, true, true, true, true, true, true, true] rfl rfl (any_of HT_.out (by kernel_rfl)) (fun _ _ _ h => h) (Or.inl ⟨by rfl, ?_⟩) ?_ ?_
     rotate_left
     ·intro w'
      go_simp
      with_reducible rfl
     rotate_left
     ·simp only [Act.put, List.setIfInBounds_toArray, List.set_cons_zero, List.set_cons_succ, i64_w, i32_w]
      rfl
     refine done_ (done_of HT_.out (by kernel_rfl)) ?_
     try go_wp2
     have n0_ : Aside0 (((((((w40.setCell ⟨gb332, 0, none⟩ (.int .i64 t325)).setCell ⟨gb332, 1, none⟩ (.string t326)).setCell ⟨gb332, 2, none⟩ (.int .i64 t327)).setCell ⟨gb332, 3, none⟩ (.string t328)).setCell ⟨gb332, 4, none⟩ (.int .i64 t329)).setCell ⟨gb332, 5, none⟩ (.int .i64 t330)).heap[gb311]? = some (.cells #[.int .i64 a0_0, .string a0_1, .int .i64 a0_2, .string a0_3, .int .i64 a0_4, .int .i64 a0_5] 29 (0, 0))) := ⟨by (with_reducible repeat (first | refine blk_drewN ?_ _ | refine blk_drew ?_ | refine blk_alloc ?_ _)); refine blk_far ?_ NB311_332.out _; (with_reducible repeat (first | refine blk_drewN ?_ _ | refine blk_drew ?_ | refine blk_alloc ?_ _)); refine blk_far ?_ NB311_332.out _; (with_reducible repeat (first | refine blk_drewN ?_ _ | refine blk_drew ?_ | refine blk_alloc ?_ _)); refine blk_far ?_ NB311_332.out _; (with_reducible repeat (first | refine blk_drewN ?_ _ | refine blk_drew ?_ | refine blk_alloc ?_ _)); refine blk_far ?_ NB311_332.out _; (with_reducible repeat (first | refine blk_drewN ?_ _ | refine blk_drew ?_ | refine blk_alloc ?_ _)); refine blk_far ?_ NB311_332.out _; (with_reducible repeat (first | refine blk_drewN ?_ _ | refine blk_drew ?_ | refine blk_alloc ?_ _)); refine blk_far ?_ NB311_332.out _; (with_reducible repeat (first | refine blk_drewN ?_ _ | refine blk_drew ?_ | refine blk_alloc ?_ _)); exact BK311.out⟩
     have n1_ : Aside0 (((((((w40.setCell ⟨gb332, 0, none⟩ (.int .i64 t325)).setCell ⟨gb332, 1, none⟩ (.string t326)).setCell ⟨gb332, 2, none⟩ (.int .i64 t327)).setCell ⟨gb332, 3, none⟩ (.string t328)).setCell ⟨gb332, 4, none⟩ (.int .i64 t329)).setCell ⟨gb332, 5, none⟩ (.int .i64 t330)).heap[gb312]? = some (.cells #[.int .i64 a1_0, .int .i64 a1_1, .int .i64 a1_2, .string a1_3] 31 (0, 0))) := ⟨by (with_reducible repeat (first | refine blk_drewN ?_ _ | refine blk_drew ?_ | refine blk_alloc ?_ _)); refine blk_far ?_ NB312_332.out _; (with_reducible repeat (first | refine blk_drewN ?_ _ | refine blk_drew ?_ | refine blk_alloc ?_ _)); refine blk_far ?_ NB312_332.out _; (with_reducible repeat (first | refine blk_drewN ?_ _ | refine blk_drew ?_ | refine blk_alloc ?_ _)); refine blk_far ?_ NB312_332.out _; (with_reducible repeat (first | refine blk_drewN ?_ _ | refine blk_drew ?_ | refine blk_alloc ?_ _)); refine blk_far ?_ NB312_332.out _; (with_reducible repeat (first | refine blk_drewN ?_ _ | refine blk_drew ?_ | refine blk_alloc ?_ _)); refine blk_far ?_ NB312_332.out _; (with_reducible repeat (first | refine blk_drewN ?_ _ | refine blk_drew ?_ | refine blk_alloc ?_ _)); refine blk_far ?_ NB312_332.out _; (with_reducible repeat (first | refine blk_drewN ?_ _ | refine blk_drew ?_ | refine blk_alloc ?_ _)); exact BK312.out⟩
     have n2_ : Aside0 (((((((w40.setCell ⟨gb332, 0, none⟩ (.int .i64 t325)).setCell ⟨gb332, 1, none⟩ (.string t326)).setCell ⟨gb332, 2, none⟩ (.int .i64 t327)).setCell ⟨gb332, 3, none⟩ (.string t328)).setCell ⟨gb332, 4, none⟩ (.int .i64 t329)).setCell ⟨gb332, 5, none⟩ (.int .i64 t330)).heap[gb332]? = some (.cells #[.int .i64 t325, .string t326, .int .i64 t327, .string t328, .int .i64 t329, .int .i64 t330] 34 (0, 0))) := ⟨by (with_reducible repeat (first | refine blk_drewN ?_ _ | refine blk_drew ?_ | refine blk_alloc ?_ _)); refine blk_put (cs := #[.int .i64 t325, .string t326, .int .i64 t327, .string t328, .int .i64 t329, .int .i64 0]) ?_ 5 _ rfl; (with_reducible repeat (first | refine blk_drewN ?_ _ | refine blk_drew ?_ | refine blk_alloc ?_ _)); refine blk_put (cs := #[.int .i64 t325, .string t326, .int .i64 t327, .string t328, .int .i64 0, .int .i64 0]) ?_ 4 _ rfl; (with_reducible repeat (first | refine blk_drewN ?_ _ | refine blk_drew ?_ | refine blk_alloc ?_ _)); refine blk_put (cs := #[.int .i64 t325, .string t326, .int .i64 t327, .string (⟨#[]⟩ : ByteArray), .int .i64 0, .int .i64 0]) ?_ 3 _ rfl; (with_reducible repeat (first | refine blk_drewN ?_ _ | refine blk_drew ?_ | refine blk_alloc ?_ _)); refine blk_put (cs := #[.int .i64 t325, .string t326, .int .i64 0, .string (⟨#[]⟩ : ByteArray), .int .i64 0, .int .i64 0]) ?_ 2 _ rfl; (with_reducible repeat (first | refine blk_drewN ?_ _ | refine blk_drew ?_ | refine blk_alloc ?_ _)); refine blk_put (cs := #[.int .i64 t325, .string (⟨#[]⟩ : ByteArray), .int .i64 0, .string (⟨#[]⟩ : ByteArray), .int .i64 0, .int .i64 0]) ?_ 1 _ rfl; (with_reducible repeat (first | refine blk_drewN ?_ _ | refine blk_drew ?_ | refine blk_alloc ?_ _)); refine blk_put (cs := #[.int .i64 0, .string (⟨#[]⟩ : ByteArray), .int .i64 0, .string (⟨#[]⟩ : ByteArray), .int .i64 0, .int .i64 0]) ?_ 0 _ rfl; (with_reducible repeat (first | refine blk_drewN ?_ _ | refine blk_drew ?_ | refine blk_alloc ?_ _)); exact BK332.out⟩
     have n3_ : Aside0 (Below w.heap.size w ((((((w40.setCell ⟨gb332, 0, none⟩ (.int .i64 t325)).setCell ⟨gb332, 1, none⟩ (.string t326)).setCell ⟨gb332, 2, none⟩ (.int .i64 t327)).setCell ⟨gb332, 3, none⟩ (.string t328)).setCell ⟨gb332, 4, none⟩ (.int .i64 t329)).setCell ⟨gb332, 5, none⟩ (.int .i64 t330))) := ⟨by repeat (first | (with_reducible first | exact HB.out | apply below_alloc | apply pw_below_drewN | apply below_drew1 | refine below_set ?_ GE311.out | refine below_set ?_ GE312.out | refine below_set ?_ GE332.out) | exact HB.out)⟩
     (try clear BK311)
     (try clear BK312)
     (try clear BK332)
     (try clear HB)
     generalize ((((((w40.setCell ⟨gb332, 0, none⟩ (.int .i64 t325)).setCell ⟨gb332, 1, none⟩ (.string t326)).setCell ⟨gb332, 2, none⟩ (.int .i64 t327)).setCell ⟨gb332, 3, none⟩ (.string t328)).setCell ⟨gb332, 4, none⟩ (.int .i64 t329)).setCell ⟨gb332, 5, none⟩ (.int .i64 t330)) = w47 at n0_ n1_ n2_ n3_ ⊢
     have BK311 := n0_
     have BK312 := n1_
     have BK332 := n2_
     have HB := n3_
     clear n0_ n1_ n2_ n3_
     have n0_ := Aside0.mk (blk_drew BK311.out)
     have n1_ := Aside0.mk (blk_drew BK312.out)
     have n2_ := Aside0.mk (blk_drew BK332.out)
     have n3_ := Aside0.mk (below_drew1 HB.out)
     clear BK311
     clear BK312
     clear BK332
     clear HB
     have BK311 := n0_
     have BK312 := n1_
     have BK332 := n2_
     have HB := n3_
     clear n0_ n1_ n2_ n3_
     refine start_ (n := 11) (S := fun w' => w'.cell? ⟨gb311, 0, none⟩ = some (.int .i64 a0_0) ∧ w'.cell? ⟨gb311, 1, none⟩ = some (.string a0_1) ∧ w'.cell? ⟨gb311, 2, none⟩ = some (.int .i64 a0_2) ∧ w'.cell? ⟨gb311, 3, none⟩ = some (.string a0_3) ∧ w'.cell? ⟨gb311, 4, none⟩ = some (.int .i64 a0_4) ∧ w'.cell? ⟨gb311, 5, none⟩ = some (.int .i64 a0_5) ∧ w'.cell? ⟨gb312, 0, none⟩ = some (.int .i64 a1_0) ∧ w'.cell? ⟨gb312, 1, none⟩ = some (.int .i64 a1_1) ∧ w'.cell? ⟨gb312, 2, none⟩ = some (.int .i64 a1_2) ∧ w'.cell? ⟨gb312, 3, none⟩ = some (.string a1_3)) (ds := []) #[false, false, false, false, false, false, false, false, false, false, false] (by kernel_rfl) rfl rfl ⟨(blk_cell BK311.out 0).trans rfl, (blk_cell BK311.out 1).trans rfl, (blk_cell BK311.out 2).trans rfl, (blk_cell BK311.out 3).trans rfl, (blk_cell BK311.out 4).trans rfl, (blk_cell BK311.out 5).trans rfl, (blk_cell BK312.out 0).trans rfl, (blk_cell BK312.out 1).trans rfl, (blk_cell BK312.out 2).trans rfl, (blk_cell BK312.out 3).trans rfl⟩ (fun hHeld => ?_); refine with_tabW laws_FnExactApply.tab9 laws_FnExactApply.bits9 (fun HT_ HW_ => ?_)
     generalize w47.drew = w48 at BK311 BK312 BK332 HB hHeld ⊢
     refine take_ (i := 0) (N := some 29) (v := ?_) (a' := ?_) #[true, false, false, false, false, false, false, false, false, false, false] rfl rfl (take_ofW HT_.out HW_.out (by kernel_rfl)) (fun _ _ _ h => h) (Or.inl ⟨by rfl, ?_⟩) hHeld ?_ ?_
     rotate_left
     ·rintro w' ⟨s0, s1, s2, s3, s4, s5, s6, s7, s8, s9⟩
      go_simp
      with_reducible rfl
     rotate_left
     ·simp only [Act.put, List.setIfInBounds_toArray, List.set_cons_zero, List.set_cons_succ, i64_w, i32_w]
      rfl
     refine take_ (i := 2) (N := some 31) (v := ?_) (a' := ?_) #[true, false, true, false, false, false, false, false, false, false, false] rfl rfl (take_ofW HT_.out HW_.out (by kernel_rfl)) (fun _ _ _ h => h) (Or.inl ⟨by rfl, ?_⟩) hHeld ?_ ?_
     rotate_left
     ·rintro w' ⟨s0, s1, s2, s3, s4, s5, s6, s7, s8, s9⟩
      go_simp
      with_reducible rfl
     rotate_left
     ·simp only [Act.put, List.setIfInBounds_toArray, List.set_cons_zero, List.set_cons_succ, i64_w, i32_w]
      rfl
     refine join_ (σ := Nat) 2 #[true, true, true, true, true, true, true, true, true, false, false] (fun s_ => [(30, .agg #[.int .i64 t333, .string t334, .int .i64 t335, .string t336, .int .i64 t337, .int .i64 t338]), (32, .agg #[.int .i64 t339, .int .i64 t340, .int .i64 t341, .string t342]), (33, .tuple #[.agg #[.int .i64 t343, .string t344, .int .i64 t345, .string t346, .int .i64 t347, .int .i64 t348], .bool t349]), (8, .pointer (some ⟨s_, 0, none⟩)), (28, .tuple #[.agg #[.int .i64 t343, .string t344, .int .i64 t345, .string t346, .int .i64 t347, .int .i64 t348], .bool t349]), (34, .agg #[.int .i64 t343, .string t344, .int .i64 t345, .string t346, .int .i64 t347, .int .i64 t348]), (35, .bool t349)]) (fun s_ w' => (w'.cell? ⟨gb311, 0, none⟩ = some (.int .i64 a0_0) ∧ w'.cell? ⟨gb311, 1, none⟩ = some (.string a0_1) ∧ w'.cell? ⟨gb311, 2, none⟩ = some (.int .i64 a0_2) ∧ w'.cell? ⟨gb311, 3, none⟩ = some (.string a0_3) ∧ w'.cell? ⟨gb311, 4, none⟩ = some (.int .i64 a0_4) ∧ w'.cell? ⟨gb311, 5, none⟩ = some (.int .i64 a0_5) ∧ w'.cell? ⟨gb312, 0, none⟩ = some (.int .i64 a1_0) ∧ w'.cell? ⟨gb312, 1, none⟩ = some (.int .i64 a1_1) ∧ w'.cell? ⟨gb312, 2, none⟩ = some (.int .i64 a1_2) ∧ w'.cell? ⟨gb312, 3, none⟩ = some (.string a1_3)) ∧ (w'.heap[gb311]? = some (.cells #[.int .i64 a0_0, .string a0_1, .int .i64 a0_2, .string a0_3, .int .i64 a0_4, .int .i64 a0_5] 29 (0, 0))) ∧ (w'.heap[gb312]? = some (.cells #[.int .i64 a1_0, .int .i64 a1_1, .int .i64 a1_2, .string a1_3] 31 (0, 0))) ∧ (w'.heap[gb332]? = some (.cells #[.int .i64 t325, .string t326, .int .i64 t327, .string t328, .int .i64 t329, .int .i64 t330] 34 (0, 0))) ∧ (w'.heap[s_]? = some (.cells #[.int .i64 0, .string (⟨#[]⟩ : ByteArray), .int .i64 0, .string (⟨#[]⟩ : ByteArray), .int .i64 0, .int .i64 0] 34 (0, 0))) ∧ (w.heap.size ≤ s_) ∧ (w.heap.size ≤ s_) ∧ (gb311 ≠ s_) ∧ (s_ ≠ gb311) ∧ (gb312 ≠ s_) ∧ (s_ ≠ gb312) ∧ (gb332 ≠ s_) ∧ (s_ ≠ gb332) ∧ (Below w.heap.size w w')) ?_ ?_
     rotate_left
     ·intro hCont
      refine two_ (i := 1) (j := 8) (Ni := some 30) (Nj := some 8) #[true, true, true, false, false, false, false, false, false, false, false] #[true, false, true, false, false, false, false, false, true, false, false] rfl rfl rfl rfl (two_of HT_.out (by kernel_rfl)) (by decide) (by decide) (fun K hK => ?_) (fun K hK => ?_)
      ·skip
       refine goes_ Tryd.func17 (by kernel_rfl) rfl #[.agg #[.int .i64 a0_0, .string a0_1, .int .i64 a0_2, .string a0_3, .int .i64 a0_4, .int .i64 a0_5]] (by rfl) rfl rfl z1_ ?_
       with_reducible refine (laws_toKnown.calls a0_0 a0_1 a0_2 a0_3 a0_4 a0_5 t333 t334 t335 t336 t337 t338 _ A22.out).mono ?_
       rintro e w49 ⟨rfl, hb⟩
       refine ⟨_, rfl, ?_⟩
       have n0_ := Aside0.mk (blk_below (g := gb311) (o := .cells #[.int .i64 a0_0, .string a0_1, .int .i64 a0_2, .string a0_3, .int .i64 a0_4, .int .i64 a0_5] 29 (0, 0)) z6_ hb)
       have n1_ := Aside0.mk (blk_below (g := gb312) (o := .cells #[.int .i64 a1_0, .int .i64 a1_1, .int .i64 a1_2, .string a1_3] 31 (0, 0)) z7_ hb)
       have n2_ := Aside0.mk (blk_below (g := gb332) (o := .cells #[.int .i64 t325, .string t326, .int .i64 t327, .string t328, .int .i64 t329, .int .i64 t330] 34 (0, 0)) z14_ hb)
       have n3_ := Aside0.mk (below_step z9_ hb)
       clear BK311
       clear BK312
       clear BK332
       clear HB
       have BK311 := n0_
       have BK312 := n1_
       have BK332 := n2_
       have HB := n3_
       clear n0_ n1_ n2_ n3_
       (try clear hb)
       (try clear hb2)
       (try clear hk)
       (try clear hi)
       refine hK.out _ _ ⟨(blk_cell BK311.out 0).trans rfl, (blk_cell BK311.out 1).trans rfl, (blk_cell BK311.out 2).trans rfl, (blk_cell BK311.out 3).trans rfl, (blk_cell BK311.out 4).trans rfl, (blk_cell BK311.out 5).trans rfl, (blk_cell BK312.out 0).trans rfl, (blk_cell BK312.out 1).trans rfl, (blk_cell BK312.out 2).trans rfl, (blk_cell BK312.out 3).trans rfl⟩ (fun hHeld => ?_)
       clear hK K
       refine norm_ (a' := ?_) ?_ ?_
       rotate_left
       ·show Act.put _ (some 30) _ = _
        simp only [Act.put, List.setIfInBounds_toArray, List.set_cons_zero, List.set_cons_succ, i64_w, i32_w]
        rfl
       refine two_ (i := 3) (j := 8) (Ni := some 32) (Nj := some 8) #[true, true, true, true, false, false, false, false, false, false, false] #[true, true, true, false, false, false, false, false, true, false, false] rfl rfl rfl rfl (two_of HT_.out (by kernel_rfl)) (by decide) (by decide) (fun K hK => ?_) (fun K hK => ?_)
       ·skip
        refine goes_ Tryd.func18 (by kernel_rfl) rfl #[.agg #[.int .i64 a1_0, .int .i64 a1_1, .int .i64 a1_2, .string a1_3]] (by rfl) rfl rfl z1_ ?_
        with_reducible refine (laws_toRec.calls a1_0 a1_1 a1_2 a1_3 t339 t340 t341 t342 _ A23.out).mono ?_
        rintro e w50 ⟨rfl, hb⟩
        refine ⟨_, rfl, ?_⟩
        have n0_ := Aside0.mk (blk_below (g := gb311) (o := .cells #[.int .i64 a0_0, .string a0_1, .int .i64 a0_2, .string a0_3, .int .i64 a0_4, .int .i64 a0_5] 29 (0, 0)) z6_ hb)
        have n1_ := Aside0.mk (blk_below (g := gb312) (o := .cells #[.int .i64 a1_0, .int .i64 a1_1, .int .i64 a1_2, .string a1_3] 31 (0, 0)) z7_ hb)
        have n2_ := Aside0.mk (blk_below (g := gb332) (o := .cells #[.int .i64 t325, .string t326, .int .i64 t327, .string t328, .int .i64 t329, .int .i64 t330] 34 (0, 0)) z14_ hb)
        have n3_ := Aside0.mk (below_step z9_ hb)
        clear BK311
        clear BK312
        clear BK332
        clear HB
        have BK311 := n0_
        have BK312 := n1_
        have BK332 := n2_
        have HB := n3_
        clear n0_ n1_ n2_ n3_
        (try clear hb)
        (try clear hb2)
        (try clear hk)
        (try clear hi)
        refine hK.out _ _ ⟨(blk_cell BK311.out 0).trans rfl, (blk_cell BK311.out 1).trans rfl, (blk_cell BK311.out 2).trans rfl, (blk_cell BK311.out 3).trans rfl, (blk_cell BK311.out 4).trans rfl, (blk_cell BK311.out 5).trans rfl, (blk_cell BK312.out 0).trans rfl, (blk_cell BK312.out 1).trans rfl, (blk_cell BK312.out 2).trans rfl, (blk_cell BK312.out 3).trans rfl⟩ (fun hHeld => ?_)
        clear hK K
        refine norm_ (a' := ?_) ?_ ?_
        rotate_left
        ·show Act.put _ (some 32) _ = _
         simp only [Act.put, List.setIfInBounds_toArray, List.set_cons_zero, List.set_cons_succ, i64_w, i32_w]
         rfl
        refine two_ (i := 4) (j := 8) (Ni := some 33) (Nj := some 8) #[true, true, true, true, true, false, false, false, false, false, false] #[true, true, true, true, false, false, false, false, true, false, false] rfl rfl rfl rfl (two_of HT_.out (by kernel_rfl)) (by decide) (by decide) (fun K hK => ?_) (fun K hK => ?_)
        ·skip
         refine goes_ Tryd.func19 (by kernel_rfl) rfl #[.agg #[.int .i64 t333, .string t334, .int .i64 t335, .string t336, .int .i64 t337, .int .i64 t338], .agg #[.int .i64 t339, .int .i64 t340, .int .i64 t341, .string t342]] (by rfl) rfl rfl z1_ ?_
         with_reducible refine (impl_Apply.calls k t333 t334 t335 t336 t337 t338 t339 t340 t341 t342 t343 t344 t345 t346 t347 t348 t349 _ ?side1 A24.out).mono ?_
         (case side1 => exact GW.below HGW.out z9_)
         rintro e w51 ⟨rfl, hb⟩
         refine ⟨_, rfl, ?_⟩
         have n0_ := Aside0.mk (blk_below (g := gb311) (o := .cells #[.int .i64 a0_0, .string a0_1, .int .i64 a0_2, .string a0_3, .int .i64 a0_4, .int .i64 a0_5] 29 (0, 0)) z6_ hb)
         have n1_ := Aside0.mk (blk_below (g := gb312) (o := .cells #[.int .i64 a1_0, .int .i64 a1_1, .int .i64 a1_2, .string a1_3] 31 (0, 0)) z7_ hb)
         have n2_ := Aside0.mk (blk_below (g := gb332) (o := .cells #[.int .i64 t325, .string t326, .int .i64 t327, .string t328, .int .i64 t329, .int .i64 t330] 34 (0, 0)) z14_ hb)
         have n3_ := Aside0.mk (below_step z9_ hb)
         clear BK311
         clear BK312
         clear BK332
         clear HB
         have BK311 := n0_
         have BK312 := n1_
         have BK332 := n2_
         have HB := n3_
         clear n0_ n1_ n2_ n3_
         (try clear hb)
         (try clear hb2)
         (try clear hk)
         (try clear hi)
         refine hK.out _ _ ⟨(blk_cell BK311.out 0).trans rfl, (blk_cell BK311.out 1).trans rfl, (blk_cell BK311.out 2).trans rfl, (blk_cell BK311.out 3).trans rfl, (blk_cell BK311.out 4).trans rfl, (blk_cell BK311.out 5).trans rfl, (blk_cell BK312.out 0).trans rfl, (blk_cell BK312.out 1).trans rfl, (blk_cell BK312.out 2).trans rfl, (blk_cell BK312.out 3).trans rfl⟩ (fun hHeld => ?_)
         clear hK K
         refine norm_ (a' := ?_) ?_ ?_
         rotate_left
         ·show Act.put _ (some 33) _ = _
          simp only [Act.put, List.setIfInBounds_toArray, List.set_cons_zero, List.set_cons_succ, i64_w, i32_w]
          rfl
         refine pure_ (i := 5) (N := some 28) (v := ?_) (a' := ?_) #[true, true, true, true, true, true, false, false, false, false, false] rfl rfl (any_of HT_.out (by kernel_rfl)) (fun _ _ _ h => h) (Or.inl ⟨by rfl, ?_⟩) ?_ ?_
         rotate_left
         ·intro w'
          go_simp
          with_reducible rfl
         rotate_left
         ·simp only [Act.put, List.setIfInBounds_toArray, List.set_cons_zero, List.set_cons_succ, i64_w, i32_w]
          rfl
         refine pure_ (i := 6) (N := some 34) (v := ?_) (a' := ?_) #[true, true, true, true, true, true, true, false, false, false, false] rfl rfl (any_of HT_.out (by kernel_rfl)) (fun _ _ _ h => h) (Or.inl ⟨by rfl, ?_⟩) ?_ ?_
         rotate_left
         ·intro w'
          go_simp
          with_reducible rfl
         rotate_left
         ·simp only [Act.put, List.setIfInBounds_toArray, List.set_cons_zero, List.set_cons_succ, i64_w, i32_w]
          rfl
         refine pure_ (i := 7) (N := some 35) (v := ?_) (a' := ?_) #[true, true, true, true, true, true, true, true, false, false, false] rfl rfl (any_of HT_.out (by kernel_rfl)) (fun _ _ _ h => h) (Or.inl ⟨by rfl, ?_⟩) ?_ ?_
         rotate_left
         ·intro w'
          go_simp
          with_reducible rfl
         rotate_left
         ·simp only [Act.put, List.setIfInBounds_toArray, List.set_cons_zero, List.set_cons_succ, i64_w, i32_w]
          rfl
         refine one_ (i := 8) (N := some 8) #[true, true, true, true, true, true, true, true, true, false, false] rfl rfl (one_of HT_.out (by kernel_rfl)) (by decide) (fun K hK => ?_)
         refine box_step ?hg (N := 8) ?hd (cs := #[.int .i64 0, .string (⟨#[]⟩ : ByteArray), .int .i64 0, .string (⟨#[]⟩ : ByteArray), .int .i64 0, .int .i64 0]) (t := 34) ?hr ?_; (case hd => rfl); (case hg => rfl); (case hr => first | (go_simp; done) | (go_simp; rfl))
         intro gb350 hg w52 hbox hb
         have n0_ := Aside0.mk (blk_below (g := gb311) (o := .cells #[.int .i64 a0_0, .string a0_1, .int .i64 a0_2, .string a0_3, .int .i64 a0_4, .int .i64 a0_5] 29 (0, 0)) z6_ hb)
         have n1_ := Aside0.mk (blk_below (g := gb312) (o := .cells #[.int .i64 a1_0, .int .i64 a1_1, .int .i64 a1_2, .string a1_3] 31 (0, 0)) z7_ hb)
         have n2_ := Aside0.mk (blk_below (g := gb332) (o := .cells #[.int .i64 t325, .string t326, .int .i64 t327, .string t328, .int .i64 t329, .int .i64 t330] 34 (0, 0)) z14_ hb)
         have n3_ := Aside0.mk (below_step z9_ hb)
         have n4_ := Aside0.mk (hbox)
         have n5_ := Aside0.mk ((by rw [hg]; exact (below_size z9_) : w.heap.size ≤ gb350))
         have n6_ := Aside0.mk ((by rw [hg]; exact (below_size z9_) : w.heap.size ≤ gb350))
         have n7_ := Aside0.mk ((by rw [hg]; exact Nat.ne_of_lt (blk_lt (g := gb311) (o := .cells #[.int .i64 a0_0, .string a0_1, .int .i64 a0_2, .string a0_3, .int .i64 a0_4, .int .i64 a0_5] 29 (0, 0)) z6_) : gb311 ≠ gb350))
         have n8_ := Aside0.mk ((by rw [hg]; exact Nat.ne_of_gt (blk_lt (g := gb311) (o := .cells #[.int .i64 a0_0, .string a0_1, .int .i64 a0_2, .string a0_3, .int .i64 a0_4, .int .i64 a0_5] 29 (0, 0)) z6_) : gb350 ≠ gb311))
         have n9_ := Aside0.mk ((by rw [hg]; exact Nat.ne_of_lt (blk_lt (g := gb312) (o := .cells #[.int .i64 a1_0, .int .i64 a1_1, .int .i64 a1_2, .string a1_3] 31 (0, 0)) z7_) : gb312 ≠ gb350))
         have n10_ := Aside0.mk ((by rw [hg]; exact Nat.ne_of_gt (blk_lt (g := gb312) (o := .cells #[.int .i64 a1_0, .int .i64 a1_1, .int .i64 a1_2, .string a1_3] 31 (0, 0)) z7_) : gb350 ≠ gb312))
         have n11_ := Aside0.mk ((by rw [hg]; exact Nat.ne_of_lt (blk_lt (g := gb332) (o := .cells #[.int .i64 t325, .string t326, .int .i64 t327, .string t328, .int .i64 t329, .int .i64 t330] 34 (0, 0)) z14_) : gb332 ≠ gb350))
         have n12_ := Aside0.mk ((by rw [hg]; exact Nat.ne_of_gt (blk_lt (g := gb332) (o := .cells #[.int .i64 t325, .string t326, .int .i64 t327, .string t328, .int .i64 t329, .int .i64 t330] 34 (0, 0)) z14_) : gb350 ≠ gb332))
         clear BK311
         clear BK312
         clear BK332
         clear HB
         have BK311 := n0_
         have BK312 := n1_
         have BK332 := n2_
         have HB := n3_
         have BK350 := n4_
         have GW350 := n5_
         have GE350 := n6_
         have NB311_350 := n7_
         have NB350_311 := n8_
         have NB312_350 := n9_
         have NB350_312 := n10_
         have NB332_350 := n11_
         have NB350_332 := n12_
         clear n0_ n1_ n2_ n3_ n4_ n5_ n6_ n7_ n8_ n9_ n10_ n11_ n12_
         clear hb hbox hg
         refine hK.out _ _ ⟨(blk_cell BK311.out 0).trans rfl, (blk_cell BK311.out 1).trans rfl, (blk_cell BK311.out 2).trans rfl, (blk_cell BK311.out 3).trans rfl, (blk_cell BK311.out 4).trans rfl, (blk_cell BK311.out 5).trans rfl, (blk_cell BK312.out 0).trans rfl, (blk_cell BK312.out 1).trans rfl, (blk_cell BK312.out 2).trans rfl, (blk_cell BK312.out 3).trans rfl⟩ (fun hHeld => ?_)
         clear hK K
         refine norm_ (a' := ?_) ?_ ?_
         rotate_left
         ·show Act.put _ (some 8) _ = _
          simp only [Act.put, List.setIfInBounds_toArray, List.set_cons_zero, List.set_cons_succ, i64_w, i32_w]
          rfl
         exact norm_ z34_ (hCont (gb350) _ ⟨hHeld, z6_, z7_, z14_, z30_, GW350.out, GE350.out, NB311_350.out, NB350_311.out, NB312_350.out, NB350_312.out, NB332_350.out, NB350_332.out, z16_⟩)
        ·skip
         refine box_step ?hg (N := 8) ?hd (cs := #[.int .i64 0, .string (⟨#[]⟩ : ByteArray), .int .i64 0, .string (⟨#[]⟩ : ByteArray), .int .i64 0, .int .i64 0]) (t := 34) ?hr ?_; (case hd => rfl); (case hg => rfl); (case hr => first | (go_simp; done) | (go_simp; rfl))
         intro gb350 hg w51 hbox hb
         have n0_ := Aside0.mk (blk_below (g := gb311) (o := .cells #[.int .i64 a0_0, .string a0_1, .int .i64 a0_2, .string a0_3, .int .i64 a0_4, .int .i64 a0_5] 29 (0, 0)) z6_ hb)
         have n1_ := Aside0.mk (blk_below (g := gb312) (o := .cells #[.int .i64 a1_0, .int .i64 a1_1, .int .i64 a1_2, .string a1_3] 31 (0, 0)) z7_ hb)
         have n2_ := Aside0.mk (blk_below (g := gb332) (o := .cells #[.int .i64 t325, .string t326, .int .i64 t327, .string t328, .int .i64 t329, .int .i64 t330] 34 (0, 0)) z14_ hb)
         have n3_ := Aside0.mk (below_step z9_ hb)
         have n4_ := Aside0.mk (hbox)
         have n5_ := Aside0.mk ((by rw [hg]; exact (below_size z9_) : w.heap.size ≤ gb350))
         have n6_ := Aside0.mk ((by rw [hg]; exact (below_size z9_) : w.heap.size ≤ gb350))
         have n7_ := Aside0.mk ((by rw [hg]; exact Nat.ne_of_lt (blk_lt (g := gb311) (o := .cells #[.int .i64 a0_0, .string a0_1, .int .i64 a0_2, .string a0_3, .int .i64 a0_4, .int .i64 a0_5] 29 (0, 0)) z6_) : gb311 ≠ gb350))
         have n8_ := Aside0.mk ((by rw [hg]; exact Nat.ne_of_gt (blk_lt (g := gb311) (o := .cells #[.int .i64 a0_0, .string a0_1, .int .i64 a0_2, .string a0_3, .int .i64 a0_4, .int .i64 a0_5] 29 (0, 0)) z6_) : gb350 ≠ gb311))
         have n9_ := Aside0.mk ((by rw [hg]; exact Nat.ne_of_lt (blk_lt (g := gb312) (o := .cells #[.int .i64 a1_0, .int .i64 a1_1, .int .i64 a1_2, .string a1_3] 31 (0, 0)) z7_) : gb312 ≠ gb350))
         have n10_ := Aside0.mk ((by rw [hg]; exact Nat.ne_of_gt (blk_lt (g := gb312) (o := .cells #[.int .i64 a1_0, .int .i64 a1_1, .int .i64 a1_2, .string a1_3] 31 (0, 0)) z7_) : gb350 ≠ gb312))
         have n11_ := Aside0.mk ((by rw [hg]; exact Nat.ne_of_lt (blk_lt (g := gb332) (o := .cells #[.int .i64 t325, .string t326, .int .i64 t327, .string t328, .int .i64 t329, .int .i64 t330] 34 (0, 0)) z14_) : gb332 ≠ gb350))
         have n12_ := Aside0.mk ((by rw [hg]; exact Nat.ne_of_gt (blk_lt (g := gb332) (o := .cells #[.int .i64 t325, .string t326, .int .i64 t327, .string t328, .int .i64 t329, .int .i64 t330] 34 (0, 0)) z14_) : gb350 ≠ gb332))
         clear BK311
         clear BK312
         clear BK332
         clear HB
         have BK311 := n0_
         have BK312 := n1_
         have BK332 := n2_
         have HB := n3_
         have BK350 := n4_
         have GW350 := n5_
         have GE350 := n6_
         have NB311_350 := n7_
         have NB350_311 := n8_
         have NB312_350 := n9_
         have NB350_312 := n10_
         have NB332_350 := n11_
         have NB350_332 := n12_
         clear n0_ n1_ n2_ n3_ n4_ n5_ n6_ n7_ n8_ n9_ n10_ n11_ n12_
         clear hb hbox hg
         refine hK.out _ _ ⟨(blk_cell BK311.out 0).trans rfl, (blk_cell BK311.out 1).trans rfl, (blk_cell BK311.out 2).trans rfl, (blk_cell BK311.out 3).trans rfl, (blk_cell BK311.out 4).trans rfl, (blk_cell BK311.out 5).trans rfl, (blk_cell BK312.out 0).trans rfl, (blk_cell BK312.out 1).trans rfl, (blk_cell BK312.out 2).trans rfl, (blk_cell BK312.out 3).trans rfl⟩ (fun hHeld => ?_)
         clear hK K
         refine norm_ (a' := ?_) ?_ ?_
         rotate_left
         ·show Act.put _ (some 8) _ = _
          simp only [Act.put, List.setIfInBounds_toArray, List.set_cons_zero, List.set_cons_succ, i64_w, i32_w]
          rfl
         refine one_ (i := 4) (N := some 33) #[true, true, true, true, true, false, false, false, true, false, false] rfl rfl (one_of HT_.out (by kernel_rfl)) (by decide) (fun K hK => ?_)
         refine goes_ Tryd.func19 (by kernel_rfl) rfl #[.agg #[.int .i64 t333, .string t334, .int .i64 t335, .string t336, .int .i64 t337, .int .i64 t338], .agg #[.int .i64 t339, .int .i64 t340, .int .i64 t341, .string t342]] (by rfl) rfl rfl z1_ ?_
         with_reducible refine (impl_Apply.calls k t333 t334 t335 t336 t337 t338 t339 t340 t341 t342 t343 t344 t345 t346 t347 t348 t349 _ ?side1 A24.out).mono ?_
         (case side1 => exact GW.below HGW.out z16_)
         rintro e w52 ⟨rfl, hb⟩
         refine ⟨_, rfl, ?_⟩
         have n0_ := Aside0.mk (blk_below (g := gb311) (o := .cells #[.int .i64 a0_0, .string a0_1, .int .i64 a0_2, .string a0_3, .int .i64 a0_4, .int .i64 a0_5] 29 (0, 0)) z6_ hb)
         have n1_ := Aside0.mk (blk_below (g := gb312) (o := .cells #[.int .i64 a1_0, .int .i64 a1_1, .int .i64 a1_2, .string a1_3] 31 (0, 0)) z7_ hb)
         have n2_ := Aside0.mk (blk_below (g := gb332) (o := .cells #[.int .i64 t325, .string t326, .int .i64 t327, .string t328, .int .i64 t329, .int .i64 t330] 34 (0, 0)) z14_ hb)
         have n3_ := Aside0.mk (blk_below (g := gb350) (o := .cells #[.int .i64 0, .string (⟨#[]⟩ : ByteArray), .int .i64 0, .string (⟨#[]⟩ : ByteArray), .int .i64 0, .int .i64 0] 34 (0, 0)) z30_ hb)
         have n4_ := Aside0.mk (below_step z16_ hb)
         clear BK311
         clear BK312
         clear BK332
         clear BK350
         clear HB
         have BK311 := n0_
         have BK312 := n1_
         have BK332 := n2_
         have BK350 := n3_
         have HB := n4_
         clear n0_ n1_ n2_ n3_ n4_
         (try clear hb)
         (try clear hb2)
         (try clear hk)
         (try clear hi)
         refine hK.out _ _ ⟨(blk_cell BK311.out 0).trans rfl, (blk_cell BK311.out 1).trans rfl, (blk_cell BK311.out 2).trans rfl, (blk_cell BK311.out 3).trans rfl, (blk_cell BK311.out 4).trans rfl, (blk_cell BK311.out 5).trans rfl, (blk_cell BK312.out 0).trans rfl, (blk_cell BK312.out 1).trans rfl, (blk_cell BK312.out 2).trans rfl, (blk_cell BK312.out 3).trans rfl⟩ (fun hHeld => ?_)
         clear hK K
         refine norm_ (a' := ?_) ?_ ?_
         rotate_left
         ·show Act.put _ (some 33) _ = _
          simp only [Act.put, List.setIfInBounds_toArray, List.set_cons_zero, List.set_cons_succ, i64_w, i32_w]
          rfl
         refine pure_ (i := 5) (N := some 28) (v := ?_) (a' := ?_) #[true, true, true, true, true, true, false, false, true, false, false] rfl rfl (any_of HT_.out (by kernel_rfl)) (fun _ _ _ h => h) (Or.inl ⟨by rfl, ?_⟩) ?_ ?_
         rotate_left
         ·intro w'
          go_simp
          with_reducible rfl
         rotate_left
         ·simp only [Act.put, List.setIfInBounds_toArray, List.set_cons_zero, List.set_cons_succ, i64_w, i32_w]
          rfl
         refine pure_ (i := 6) (N := some 34) (v := ?_) (a' := ?_) #[true, true, true, true, true, true, true, false, true, false, false] rfl rfl (any_of HT_.out (by kernel_rfl)) (fun _ _ _ h => h) (Or.inl ⟨by rfl, ?_⟩) ?_ ?_
         rotate_left
         ·intro w'
          go_simp
          with_reducible rfl
         rotate_left
         ·simp only [Act.put, List.setIfInBounds_toArray, List.set_cons_zero, List.set_cons_succ, i64_w, i32_w]
          rfl
         refine pure_ (i := 7) (N := some 35) (v := ?_) (a' := ?_) #[true, true, true, true, true, true, true, true, true, false, false] rfl rfl (any_of HT_.out (by kernel_rfl)) (fun _ _ _ h => h) (Or.inl ⟨by rfl, ?_⟩) ?_ ?_
         rotate_left
         ·intro w'
          go_simp
          with_reducible rfl
         rotate_left
         ·simp only [Act.put, List.setIfInBounds_toArray, List.set_cons_zero, List.set_cons_succ, i64_w, i32_w]
          rfl
         exact norm_ z34_ (hCont (gb350) _ ⟨hHeld, z6_, z7_, z14_, z30_, GW350.out, GE350.out, NB311_350.out, NB350_311.out, NB312_350.out, NB350_312.out, NB332_350.out, NB350_332.out, z16_⟩)
       ·skip
        refine box_step ?hg (N := 8) ?hd (cs := #[.int .i64 0, .string (⟨#[]⟩ : ByteArray), .int .i64 0, .string (⟨#[]⟩ : ByteArray), .int .i64 0, .int .i64 0]) (t := 34) ?hr ?_; (case hd => rfl); (case hg => rfl); (case hr => first | (go_simp; done) | (go_simp; rfl))
        intro gb350 hg w50 hbox hb
        have n0_ := Aside0.mk (blk_below (g := gb311) (o := .cells #[.int .i64 a0_0, .string a0_1, .int .i64 a0_2, .string a0_3, .int .i64 a0_4, .int .i64 a0_5] 29 (0, 0)) z6_ hb)
        have n1_ := Aside0.mk (blk_below (g := gb312) (o := .cells #[.int .i64 a1_0, .int .i64 a1_1, .int .i64 a1_2, .string a1_3] 31 (0, 0)) z7_ hb)
        have n2_ := Aside0.mk (blk_below (g := gb332) (o := .cells #[.int .i64 t325, .string t326, .int .i64 t327, .string t328, .int .i64 t329, .int .i64 t330] 34 (0, 0)) z14_ hb)
        have n3_ := Aside0.mk (below_step z9_ hb)
        have n4_ := Aside0.mk (hbox)
        have n5_ := Aside0.mk ((by rw [hg]; exact (below_size z9_) : w.heap.size ≤ gb350))
        have n6_ := Aside0.mk ((by rw [hg]; exact (below_size z9_) : w.heap.size ≤ gb350))
        have n7_ := Aside0.mk ((by rw [hg]; exact Nat.ne_of_lt (blk_lt (g := gb311) (o := .cells #[.int .i64 a0_0, .string a0_1, .int .i64 a0_2, .string a0_3, .int .i64 a0_4, .int .i64 a0_5] 29 (0, 0)) z6_) : gb311 ≠ gb350))
        have n8_ := Aside0.mk ((by rw [hg]; exact Nat.ne_of_gt (blk_lt (g := gb311) (o := .cells #[.int .i64 a0_0, .string a0_1, .int .i64 a0_2, .string a0_3, .int .i64 a0_4, .int .i64 a0_5] 29 (0, 0)) z6_) : gb350 ≠ gb311))
        have n9_ := Aside0.mk ((by rw [hg]; exact Nat.ne_of_lt (blk_lt (g := gb312) (o := .cells #[.int .i64 a1_0, .int .i64 a1_1, .int .i64 a1_2, .string a1_3] 31 (0, 0)) z7_) : gb312 ≠ gb350))
        have n10_ := Aside0.mk ((by rw [hg]; exact Nat.ne_of_gt (blk_lt (g := gb312) (o := .cells #[.int .i64 a1_0, .int .i64 a1_1, .int .i64 a1_2, .string a1_3] 31 (0, 0)) z7_) : gb350 ≠ gb312))
        have n11_ := Aside0.mk ((by rw [hg]; exact Nat.ne_of_lt (blk_lt (g := gb332) (o := .cells #[.int .i64 t325, .string t326, .int .i64 t327, .string t328, .int .i64 t329, .int .i64 t330] 34 (0, 0)) z14_) : gb332 ≠ gb350))
        have n12_ := Aside0.mk ((by rw [hg]; exact Nat.ne_of_gt (blk_lt (g := gb332) (o := .cells #[.int .i64 t325, .string t326, .int .i64 t327, .string t328, .int .i64 t329, .int .i64 t330] 34 (0, 0)) z14_) : gb350 ≠ gb332))
        clear BK311
        clear BK312
        clear BK332
        clear HB
        have BK311 := n0_
        have BK312 := n1_
        have BK332 := n2_
        have HB := n3_
        have BK350 := n4_
        have GW350 := n5_
        have GE350 := n6_
        have NB311_350 := n7_
        have NB350_311 := n8_
        have NB312_350 := n9_
        have NB350_312 := n10_
        have NB332_350 := n11_
        have NB350_332 := n12_
        clear n0_ n1_ n2_ n3_ n4_ n5_ n6_ n7_ n8_ n9_ n10_ n11_ n12_
        clear hb hbox hg
        refine hK.out _ _ ⟨(blk_cell BK311.out 0).trans rfl, (blk_cell BK311.out 1).trans rfl, (blk_cell BK311.out 2).trans rfl, (blk_cell BK311.out 3).trans rfl, (blk_cell BK311.out 4).trans rfl, (blk_cell BK311.out 5).trans rfl, (blk_cell BK312.out 0).trans rfl, (blk_cell BK312.out 1).trans rfl, (blk_cell BK312.out 2).trans rfl, (blk_cell BK312.out 3).trans rfl⟩ (fun hHeld => ?_)
        clear hK K
        refine norm_ (a' := ?_) ?_ ?_
        rotate_left
        ·show Act.put _ (some 8) _ = _
         simp only [Act.put, List.setIfInBounds_toArray, List.set_cons_zero, List.set_cons_succ, i64_w, i32_w]
         rfl
        refine one_ (i := 3) (N := some 32) #[true, true, true, true, false, false, false, false, true, false, false] rfl rfl (one_of HT_.out (by kernel_rfl)) (by decide) (fun K hK => ?_)
        refine goes_ Tryd.func18 (by kernel_rfl) rfl #[.agg #[.int .i64 a1_0, .int .i64 a1_1, .int .i64 a1_2, .string a1_3]] (by rfl) rfl rfl z1_ ?_
        with_reducible refine (laws_toRec.calls a1_0 a1_1 a1_2 a1_3 t339 t340 t341 t342 _ A23.out).mono ?_
        rintro e w51 ⟨rfl, hb⟩
        refine ⟨_, rfl, ?_⟩
        have n0_ := Aside0.mk (blk_below (g := gb311) (o := .cells #[.int .i64 a0_0, .string a0_1, .int .i64 a0_2, .string a0_3, .int .i64 a0_4, .int .i64 a0_5] 29 (0, 0)) z6_ hb)
        have n1_ := Aside0.mk (blk_below (g := gb312) (o := .cells #[.int .i64 a1_0, .int .i64 a1_1, .int .i64 a1_2, .string a1_3] 31 (0, 0)) z7_ hb)
        have n2_ := Aside0.mk (blk_below (g := gb332) (o := .cells #[.int .i64 t325, .string t326, .int .i64 t327, .string t328, .int .i64 t329, .int .i64 t330] 34 (0, 0)) z14_ hb)
        have n3_ := Aside0.mk (blk_below (g := gb350) (o := .cells #[.int .i64 0, .string (⟨#[]⟩ : ByteArray), .int .i64 0, .string (⟨#[]⟩ : ByteArray), .int .i64 0, .int .i64 0] 34 (0, 0)) z30_ hb)
        have n4_ := Aside0.mk (below_step z16_ hb)
        clear BK311
        clear BK312
        clear BK332
        clear BK350
        clear HB
        have BK311 := n0_
        have BK312 := n1_
        have BK332 := n2_
        have BK350 := n3_
        have HB := n4_
        clear n0_ n1_ n2_ n3_ n4_
        (try clear hb)
        (try clear hb2)
        (try clear hk)
        (try clear hi)
        refine hK.out _ _ ⟨(blk_cell BK311.out 0).trans rfl, (blk_cell BK311.out 1).trans rfl, (blk_cell BK311.out 2).trans rfl, (blk_cell BK311.out 3).trans rfl, (blk_cell BK311.out 4).trans rfl, (blk_cell BK311.out 5).trans rfl, (blk_cell BK312.out 0).trans rfl, (blk_cell BK312.out 1).trans rfl, (blk_cell BK312.out 2).trans rfl, (blk_cell BK312.out 3).trans rfl⟩ (fun hHeld => ?_)
        clear hK K
        refine norm_ (a' := ?_) ?_ ?_
        rotate_left
        ·show Act.put _ (some 32) _ = _
         simp only [Act.put, List.setIfInBounds_toArray, List.set_cons_zero, List.set_cons_succ, i64_w, i32_w]
         rfl
        refine one_ (i := 4) (N := some 33) #[true, true, true, true, true, false, false, false, true, false, false] rfl rfl (one_of HT_.out (by kernel_rfl)) (by decide) (fun K hK => ?_)
        refine goes_ Tryd.func19 (by kernel_rfl) rfl #[.agg #[.int .i64 t333, .string t334, .int .i64 t335, .string t336, .int .i64 t337, .int .i64 t338], .agg #[.int .i64 t339, .int .i64 t340, .int .i64 t341, .string t342]] (by rfl) rfl rfl z1_ ?_
        with_reducible refine (impl_Apply.calls k t333 t334 t335 t336 t337 t338 t339 t340 t341 t342 t343 t344 t345 t346 t347 t348 t349 _ ?side1 A24.out).mono ?_
        (case side1 => exact GW.below HGW.out z16_)
        rintro e w52 ⟨rfl, hb⟩
        refine ⟨_, rfl, ?_⟩
        have n0_ := Aside0.mk (blk_below (g := gb311) (o := .cells #[.int .i64 a0_0, .string a0_1, .int .i64 a0_2, .string a0_3, .int .i64 a0_4, .int .i64 a0_5] 29 (0, 0)) z6_ hb)
        have n1_ := Aside0.mk (blk_below (g := gb312) (o := .cells #[.int .i64 a1_0, .int .i64 a1_1, .int .i64 a1_2, .string a1_3] 31 (0, 0)) z7_ hb)
        have n2_ := Aside0.mk (blk_below (g := gb332) (o := .cells #[.int .i64 t325, .string t326, .int .i64 t327, .string t328, .int .i64 t329, .int .i64 t330] 34 (0, 0)) z14_ hb)
        have n3_ := Aside0.mk (blk_below (g := gb350) (o := .cells #[.int .i64 0, .string (⟨#[]⟩ : ByteArray), .int .i64 0, .string (⟨#[]⟩ : ByteArray), .int .i64 0, .int .i64 0] 34 (0, 0)) z30_ hb)
        have n4_ := Aside0.mk (below_step z16_ hb)
        clear BK311
        clear BK312
        clear BK332
        clear BK350
        clear HB
        have BK311 := n0_
        have BK312 := n1_
        have BK332 := n2_
        have BK350 := n3_
        have HB := n4_
        clear n0_ n1_ n2_ n3_ n4_
        (try clear hb)
        (try clear hb2)
        (try clear hk)
        (try clear hi)
        refine hK.out _ _ ⟨(blk_cell BK311.out 0).trans rfl, (blk_cell BK311.out 1).trans rfl, (blk_cell BK311.out 2).trans rfl, (blk_cell BK311.out 3).trans rfl, (blk_cell BK311.out 4).trans rfl, (blk_cell BK311.out 5).trans rfl, (blk_cell BK312.out 0).trans rfl, (blk_cell BK312.out 1).trans rfl, (blk_cell BK312.out 2).trans rfl, (blk_cell BK312.out 3).trans rfl⟩ (fun hHeld => ?_)
        clear hK K
        refine norm_ (a' := ?_) ?_ ?_
        rotate_left
        ·show Act.put _ (some 33) _ = _
         simp only [Act.put, List.setIfInBounds_toArray, List.set_cons_zero, List.set_cons_succ, i64_w, i32_w]
         rfl
        refine pure_ (i := 5) (N := some 28) (v := ?_) (a' := ?_) #[true, true, true, true, true, true, false, false, true, false, false] rfl rfl (any_of HT_.out (by kernel_rfl)) (fun _ _ _ h => h) (Or.inl ⟨by rfl, ?_⟩) ?_ ?_
        rotate_left
        ·intro w'
         go_simp
         with_reducible rfl
        rotate_left
        ·simp only [Act.put, List.setIfInBounds_toArray, List.set_cons_zero, List.set_cons_succ, i64_w, i32_w]
         rfl
        refine pure_ (i := 6) (N := some 34) (v := ?_) (a' := ?_) #[true, true, true, true, true, true, true, false, true, false, false] rfl rfl (any_of HT_.out (by kernel_rfl)) (fun _ _ _ h => h) (Or.inl ⟨by rfl, ?_⟩) ?_ ?_
        rotate_left
        ·intro w'
         go_simp
         with_reducible rfl
        rotate_left
        ·simp only [Act.put, List.setIfInBounds_toArray, List.set_cons_zero, List.set_cons_succ, i64_w, i32_w]
         rfl
        refine pure_ (i := 7) (N := some 35) (v := ?_) (a' := ?_) #[true, true, true, true, true, true, true, true, true, false, false] rfl rfl (any_of HT_.out (by kernel_rfl)) (fun _ _ _ h => h) (Or.inl ⟨by rfl, ?_⟩) ?_ ?_
        rotate_left
        ·intro w'
         go_simp
         with_reducible rfl
        rotate_left
        ·simp only [Act.put, List.setIfInBounds_toArray, List.set_cons_zero, List.set_cons_succ, i64_w, i32_w]
         rfl
        exact norm_ z34_ (hCont (gb350) _ ⟨hHeld, z6_, z7_, z14_, z30_, GW350.out, GE350.out, NB311_350.out, NB350_311.out, NB312_350.out, NB350_312.out, NB332_350.out, NB350_332.out, z16_⟩)
      ·skip
       refine box_step ?hg (N := 8) ?hd (cs := #[.int .i64 0, .string (⟨#[]⟩ : ByteArray), .int .i64 0, .string (⟨#[]⟩ : ByteArray), .int .i64 0, .int .i64 0]) (t := 34) ?hr ?_; (case hd => rfl); (case hg => rfl); (case hr => first | (go_simp; done) | (go_simp; rfl))
       intro gb350 hg w49 hbox hb
       have n0_ := Aside0.mk (blk_below (g := gb311) (o := .cells #[.int .i64 a0_0, .string a0_1, .int .i64 a0_2, .string a0_3, .int .i64 a0_4, .int .i64 a0_5] 29 (0, 0)) z6_ hb)
       have n1_ := Aside0.mk (blk_below (g := gb312) (o := .cells #[.int .i64 a1_0, .int .i64 a1_1, .int .i64 a1_2, .string a1_3] 31 (0, 0)) z7_ hb)
       have n2_ := Aside0.mk (blk_below (g := gb332) (o := .cells #[.int .i64 t325, .string t326, .int .i64 t327, .string t328, .int .i64 t329, .int .i64 t330] 34 (0, 0)) z14_ hb)
       have n3_ := Aside0.mk (below_step z9_ hb)
       have n4_ := Aside0.mk (hbox)
       have n5_ := Aside0.mk ((by rw [hg]; exact (below_size z9_) : w.heap.size ≤ gb350))
       have n6_ := Aside0.mk ((by rw [hg]; exact (below_size z9_) : w.heap.size ≤ gb350))
       have n7_ := Aside0.mk ((by rw [hg]; exact Nat.ne_of_lt (blk_lt (g := gb311) (o := .cells #[.int .i64 a0_0, .string a0_1, .int .i64 a0_2, .string a0_3, .int .i64 a0_4, .int .i64 a0_5] 29 (0, 0)) z6_) : gb311 ≠ gb350))
       have n8_ := Aside0.mk ((by rw [hg]; exact Nat.ne_of_gt (blk_lt (g := gb311) (o := .cells #[.int .i64 a0_0, .string a0_1, .int .i64 a0_2, .string a0_3, .int .i64 a0_4, .int .i64 a0_5] 29 (0, 0)) z6_) : gb350 ≠ gb311))
       have n9_ := Aside0.mk ((by rw [hg]; exact Nat.ne_of_lt (blk_lt (g := gb312) (o := .cells #[.int .i64 a1_0, .int .i64 a1_1, .int .i64 a1_2, .string a1_3] 31 (0, 0)) z7_) : gb312 ≠ gb350))
       have n10_ := Aside0.mk ((by rw [hg]; exact Nat.ne_of_gt (blk_lt (g := gb312) (o := .cells #[.int .i64 a1_0, .int .i64 a1_1, .int .i64 a1_2, .string a1_3] 31 (0, 0)) z7_) : gb350 ≠ gb312))
       have n11_ := Aside0.mk ((by rw [hg]; exact Nat.ne_of_lt (blk_lt (g := gb332) (o := .cells #[.int .i64 t325, .string t326, .int .i64 t327, .string t328, .int .i64 t329, .int .i64 t330] 34 (0, 0)) z14_) : gb332 ≠ gb350))
       have n12_ := Aside0.mk ((by rw [hg]; exact Nat.ne_of_gt (blk_lt (g := gb332) (o := .cells #[.int .i64 t325, .string t326, .int .i64 t327, .string t328, .int .i64 t329, .int .i64 t330] 34 (0, 0)) z14_) : gb350 ≠ gb332))
       clear BK311
       clear BK312
       clear BK332
       clear HB
       have BK311 := n0_
       have BK312 := n1_
       have BK332 := n2_
       have HB := n3_
       have BK350 := n4_
       have GW350 := n5_
       have GE350 := n6_
       have NB311_350 := n7_
       have NB350_311 := n8_
       have NB312_350 := n9_
       have NB350_312 := n10_
       have NB332_350 := n11_
       have NB350_332 := n12_
       clear n0_ n1_ n2_ n3_ n4_ n5_ n6_ n7_ n8_ n9_ n10_ n11_ n12_
       clear hb hbox hg
       refine hK.out _ _ ⟨(blk_cell BK311.out 0).trans rfl, (blk_cell BK311.out 1).trans rfl, (blk_cell BK311.out 2).trans rfl, (blk_cell BK311.out 3).trans rfl, (blk_cell BK311.out 4).trans rfl, (blk_cell BK311.out 5).trans rfl, (blk_cell BK312.out 0).trans rfl, (blk_cell BK312.out 1).trans rfl, (blk_cell BK312.out 2).trans rfl, (blk_cell BK312.out 3).trans rfl⟩ (fun hHeld => ?_)
       clear hK K
       refine norm_ (a' := ?_) ?_ ?_
       rotate_left
       ·show Act.put _ (some 8) _ = _
        simp only [Act.put, List.setIfInBounds_toArray, List.set_cons_zero, List.set_cons_succ, i64_w, i32_w]
        rfl
       refine one_ (i := 1) (N := some 30) #[true, true, true, false, false, false, false, false, true, false, false] rfl rfl (one_of HT_.out (by kernel_rfl)) (by decide) (fun K hK => ?_)
       refine goes_ Tryd.func17 (by kernel_rfl) rfl #[.agg #[.int .i64 a0_0, .string a0_1, .int .i64 a0_2, .string a0_3, .int .i64 a0_4, .int .i64 a0_5]] (by rfl) rfl rfl z1_ ?_
       with_reducible refine (laws_toKnown.calls a0_0 a0_1 a0_2 a0_3 a0_4 a0_5 t333 t334 t335 t336 t337 t338 _ A22.out).mono ?_
       rintro e w50 ⟨rfl, hb⟩
       refine ⟨_, rfl, ?_⟩
       have n0_ := Aside0.mk (blk_below (g := gb311) (o := .cells #[.int .i64 a0_0, .string a0_1, .int .i64 a0_2, .string a0_3, .int .i64 a0_4, .int .i64 a0_5] 29 (0, 0)) z6_ hb)
       have n1_ := Aside0.mk (blk_below (g := gb312) (o := .cells #[.int .i64 a1_0, .int .i64 a1_1, .int .i64 a1_2, .string a1_3] 31 (0, 0)) z7_ hb)
       have n2_ := Aside0.mk (blk_below (g := gb332) (o := .cells #[.int .i64 t325, .string t326, .int .i64 t327, .string t328, .int .i64 t329, .int .i64 t330] 34 (0, 0)) z14_ hb)
       have n3_ := Aside0.mk (blk_below (g := gb350) (o := .cells #[.int .i64 0, .string (⟨#[]⟩ : ByteArray), .int .i64 0, .string (⟨#[]⟩ : ByteArray), .int .i64 0, .int .i64 0] 34 (0, 0)) z30_ hb)
       have n4_ := Aside0.mk (below_step z16_ hb)
       clear BK311
       clear BK312
       clear BK332
       clear BK350
       clear HB
       have BK311 := n0_
       have BK312 := n1_
       have BK332 := n2_
       have BK350 := n3_
       have HB := n4_
       clear n0_ n1_ n2_ n3_ n4_
       (try clear hb)
       (try clear hb2)
       (try clear hk)
       (try clear hi)
       refine hK.out _ _ ⟨(blk_cell BK311.out 0).trans rfl, (blk_cell BK311.out 1).trans rfl, (blk_cell BK311.out 2).trans rfl, (blk_cell BK311.out 3).trans rfl, (blk_cell BK311.out 4).trans rfl, (blk_cell BK311.out 5).trans rfl, (blk_cell BK312.out 0).trans rfl, (blk_cell BK312.out 1).trans rfl, (blk_cell BK312.out 2).trans rfl, (blk_cell BK312.out 3).trans rfl⟩ (fun hHeld => ?_)
       clear hK K
       refine norm_ (a' := ?_) ?_ ?_
       rotate_left
       ·show Act.put _ (some 30) _ = _
        simp only [Act.put, List.setIfInBounds_toArray, List.set_cons_zero, List.set_cons_succ, i64_w, i32_w]
        rfl
       refine one_ (i := 3) (N := some 32) #[true, true, true, true, false, false, false, false, true, false, false] rfl rfl (one_of HT_.out (by kernel_rfl)) (by decide) (fun K hK => ?_)
       refine goes_ Tryd.func18 (by kernel_rfl) rfl #[.agg #[.int .i64 a1_0, .int .i64 a1_1, .int .i64 a1_2, .string a1_3]] (by rfl) rfl rfl z1_ ?_
       with_reducible refine (laws_toRec.calls a1_0 a1_1 a1_2 a1_3 t339 t340 t341 t342 _ A23.out).mono ?_
       rintro e w51 ⟨rfl, hb⟩
       refine ⟨_, rfl, ?_⟩
       have n0_ := Aside0.mk (blk_below (g := gb311) (o := .cells #[.int .i64 a0_0, .string a0_1, .int .i64 a0_2, .string a0_3, .int .i64 a0_4, .int .i64 a0_5] 29 (0, 0)) z6_ hb)
       have n1_ := Aside0.mk (blk_below (g := gb312) (o := .cells #[.int .i64 a1_0, .int .i64 a1_1, .int .i64 a1_2, .string a1_3] 31 (0, 0)) z7_ hb)
       have n2_ := Aside0.mk (blk_below (g := gb332) (o := .cells #[.int .i64 t325, .string t326, .int .i64 t327, .string t328, .int .i64 t329, .int .i64 t330] 34 (0, 0)) z14_ hb)
       have n3_ := Aside0.mk (blk_below (g := gb350) (o := .cells #[.int .i64 0, .string (⟨#[]⟩ : ByteArray), .int .i64 0, .string (⟨#[]⟩ : ByteArray), .int .i64 0, .int .i64 0] 34 (0, 0)) z30_ hb)
       have n4_ := Aside0.mk (below_step z16_ hb)
       clear BK311
       clear BK312
       clear BK332
       clear BK350
       clear HB
       have BK311 := n0_
       have BK312 := n1_
       have BK332 := n2_
       have BK350 := n3_
       have HB := n4_
       clear n0_ n1_ n2_ n3_ n4_
       (try clear hb)
       (try clear hb2)
       (try clear hk)
       (try clear hi)
       refine hK.out _ _ ⟨(blk_cell BK311.out 0).trans rfl, (blk_cell BK311.out 1).trans rfl, (blk_cell BK311.out 2).trans rfl, (blk_cell BK311.out 3).trans rfl, (blk_cell BK311.out 4).trans rfl, (blk_cell BK311.out 5).trans rfl, (blk_cell BK312.out 0).trans rfl, (blk_cell BK312.out 1).trans rfl, (blk_cell BK312.out 2).trans rfl, (blk_cell BK312.out 3).trans rfl⟩ (fun hHeld => ?_)
       clear hK K
       refine norm_ (a' := ?_) ?_ ?_
       rotate_left
       ·show Act.put _ (some 32) _ = _
        simp only [Act.put, List.setIfInBounds_toArray, List.set_cons_zero, List.set_cons_succ, i64_w, i32_w]
        rfl
       refine one_ (i := 4) (N := some 33) #[true, true, true, true, true, false, false, false, true, false, false] rfl rfl (one_of HT_.out (by kernel_rfl)) (by decide) (fun K hK => ?_)
       refine goes_ Tryd.func19 (by kernel_rfl) rfl #[.agg #[.int .i64 t333, .string t334, .int .i64 t335, .string t336, .int .i64 t337, .int .i64 t338], .agg #[.int .i64 t339, .int .i64 t340, .int .i64 t341, .string t342]] (by rfl) rfl rfl z1_ ?_
       with_reducible refine (impl_Apply.calls k t333 t334 t335 t336 t337 t338 t339 t340 t341 t342 t343 t344 t345 t346 t347 t348 t349 _ ?side1 A24.out).mono ?_
       (case side1 => exact GW.below HGW.out z16_)
       rintro e w52 ⟨rfl, hb⟩
       refine ⟨_, rfl, ?_⟩
       have n0_ := Aside0.mk (blk_below (g := gb311) (o := .cells #[.int .i64 a0_0, .string a0_1, .int .i64 a0_2, .string a0_3, .int .i64 a0_4, .int .i64 a0_5] 29 (0, 0)) z6_ hb)
       have n1_ := Aside0.mk (blk_below (g := gb312) (o := .cells #[.int .i64 a1_0, .int .i64 a1_1, .int .i64 a1_2, .string a1_3] 31 (0, 0)) z7_ hb)
       have n2_ := Aside0.mk (blk_below (g := gb332) (o := .cells #[.int .i64 t325, .string t326, .int .i64 t327, .string t328, .int .i64 t329, .int .i64 t330] 34 (0, 0)) z14_ hb)
       have n3_ := Aside0.mk (blk_below (g := gb350) (o := .cells #[.int .i64 0, .string (⟨#[]⟩ : ByteArray), .int .i64 0, .string (⟨#[]⟩ : ByteArray), .int .i64 0, .int .i64 0] 34 (0, 0)) z30_ hb)
       have n4_ := Aside0.mk (below_step z16_ hb)
       clear BK311
       clear BK312
       clear BK332
       clear BK350
       clear HB
       have BK311 := n0_
       have BK312 := n1_
       have BK332 := n2_
       have BK350 := n3_
       have HB := n4_
       clear n0_ n1_ n2_ n3_ n4_
       (try clear hb)
       (try clear hb2)
       (try clear hk)
       (try clear hi)
       refine hK.out _ _ ⟨(blk_cell BK311.out 0).trans rfl, (blk_cell BK311.out 1).trans rfl, (blk_cell BK311.out 2).trans rfl, (blk_cell BK311.out 3).trans rfl, (blk_cell BK311.out 4).trans rfl, (blk_cell BK311.out 5).trans rfl, (blk_cell BK312.out 0).trans rfl, (blk_cell BK312.out 1).trans rfl, (blk_cell BK312.out 2).trans rfl, (blk_cell BK312.out 3).trans rfl⟩ (fun hHeld => ?_)
       clear hK K
       refine norm_ (a' := ?_) ?_ ?_
       rotate_left
       ·show Act.put _ (some 33) _ = _
        simp only [Act.put, List.setIfInBounds_toArray, List.set_cons_zero, List.set_cons_succ, i64_w, i32_w]
        rfl
       refine pure_ (i := 5) (N := some 28) (v := ?_) (a' := ?_) #[true, true, true, true, true, true, false, false, true, false, false] rfl rfl (any_of HT_.out (by kernel_rfl)) (fun _ _ _ h => h) (Or.inl ⟨by rfl, ?_⟩) ?_ ?_
       rotate_left
       ·intro w'
        go_simp
        with_reducible rfl
       rotate_left
       ·simp only [Act.put, List.setIfInBounds_toArray, List.set_cons_zero, List.set_cons_succ, i64_w, i32_w]
        rfl
       refine pure_ (i := 6) (N := some 34) (v := ?_) (a' := ?_) #[true, true, true, true, true, true, true, false, true, false, false] rfl rfl (any_of HT_.out (by kernel_rfl)) (fun _ _ _ h => h) (Or.inl ⟨by rfl, ?_⟩) ?_ ?_
       rotate_left
       ·intro w'
        go_simp
        with_reducible rfl
       rotate_left
       ·simp only [Act.put, List.setIfInBounds_toArray, List.set_cons_zero, List.set_cons_succ, i64_w, i32_w]
        rfl
       refine pure_ (i := 7) (N := some 35) (v := ?_) (a' := ?_) #[true, true, true, true, true, true, true, true, true, false, false] rfl rfl (any_of HT_.out (by kernel_rfl)) (fun _ _ _ h => h) (Or.inl ⟨by rfl, ?_⟩) ?_ ?_
       rotate_left
       ·intro w'
        go_simp
        with_reducible rfl
       rotate_left
       ·simp only [Act.put, List.setIfInBounds_toArray, List.set_cons_zero, List.set_cons_succ, i64_w, i32_w]
        rfl
       exact norm_ z34_ (hCont (gb350) _ ⟨hHeld, z6_, z7_, z14_, z30_, GW350.out, GE350.out, NB311_350.out, NB350_311.out, NB312_350.out, NB350_312.out, NB332_350.out, NB350_332.out, z16_⟩)
     rintro gb350 w53 ⟨hS_, h0_, h1_, h2_, h3_, h4_, h5_, h6_, h7_, h8_, h9_, h10_, h11_, h12_⟩
     have n0_ : Aside0 (w53.heap[gb311]? = some (.cells #[.int .i64 a0_0, .string a0_1, .int .i64 a0_2, .string a0_3, .int .i64 a0_4, .int .i64 a0_5] 29 (0, 0))) := ⟨h0_⟩
     have n1_ : Aside0 (w53.heap[gb312]? = some (.cells #[.int .i64 a1_0, .int .i64 a1_1, .int .i64 a1_2, .string a1_3] 31 (0, 0))) := ⟨h1_⟩
     have n2_ : Aside0 (w53.heap[gb332]? = some (.cells #[.int .i64 t325, .string t326, .int .i64 t327, .string t328, .int .i64 t329, .int .i64 t330] 34 (0, 0))) := ⟨h2_⟩
     have n3_ : Aside0 (w53.heap[gb350]? = some (.cells #[.int .i64 0, .string (⟨#[]⟩ : ByteArray), .int .i64 0, .string (⟨#[]⟩ : ByteArray), .int .i64 0, .int .i64 0] 34 (0, 0))) := ⟨h3_⟩
     have n4_ : Aside0 (w.heap.size ≤ gb350) := ⟨h4_⟩
     have n5_ : Aside0 (w.heap.size ≤ gb350) := ⟨h5_⟩
     have n6_ : Aside0 (gb311 ≠ gb350) := ⟨h6_⟩
     have n7_ : Aside0 (gb350 ≠ gb311) := ⟨h7_⟩
     have n8_ : Aside0 (gb312 ≠ gb350) := ⟨h8_⟩
     have n9_ : Aside0 (gb350 ≠ gb312) := ⟨h9_⟩
     have n10_ : Aside0 (gb332 ≠ gb350) := ⟨h10_⟩
     have n11_ : Aside0 (gb350 ≠ gb332) := ⟨h11_⟩
     have n12_ : Aside0 (Below w.heap.size w w53) := ⟨h12_⟩
     clear BK311
     clear BK312
     clear BK332
     clear HB
     clear h0_ h1_ h2_ h3_ h4_ h5_ h6_ h7_ h8_ h9_ h10_ h11_ h12_
     have BK311 := n0_
     have BK312 := n1_
     have BK332 := n2_
     have BK350 := n3_
     have GW350 := n4_
     have GE350 := n5_
     have NB311_350 := n6_
     have NB350_311 := n7_
     have NB312_350 := n8_
     have NB350_312 := n9_
     have NB332_350 := n10_
     have NB350_332 := n11_
     have HB := n12_
     clear n0_ n1_ n2_ n3_ n4_ n5_ n6_ n7_ n8_ n9_ n10_ n11_ n12_
     have hHeld : w53.cell? ⟨gb311, 0, none⟩ = some (.int .i64 a0_0) ∧ w53.cell? ⟨gb311, 1, none⟩ = some (.string a0_1) ∧ w53.cell? ⟨gb311, 2, none⟩ = some (.int .i64 a0_2) ∧ w53.cell? ⟨gb311, 3, none⟩ = some (.string a0_3) ∧ w53.cell? ⟨gb311, 4, none⟩ = some (.int .i64 a0_4) ∧ w53.cell? ⟨gb311, 5, none⟩ = some (.int .i64 a0_5) ∧ w53.cell? ⟨gb312, 0, none⟩ = some (.int .i64 a1_0) ∧ w53.cell? ⟨gb312, 1, none⟩ = some (.int .i64 a1_1) ∧ w53.cell? ⟨gb312, 2, none⟩ = some (.int .i64 a1_2) ∧ w53.cell? ⟨gb312, 3, none⟩ = some (.string a1_3) := hS_
     refine norm_ (a' := ?_) ?_ ?_
     rotate_left
     ·simp only [putAll, Act.put, List.setIfInBounds_toArray, List.set_cons_zero, List.set_cons_succ]
      rfl
     refine one_ (i := 9) (N := none) #[true, true, true, true, true, true, true, true, true, true, false] rfl rfl (one_of HT_.out (by kernel_rfl)) (by decide) (fun K hK => ?_)
     have hs54 : w53.cell? ⟨gb350, 0, none⟩ = some (.int .i64 0) := (blk_cell BK350.out 0).trans rfl
     have hfs54 := blk_frozen BK350.out 0
     have hns54_0 := NB311_350.out
     have hns54_1 := NB312_350.out
     have hns54_2 := NB332_350.out
     have hms54_0 := NB350_311.out
     have hms54_1 := NB350_312.out
     have hms54_2 := NB350_332.out
     have hs55 : w53.cell? ⟨gb350, 1, none⟩ = some (.string (⟨#[]⟩ : ByteArray)) := (blk_cell BK350.out 1).trans rfl
     have hfs55 := blk_frozen BK350.out 1
     have hns55_0 := NB311_350.out
     have hns55_1 := NB312_350.out
     have hns55_2 := NB332_350.out
     have hms55_0 := NB350_311.out
     have hms55_1 := NB350_312.out
     have hms55_2 := NB350_332.out
     have hs56 : w53.cell? ⟨gb350, 2, none⟩ = some (.int .i64 0) := (blk_cell BK350.out 2).trans rfl
     have hfs56 := blk_frozen BK350.out 2
     have hns56_0 := NB311_350.out
     have hns56_1 := NB312_350.out
     have hns56_2 := NB332_350.out
     have hms56_0 := NB350_311.out
     have hms56_1 := NB350_312.out
     have hms56_2 := NB350_332.out
     have hs57 : w53.cell? ⟨gb350, 3, none⟩ = some (.string (⟨#[]⟩ : ByteArray)) := (blk_cell BK350.out 3).trans rfl
     have hfs57 := blk_frozen BK350.out 3
     have hns57_0 := NB311_350.out
     have hns57_1 := NB312_350.out
     have hns57_2 := NB332_350.out
     have hms57_0 := NB350_311.out
     have hms57_1 := NB350_312.out
     have hms57_2 := NB350_332.out
     have hs58 : w53.cell? ⟨gb350, 4, none⟩ = some (.int .i64 0) := (blk_cell BK350.out 4).trans rfl
     have hfs58 := blk_frozen BK350.out 4
     have hns58_0 := NB311_350.out
     have hns58_1 := NB312_350.out
     have hns58_2 := NB332_350.out
     have hms58_0 := NB350_311.out
     have hms58_1 := NB350_312.out
     have hms58_2 := NB350_332.out
     have hs59 : w53.cell? ⟨gb350, 5, none⟩ = some (.int .i64 0) := (blk_cell BK350.out 5).trans rfl
     have hfs59 := blk_frozen BK350.out 5
     have hns59_0 := NB311_350.out
     have hns59_1 := NB312_350.out
     have hns59_2 := NB332_350.out
     have hms59_0 := NB350_311.out
     have hms59_1 := NB350_312.out
     have hms59_2 := NB350_332.out
     refine skip_ (w1 := ?_) (by rfl) rfl ?_ ?_
     rotate_left
     ·go_simp
      rfl
     refine hK.out _ _ ⟨((cell_far (p := ⟨gb350, _, none⟩) NB311_350.out _).trans (((cell_far (p := ⟨gb350, _, none⟩) NB311_350.out _).trans (((cell_far (p := ⟨gb350, _, none⟩) NB311_350.out _).trans (((cell_far (p := ⟨gb350, _, none⟩) NB311_350.out _).trans (((cell_far (p := ⟨gb350, _, none⟩) NB311_350.out _).trans (((cell_far (p := ⟨gb350, _, none⟩) NB311_350.out _).trans (hHeld.1)))))))))))), ((cell_far (p := ⟨gb350, _, none⟩) NB311_350.out _).trans (((cell_far (p := ⟨gb350, _, none⟩) NB311_350.out _).trans (((cell_far (p := ⟨gb350, _, none⟩) NB311_350.out _).trans (((cell_far (p := ⟨gb350, _, none⟩) NB311_350.out _).trans (((cell_far (p := ⟨gb350, _, none⟩) NB311_350.out _).trans (((cell_far (p := ⟨gb350, _, none⟩) NB311_350.out _).trans (hHeld.2.1)))))))))))), ((cell_far (p := ⟨gb350, _, none⟩) NB311_350.out _).trans (((cell_far (p := ⟨gb350, _, none⟩) NB311_350.out _).trans (((cell_far (p := ⟨gb350, _, none⟩) NB311_350.out _).trans (((cell_far (p := ⟨gb350, _, none⟩) NB311_350.out _).trans (((cell_far (p := ⟨gb350, _, none⟩) NB311_350.out _).trans (((cell_far (p := ⟨gb350, _, none⟩) NB311_350.out _).trans (hHeld.2.2.1)))))))))))), ((cell_far (p := ⟨gb350, _, none⟩) NB311_350.out _).trans (((cell_far (p := ⟨gb350, _, none⟩) NB311_350.out _).trans (((cell_far (p := ⟨gb350, _, none⟩) NB311_350.out _).trans (((cell_far (p := ⟨gb350, _, none⟩) NB311_350.out _).trans (((cell_far (p := ⟨gb350, _, none⟩) NB311_350.out _).trans (((cell_far (p := ⟨gb350, _, none⟩) NB311_350.out _).trans (hHeld.2.2.2.1)))))))))))), ((cell_far (p := ⟨gb350, _, none⟩) NB311_350.out _).trans (((cell_far (p := ⟨gb350, _, none⟩) NB311_350.out _).trans (((cell_far (p := ⟨gb350, _, none⟩) NB311_350.out _).trans (((cell_far (p := ⟨gb350, _, none⟩) NB311_350.out _).trans (((cell_far (p := ⟨gb350, _, none⟩) NB311_350.out _).trans (((cell_far (p := ⟨gb350, _, none⟩) NB311_350.out _).trans (hHeld.2.2.2.2.1)))))))))))), ((cell_far (p := ⟨gb350, _, none⟩) NB311_350.out _).trans (((cell_far (p := ⟨gb350, _, none⟩) NB311_350.out _).trans (((cell_far (p := ⟨gb350, _, none⟩) NB311_350.out _).trans (((cell_far (p := ⟨gb350, _, none⟩) NB311_350.out _).trans (((cell_far (p := ⟨gb350, _, none⟩) NB311_350.out _).trans (((cell_far (p := ⟨gb350, _, none⟩) NB311_350.out _).trans (hHeld.2.2.2.2.2.1)))))))))))), ((cell_far (p := ⟨gb350, _, none⟩) NB312_350.out _).trans (((cell_far (p := ⟨gb350, _, none⟩) NB312_350.out _).trans (((cell_far (p := ⟨gb350, _, none⟩) NB312_350.out _).trans (((cell_far (p := ⟨gb350, _, none⟩) NB312_350.out _).trans (((cell_far (p := ⟨gb350, _, none⟩) NB312_350.out _).trans (((cell_far (p := ⟨gb350, _, none⟩) NB312_350.out _).trans (hHeld.2.2.2.2.2.2.1)))))))))))), ((cell_far (p := ⟨gb350, _, none⟩) NB312_350.out _).trans (((cell_far (p := ⟨gb350, _, none⟩) NB312_350.out _).trans (((cell_far (p := ⟨gb350, _, none⟩) NB312_350.out _).trans (((cell_far (p := ⟨gb350, _, none⟩) NB312_350.out _).trans (((cell_far (p := ⟨gb350, _, none⟩) NB312_350.out _).trans (((cell_far (p := ⟨gb350, _, none⟩) NB312_350.out _).trans (hHeld.2.2.2.2.2.2.2.1)))))))))))), ((cell_far (p := ⟨gb350, _, none⟩) NB312_350.out _).trans (((cell_far (p := ⟨gb350, _, none⟩) NB312_350.out _).trans (((cell_far (p := ⟨gb350, _, none⟩) NB312_350.out _).trans (((cell_far (p := ⟨gb350, _, none⟩) NB312_350.out _).trans (((cell_far (p := ⟨gb350, _, none⟩) NB312_350.out _).trans (((cell_far (p := ⟨gb350, _, none⟩) NB312_350.out _).trans (hHeld.2.2.2.2.2.2.2.2.1)))))))))))), ((cell_far (p := ⟨gb350, _, none⟩) NB312_350.out _).trans (((cell_far (p := ⟨gb350, _, none⟩) NB312_350.out _).trans (((cell_far (p := ⟨gb350, _, none⟩) NB312_350.out _).trans (((cell_far (p := ⟨gb350, _, none⟩) NB312_350.out _).trans (((cell_far (p := ⟨gb350, _, none⟩) NB312_350.out _).trans (((cell_far (p := ⟨gb350, _, none⟩) NB312_350.out _).trans (hHeld.2.2.2.2.2.2.2.2.2))))))))))))⟩ (fun hHeld => ?_)
     clear hK K
     refine pure_ (i := 10) (N := some 9) (v := ?_) (a' := ?_) #[true, true, true, true, true, true, true, true, true, true, true] rfl rfl (any_of HT_.out (by kernel_rfl)) (fun _ _ _ h => h) (Or.inl ⟨by rfl, ?_⟩) ?_ ?_
     rotate_left
     ·intro w'
      go_simp
      with_reducible rfl
     rotate_left
     ·simp only [Act.put, List.setIfInBounds_toArray, List.set_cons_zero, List.set_cons_succ, i64_w, i32_w]
      rfl
     refine done_ (done_of HT_.out (by kernel_rfl)) ?_
     have hnb60 := NB350_311.out
     have hnc60 := NB311_350.out
     have hnb61 := NB350_312.out
     have hnc61 := NB312_350.out
     have hnb62 := NB350_332.out
     have hnc62 := NB332_350.out
     have hcz63_0 : w53.cell? ⟨gb350, 0, none⟩ = some (.int .i64 0) := (blk_cell BK350.out 0).trans rfl
     have hcz63_1 : w53.cell? ⟨gb350, 1, none⟩ = some (.string (⟨#[]⟩ : ByteArray)) := (blk_cell BK350.out 1).trans rfl
     have hcz63_2 : w53.cell? ⟨gb350, 2, none⟩ = some (.int .i64 0) := (blk_cell BK350.out 2).trans rfl
     have hcz63_3 : w53.cell? ⟨gb350, 3, none⟩ = some (.string (⟨#[]⟩ : ByteArray)) := (blk_cell BK350.out 3).trans rfl
     have hcz63_4 : w53.cell? ⟨gb350, 4, none⟩ = some (.int .i64 0) := (blk_cell BK350.out 4).trans rfl
     have hcz63_5 : w53.cell? ⟨gb350, 5, none⟩ = some (.int .i64 0) := (blk_cell BK350.out 5).trans rfl
     have hfz63_0 := blk_frozen BK350.out 0
     have hfz63_1 := blk_frozen BK350.out 1
     have hfz63_2 := blk_frozen BK350.out 2
     have hfz63_3 := blk_frozen BK350.out 3
     have hfz63_4 := blk_frozen BK350.out 4
     have hfz63_5 := blk_frozen BK350.out 5
     have hnb64 := NB332_311.out
     have hnc64 := NB311_332.out
     have hnb65 := NB332_312.out
     have hnc65 := NB312_332.out
     have hcz66_0 : w53.cell? ⟨gb332, 0, none⟩ = some (.int .i64 t325) := (blk_cell BK332.out 0).trans rfl
     have hcz66_1 : w53.cell? ⟨gb332, 1, none⟩ = some (.string t326) := (blk_cell BK332.out 1).trans rfl
     have hcz66_2 : w53.cell? ⟨gb332, 2, none⟩ = some (.int .i64 t327) := (blk_cell BK332.out 2).trans rfl
     have hcz66_3 : w53.cell? ⟨gb332, 3, none⟩ = some (.string t328) := (blk_cell BK332.out 3).trans rfl
     have hcz66_4 : w53.cell? ⟨gb332, 4, none⟩ = some (.int .i64 t329) := (blk_cell BK332.out 4).trans rfl
     have hcz66_5 : w53.cell? ⟨gb332, 5, none⟩ = some (.int .i64 t330) := (blk_cell BK332.out 5).trans rfl
     have hfz66_0 := blk_frozen BK332.out 0
     have hfz66_1 := blk_frozen BK332.out 1
     have hfz66_2 := blk_frozen BK332.out 2
     have hfz66_3 := blk_frozen BK332.out 3
     have hfz66_4 := blk_frozen BK332.out 4
     have hfz66_5 := blk_frozen BK332.out 5
     try go_wp2_with (first | ((with_reducible refine gate_callee (f := 20) rfl ?_); refine goesL_ (some 38) rfl rfl Tryd.func20 (by kernel_rfl) rfl #[.agg #[.int .i64 t343, .string t344, .int .i64 t345, .string t346, .int .i64 t347, .int .i64 t348], .agg #[.int .i64 t325, .string t326, .int .i64 t327, .string t328, .int .i64 t329, .int .i64 t330]] rfl z1_ ?_; (with_reducible refine (laws_eqKnown.calls t343 t344 t345 t346 t347 t348 t325 t326 t327 t328 t329 t330 true _ A25.out).mono ?_); rintro e w67 ⟨rfl, hb⟩; refine ⟨_, rfl, ?_⟩; have n0_ := Aside0.mk (blk_below (g := gb311) (o := .cells #[.int .i64 a0_0, .string a0_1, .int .i64 a0_2, .string a0_3, .int .i64 a0_4, .int .i64 a0_5] 29 (0, 0)) (by (with_reducible repeat (first | refine blk_drewN ?_ _ | refine blk_drew ?_ | refine blk_alloc ?_ _)); refine blk_far ?_ NB311_350.out _; (with_reducible repeat (first | refine blk_drewN ?_ _ | refine blk_drew ?_ | refine blk_alloc ?_ _)); refine blk_far ?_ NB311_350.out _; (with_reducible repeat (first | refine blk_drewN ?_ _ | refine blk_drew ?_ | refine blk_alloc ?_ _)); refine blk_far ?_ NB311_350.out _; (with_reducible repeat (first | refine blk_drewN ?_ _ | refine blk_drew ?_ | refine blk_alloc ?_ _)); refine blk_far ?_ NB311_350.out _; (with_reducible repeat (first | refine blk_drewN ?_ _ | refine blk_drew ?_ | refine blk_alloc ?_ _)); refine blk_far ?_ NB311_350.out _; (with_reducible repeat (first | refine blk_drewN ?_ _ | refine blk_drew ?_ | refine blk_alloc ?_ _)); refine blk_far ?_ NB311_350.out _; (with_reducible repeat (first | refine blk_drewN ?_ _ | refine blk_drew ?_ | refine blk_alloc ?_ _)); exact BK311.out) hb); have n1_ := Aside0.mk (blk_below (g := gb312) (o := .cells #[.int .i64 a1_0, .int .i64 a1_1, .int .i64 a1_2, .string a1_3] 31 (0, 0)) (by (with_reducible repeat (first | refine blk_drewN ?_ _ | refine blk_drew ?_ | refine blk_alloc ?_ _)); refine blk_far ?_ NB312_350.out _; (with_reducible repeat (first | refine blk_drewN ?_ _ | refine blk_drew ?_ | refine blk_alloc ?_ _)); refine blk_far ?_ NB312_350.out _; (with_reducible repeat (first | refine blk_drewN ?_ _ | refine blk_drew ?_ | refine blk_alloc ?_ _)); refine blk_far ?_ NB312_350.out _; (with_reducible repeat (first | refine blk_drewN ?_ _ | refine blk_drew ?_ | refine blk_alloc ?_ _)); refine blk_far ?_ NB312_350.out _; (with_reducible repeat (first | refine blk_drewN ?_ _ | refine blk_drew ?_ | refine blk_alloc ?_ _)); refine blk_far ?_ NB312_350.out _; (with_reducible repeat (first | refine blk_drewN ?_ _ | refine blk_drew ?_ | refine blk_alloc ?_ _)); refine blk_far ?_ NB312_350.out _; (with_reducible repeat (first | refine blk_drewN ?_ _ | refine blk_drew ?_ | refine blk_alloc ?_ _)); exact BK312.out) hb); have n2_ := Aside0.mk (blk_below (g := gb332) (o := .cells #[.int .i64 t325, .string t326, .int .i64 t327, .string t328, .int .i64 t329, .int .i64 t330] 34 (0, 0)) (by (with_reducible repeat (first | refine blk_drewN ?_ _ | refine blk_drew ?_ | refine blk_alloc ?_ _)); refine blk_far ?_ NB332_350.out _; (with_reducible repeat (first | refine blk_drewN ?_ _ | refine blk_drew ?_ | refine blk_alloc ?_ _)); refine blk_far ?_ NB332_350.out _; (with_reducible repeat (first | refine blk_drewN ?_ _ | refine blk_drew ?_ | refine blk_alloc ?_ _)); refine blk_far ?_ NB332_350.out _; (with_reducible repeat (first | refine blk_drewN ?_ _ | refine blk_drew ?_ | refine blk_alloc ?_ _)); refine blk_far ?_ NB332_350.out _; (with_reducible repeat (first | refine blk_drewN ?_ _ | refine blk_drew ?_ | refine blk_alloc ?_ _)); refine blk_far ?_ NB332_350.out _; (with_reducible repeat (first | refine blk_drewN ?_ _ | refine blk_drew ?_ | refine blk_alloc ?_ _)); refine blk_far ?_ NB332_350.out _; (with_reducible repeat (first | refine blk_drewN ?_ _ | refine blk_drew ?_ | refine blk_alloc ?_ _)); exact BK332.out) hb); have n3_ := Aside0.mk (blk_below (g := gb350) (o := .cells #[.int .i64 t343, .string t344, .int .i64 t345, .string t346, .int .i64 t347, .int .i64 t348] 34 (0, 0)) (by (with_reducible repeat (first | refine blk_drewN ?_ _ | refine blk_drew ?_ | refine blk_alloc ?_ _)); refine blk_put (cs := #[.int .i64 t343, .string t344, .int .i64 t345, .string t346, .int .i64 t347, .int .i64 0]) ?_ 5 _ rfl; (with_reducible repeat (first | refine blk_drewN ?_ _ | refine blk_drew ?_ | refine blk_alloc ?_ _)); refine blk_put (cs := #[.int .i64 t343, .string t344, .int .i64 t345, .string t346, .int .i64 0, .int .i64 0]) ?_ 4 _ rfl; (with_reducible repeat (first | refine blk_drewN ?_ _ | refine blk_drew ?_ | refine blk_alloc ?_ _)); refine blk_put (cs := #[.int .i64 t343, .string t344, .int .i64 t345, .string (⟨#[]⟩ : ByteArray), .int .i64 0, .int .i64 0]) ?_ 3 _ rfl; (with_reducible repeat (first | refine blk_drewN ?_ _ | refine blk_drew ?_ | refine blk_alloc ?_ _)); refine blk_put (cs := #[.int .i64 t343, .string t344, .int .i64 0, .string (⟨#[]⟩ : ByteArray), .int .i64 0, .int .i64 0]) ?_ 2 _ rfl; (with_reducible repeat (first | refine blk_drewN ?_ _ | refine blk_drew ?_ | refine blk_alloc ?_ _)); refine blk_put (cs := #[.int .i64 t343, .string (⟨#[]⟩ : ByteArray), .int .i64 0, .string (⟨#[]⟩ : ByteArray), .int .i64 0, .int .i64 0]) ?_ 1 _ rfl; (with_reducible repeat (first | refine blk_drewN ?_ _ | refine blk_drew ?_ | refine blk_alloc ?_ _)); refine blk_put (cs := #[.int .i64 0, .string (⟨#[]⟩ : ByteArray), .int .i64 0, .string (⟨#[]⟩ : ByteArray), .int .i64 0, .int .i64 0]) ?_ 0 _ rfl; (with_reducible repeat (first | refine blk_drewN ?_ _ | refine blk_drew ?_ | refine blk_alloc ?_ _)); exact BK350.out) hb); have n4_ := Aside0.mk (below_step z16_ hb); clear BK311; clear BK312; clear BK332; clear BK350; clear HB; have BK311 := n0_; have BK312 := n1_; have BK332 := n2_; have BK350 := n3_; have HB := n4_; clear n0_ n1_ n2_ n3_ n4_; (try clear hb); (try clear hb2); (try clear hk); (try clear hi)))
     go_ret
     exact ⟨by first | rfl | (simp [errW_none, errW_some] <;> rfl) | (simp [*, errW_none, errW_some] <;> rfl), by repeat (first | (with_reducible first | exact HB.out | apply below_alloc | apply pw_below_drewN | apply below_drew1 | refine below_set ?_ GE311.out | refine below_set ?_ GE312.out | refine below_set ?_ GE332.out | refine below_set ?_ GE350.out) | exact HB.out)⟩
   ·replace c26 := Bool.eq_false_iff.mpr c26
    subst c26
    have H1 : (some false) = some r := by rw [if_neg (show ¬ (false = true) by decide)] at H; exact H
    clear H
    have H := H1
    clear H1
    exact absurd ((Option.some.inj H).trans hr_.out) (by decide)

end Go.Proofs.YthkepmicdpgbbaaDoor.P

/- How an argument that reads as data is opened, whatever its type (numbers, bools, texts, slices and structs of these): it is a value of the print's kind. No function of the program is in sight here. -/
namespace Go.Proofs.YthkepmicdpgbbaaDoor.Open
set_option linter.unusedVariables false
set_option linter.unusedSimpArgs false
open Go.RowKit Go.Proofs.YthkepmicdpgbbaaDoorW.PrintWords Go.ChangeShapes Go.WideShapes Go.Deep

/-- What reads as data of type t is a value of the kind d, of which 'good' holds. -/
def Opens {α : Type} (P : Program) (t : TypeId) (d : Kd α) (good : α → Prop) : Prop :=
  ∀ {H : Type} (enc : TypeId × Value → H) (w : World) (base : Nat) (spare : Nat → Bool) (held : Bool) (fuel : Nat) (cs : List Value) (x : DataW H × List MemPlace), DataW.trod enc P w base spare held fuel t cs = some x → ∃ y, d.K w y cs ∧ good y
def FieldsOpen {α : Type} (P : Program) (off : Nat) (fs : List Field) (d : Kd α) (good : α → Prop) : Prop :=
  ∀ {H : Type} (enc : TypeId × Value → H) (w : World) (base : Nat) (spare : Nat → Bool) (held : Bool) (n : Nat) (cs : List Value), (∀ f ∈ fs, ∃ y, DataW.trod enc P w base spare held n f.type ((cs.drop f.offset).take (P.cellsOf f.type)) = some y) → cs.length = off + d.sz → ∃ y, d.K w y (cs.drop off) ∧ good y
section
variable {P : Program} {t e : TypeId} {α β : Type}
theorem Opens.int {k : IntKind} (ht : P.underlying t = some (.int k)) : Opens P t (Kd.int k) (fun n => (Lit.int k n).wf = true) := by
  intro H enc w base spare held fuel cs x h
  obtain ⟨n, rfl, rfl, hw⟩ := DataW.trod_int ht h
  exact ⟨n, rfl, hw⟩
theorem Opens.string (ht : P.underlying t = some .string) : Opens P t Kd.string (fun s => s.size ≤ maxLen) := by
  intro H enc w base spare held fuel cs x h
  obtain ⟨s, rfl, rfl, hw⟩ := DataW.trod_string ht h
  exact ⟨s, rfl, hw⟩
theorem Opens.bool (ht : P.underlying t = some .bool) : Opens P t Kd.bool (fun _ => True) := by
  intro H enc w base spare held fuel cs x h
  obtain ⟨b, rfl, rfl⟩ := DataW.trod_bool ht h
  exact ⟨b, rfl, trivial⟩
theorem Opens.slice {d : Kd α} {good : α → Prop} (e' : Nat) (ht : P.underlying t = some (.slice e)) (hc : P.cellsOf e = d.sz) (he : Opens P e d good) : Opens P t (Kd.slice e' d) (fun l => l.length ≤ maxLen ∧ ∀ x ∈ l, good x) := by
  intro H enc w base spare held fuel cs x h
  rcases open_slice ht h with ⟨rfl, rfl⟩ | ⟨a, len, cap, m, n, D, Pl, rfl, hb, hl, hm, hmm, rfl, hx⟩
  · exact ⟨[], ⟨none, 0, rfl, Nat.le_refl _, ⟨rfl, by simp, fun h => by simp at h⟩⟩, by simp, fun x hx => by cases hx⟩
  · have hlm : len ≤ m := by rw [hmm]; split <;> omega
    have each : ∀ i, i < len → ∃ p : α × List Value, (w.cells? base (a.add (i * P.cellsOf e)) (P.cellsOf e)) = some p.2 ∧ d.K w p.1 p.2 ∧ good p.1 := by
      intro i hi
      obtain ⟨c, h1, h2⟩ := hx i (by omega)
      obtain ⟨y, hy, hg⟩ := he enc w base spare held n c _ h2
      exact ⟨(y, c), h1, hy, hg⟩
    have hml : maxLen = 9223372036854775807 := by decide
    rcases Nat.eq_zero_or_pos len with h0 | h0
    · subst h0
      exact ⟨[], ⟨some a, cap, rfl, Nat.zero_le _, ⟨rfl, by simp, fun h => by simp at h⟩⟩, by simp, fun x hx => by cases hx⟩
    obtain ⟨q0, _⟩ := each 0 h0
    have : Inhabited (α × List Value) := ⟨q0⟩
    obtain ⟨p, hp⟩ := choose_lt each
    have hlen : ((List.range len).map fun i => (p i).1).length = len := by simp
    refine ⟨(List.range len).map fun i => (p i).1, ⟨some a, cap, by rw [hlen], by rw [hlen]; exact hl, ?_⟩, by rw [hlen]; omega, ?_⟩
    · refine ⟨rfl, by rw [hlen]; omega, fun _ => ⟨a, rfl, fun j q hj => ?_⟩⟩
      have hjl : j < len := by have := (List.getElem?_eq_some_iff.1 hj).1; rwa [hlen] at this
      obtain ⟨h1, h2, h3⟩ := hp j hjl
      have hq : (p j).1 = q := by
        rw [List.getElem?_map, List.getElem?_range hjl] at hj
        simpa using hj
      subst hq
      have hk := World.cells?_some h1
      refine ⟨(p j).2, by rw [hk.2.1, hc], h2, fun i u hu => ?_⟩
      have hi : i < P.cellsOf e := by rw [← hk.2.1]; exact (List.getElem?_eq_some_iff.1 hu).1
      have := hk.2.2 i hi
      rw [hu, hc, Addr.add_add] at this
      exact this
    · intro y hy
      obtain ⟨i, hi, rfl⟩ := List.mem_map.1 hy
      exact (hp i (List.mem_range.1 hi)).2.2
theorem FieldsOpen.one {a : Kd α} {ga : α → Prop} {f : Field} {off : Nat} (hf : Opens P f.type a ga) (ho : f.offset = off) (hc : P.cellsOf f.type = a.sz) : FieldsOpen P off [f] a ga := by
  intro H enc w base spare held n cs h hl
  obtain ⟨y, hy⟩ := h f (List.mem_singleton.2 rfl)
  rw [ho, hc, List.take_of_length_le (by rw [List.length_drop]; omega)] at hy
  exact hf enc w base spare held n _ _ hy
theorem FieldsOpen.cons {a : Kd α} {b : Kd β} {ga : α → Prop} {gb : β → Prop} {f : Field} {fs : List Field} {off : Nat} (hf : Opens P f.type a ga) (ho : f.offset = off) (hc : P.cellsOf f.type = a.sz) (hfs : FieldsOpen P (off + a.sz) fs b gb) :
    FieldsOpen P off (f :: fs) (Kd.pair a b) (fun x => ga x.1 ∧ gb x.2) := by
  intro H enc w base spare held n cs h hl
  have hl' : cs.length = off + (a.sz + b.sz) := hl
  obtain ⟨y, hy⟩ := h f (List.mem_cons_self ..)
  rw [ho, hc] at hy
  obtain ⟨u, hu, gu⟩ := hf enc w base spare held n _ _ hy
  obtain ⟨v, hv, gv⟩ := hfs enc w base spare held n cs (fun g hg => h g (List.mem_cons_of_mem _ hg)) (by omega)
  refine ⟨(u, v), ⟨(cs.drop off).take a.sz, cs.drop (off + a.sz), ?_, hu, hv⟩, gu, gv⟩
  rw [← List.drop_drop, List.take_append_drop]
theorem Opens.struct {d : Kd α} {good : α → Prop} {fs : Array Field} (f : β → α) (g : α → β) (hg : ∀ y, f (g y) = y) (ht : P.underlying t = some (.struct fs)) (hC : P.cellsOf t = d.sz) (h : FieldsOpen P 0 fs.toList d good) :
    Opens P t (Kd.iso d f) (fun x => good (f x)) := by
  intro H enc w base spare held fuel cs x hx
  obtain ⟨xs, n, _, rfl, hl, hlen, hf⟩ := DataW.trod_struct ht hx
  obtain ⟨y, hy, gy⟩ := h enc w base spare held n cs (fun q hq => by
    obtain ⟨i, hi⟩ := List.getElem?_of_mem hq
    rw [Array.getElem?_toList] at hi
    have hil : i < xs.length := by rw [hlen]; exact (Array.getElem?_eq_some_iff.1 hi).1
    exact ⟨xs[i], by rw [hf i q hi, List.getElem?_eq_getElem hil]⟩) (by omega)
  refine ⟨g y, ?_, by show good (f (g y)); rw [hg]; exact gy⟩
  show d.K w (f (g y)) cs
  rw [hg]
  exact hy
end
end Go.Proofs.YthkepmicdpgbbaaDoor.Open

/- Plain words that all further texts of this seat use: rounds of printed functions ('Ev'), whole numbers without wrap, bytes. No program is in sight here. -/
namespace Go.Proofs.YthkepmicdpgbbaaDoor.Base
set_option linter.unusedVariables false
set_option linter.unusedSimpArgs false
open Go.RowKit Go.Proofs.YthkepmicdpgbbaaDoorW.PrintWords

/-! ### rounds -/
section
variable {α β : Type} {c : Prop} [Decidable c] {f g : Nat → Option α} {r : α}
theorem Ev.pos (h : c) (k : Ev f r) : Ev (fun n => if c then f n else g n) r := by
  obtain ⟨K, hK⟩ := k
  exact ⟨K, fun n hn => (if_pos h).trans (hK n hn)⟩
theorem Ev.neg (h : ¬ c) (k : Ev g r) : Ev (fun n => if c then f n else g n) r := by
  obtain ⟨K, hK⟩ := k
  exact ⟨K, fun n hn => (if_neg h).trans (hK n hn)⟩
theorem Ev.done {a : α} (h : a = r) : Ev (fun _ => some a) r := ⟨0, fun _ _ => by rw [h]⟩
theorem Ev.then {x : Option β} {a : β} {h : Nat → β → Option α} (e : x = some a) (k : Ev (fun n => h n a) r) : Ev (fun n => x.bind (h n)) r := by
  subst e
  exact k
theorem Ev.all {k : Nat} (h : Ev f r) : ∃ n, k ≤ n ∧ f n = some r := by
  obtain ⟨K, hK⟩ := h
  exact ⟨max K k, Nat.le_max_right _ _, hK _ (Nat.le_max_left _ _)⟩
theorem Ev.eq {r' : α} (h : Ev f r) (e : r = r') : Ev f r' := e ▸ h
end

/-! ### whole numbers -/
theorem w64 {n : Int} (h : -9223372036854775808 ≤ n) (h' : n ≤ 9223372036854775807) : wrap64 n = n := by unfold wrap64; omega

/-! ### bytes -/
def Bytes (l : List Int) : Prop := ∀ x ∈ l, 0 ≤ x ∧ x ≤ 255
theorem Bytes.nil : Bytes [] := fun _ h => by cases h
theorem Bytes.append {l m : List Int} (h : Bytes l) (k : Bytes m) : Bytes (l ++ m) := fun x hx => (List.mem_append.1 hx).elim (h x) (k x)
theorem Bytes.cons {a : Int} {l : List Int} (ha : 0 ≤ a ∧ a ≤ 255) (h : Bytes l) : Bytes (a :: l) := fun x hx => (List.mem_cons.1 hx).elim (fun e => e ▸ ha) (h x)
theorem Bytes.take {l : List Int} (h : Bytes l) (n : Nat) : Bytes (l.take n) := fun x hx => h x (List.mem_of_mem_take hx)
theorem Bytes.drop {l : List Int} (h : Bytes l) (n : Nat) : Bytes (l.drop n) := fun x hx => h x (List.mem_of_mem_drop hx)
theorem bt_byte (s : ByteArray) (i : Int) : 0 ≤ bt s i ∧ bt s i ≤ 255 := by
  unfold bt
  split
  · rename_i h
    have := (s[i.toNat]'h).toNat_lt
    omega
  · exact ⟨by decide, by decide⟩

/-! ### equality, and lists by their elements -/
theorem text_inj {s t : ByteArray} (h : s.toList = t.toList) : s = t := by
  rw [ByteArray.toList_eq, ByteArray.toList_eq] at h
  exact WideShapes.bytes_inj h
theorem text_nil {s : ByteArray} : s.toList = [] ↔ s = ⟨#[]⟩ := ⟨fun h => text_inj (h.trans (by rw [ByteArray.toList_eq])), fun h => by rw [h, ByteArray.toList_eq]⟩
theorem cast_succ (i : Nat) : ((i : Int) + 1) = ((i + 1 : Nat) : Int) := rfl
theorem getD_nat {α : Type} (l : List α) (d : α) {i : Nat} (h : i < l.length) : l.getD ((i : Int)).toNat d = l[i] := by
  rw [Int.toNat_natCast, List.getD_eq_getElem?_getD, List.getElem?_eq_getElem h]; rfl
theorem size_append (s t : ByteArray) : (s ++ t).size = s.size + t.size := by simp
end Go.Proofs.YthkepmicdpgbbaaDoor.Base

/- The checksum as a function on natural numbers, and that a changed byte changes it. Plain arithmetic: no program is in sight here. -/
namespace Go.Proofs.YthkepmicdpgbbaaDoor.Crc
set_option linter.unusedVariables false
set_option linter.unusedSimpArgs false

def bit (s : Nat) : Nat := if 2 * s > 65535 then (2 * s) ^^^ 69665 else 2 * s
def bits (s : Nat) : Nat → Nat
  | 0 => s
  | k + 1 => bits (bit s) k
@[irreducible] def byte (s x : Nat) : Nat := bits (s ^^^ (256 * x)) 8

end Go.Proofs.YthkepmicdpgbbaaDoor.Crc

/- What the printed functions on bytes, words and texts come to: the laws' own copies, marks and comparisons, and the functions of the first chapter. No memory is in sight here. -/
namespace Go.Proofs.YthkepmicdpgbbaaDoor.Fn
set_option linter.unusedVariables false
set_option linter.unusedSimpArgs false
open Go.RowKit Go.Proofs.YthkepmicdpgbbaaDoorW.PrintWords Go.Proofs.YthkepmicdpgbbaaDoor.P Go.Proofs.YthkepmicdpgbbaaDoor.Base

/-! ### copies -/

/-! ### comparisons -/

/-! ### marks -/

/-! ### ranges and words -/
theorem isIn (a b c : Int) : impl_isIn.f a b c = some (decide (b ≤ a ∧ a ≤ c)) := by
  unfold impl_isIn.f
  by_cases h : b ≤ a
  · rw [if_pos h]; simp [h]
  · rw [if_neg h]; simp [h]
theorem l1In (a b c : Int) : spec_l1In.f a b c = some (decide (b ≤ a ∧ a ≤ c)) := by
  unfold spec_l1In.f
  by_cases h : a ≥ b
  · rw [if_pos h]; simp; omega
  · rw [if_neg h]; simp; omega
end Go.Proofs.YthkepmicdpgbbaaDoor.Fn

/- Plain words on lists by their elements. No program is in sight here. -/
namespace Go.Proofs.YthkepmicdpgbbaaDoor.Fn
set_option linter.unusedVariables false
set_option linter.unusedSimpArgs false
open Go.RowKit Go.Proofs.YthkepmicdpgbbaaDoorW.PrintWords Go.Proofs.YthkepmicdpgbbaaDoor.Base

theorem drop_get {α : Type} (l : List α) (d : α) {i : Nat} (h : i < l.length) : l.drop i = l.getD ((i : Int)).toNat d :: l.drop (i + 1) := by
  rw [getD_nat l d h]; exact List.drop_eq_getElem_cons h
end Go.Proofs.YthkepmicdpgbbaaDoor.Fn

/- What the printed functions that copy, size and compare databases come to. No memory is in sight here. -/
namespace Go.Proofs.YthkepmicdpgbbaaDoor.Fn
set_option linter.unusedVariables false
set_option linter.unusedSimpArgs false
open Go.RowKit Go.Proofs.YthkepmicdpgbbaaDoorW.PrintWords Go.Proofs.YthkepmicdpgbbaaDoor.P Go.Proofs.YthkepmicdpgbbaaDoor.Base

abbrev Db := S55
/-! ### sizes: 'left' only falls, and is not below 0 where it counts -/
end Go.Proofs.YthkepmicdpgbbaaDoor.Fn

/- What the printed functions on frames come to. No memory is in sight here. -/
namespace Go.Proofs.YthkepmicdpgbbaaDoor.Fn
set_option linter.unusedVariables false
set_option linter.unusedSimpArgs false
open Go.RowKit Go.Proofs.YthkepmicdpgbbaaDoorW.PrintWords Go.Proofs.YthkepmicdpgbbaaDoor.P Go.Proofs.YthkepmicdpgbbaaDoor.Base

/-! ### names -/
def nameOk (s : ByteArray) : Bool := decide (1 ≤ s.size ∧ s.size ≤ 8) && decide (∀ i : Nat, i < s.size → 97 ≤ bt s (i : Int) ∧ bt s (i : Int) ≤ 122)
theorem nameOk_iff (s : ByteArray) : nameOk s = true ↔ (1 ≤ s.size ∧ s.size ≤ 8) ∧ ∀ i : Nat, i < s.size → 97 ≤ bt s (i : Int) ∧ bt s (i : Int) ≤ 122 := by simp [nameOk]
theorem nameOk_false {s : ByteArray} {i : Nat} (hi : i < s.size) (h : bt s (i : Int) < 97 ∨ 122 < bt s (i : Int)) : nameOk s = false := by
  rw [← Bool.not_eq_true, nameOk_iff]
  rintro ⟨_, a⟩
  have := a i hi
  omega
theorem nameOk_all {s : ByteArray} (hp : ∀ j : Nat, j < s.size → 97 ≤ bt s (j : Int) ∧ bt s (j : Int) ≤ 122) : decide ((1 : Int) ≤ (s.size : Int) ∧ (s.size : Int) ≤ 8) = nameOk s := by
  rw [Bool.eq_iff_iff, nameOk_iff, decide_eq_true_eq]
  exact ⟨fun h => ⟨by omega, hp⟩, fun h => by omega⟩
theorem impl_nameOk_l0 (s : ByteArray) (hs : s.size ≤ 9223372036854775807) (d : Nat) : ∀ (i : Nat), i + d = s.size → (∀ j : Nat, j < i → 97 ≤ bt s (j : Int) ∧ bt s (j : Int) ≤ 122) → Ev (fun k => impl_nameOk.l0 k s (s.size : Int) (i : Int)) (nameOk s) := by
  induction d with
  | zero =>
    intro i hi hp
    obtain rfl : i = s.size := by omega
    exact Ev.step (fun k => impl_nameOk.l0.eq_2 _ _ _ k) (Ev.neg (by omega) (Ev.then (isIn _ _ _) (Ev.done (nameOk_all hp))))
  | succ d ih =>
    intro i hi hp
    refine Ev.step (fun k => impl_nameOk.l0.eq_2 _ _ _ k) (Ev.pos (by omega) (Ev.pos (by omega) (Ev.pos (by omega) ?_)))
    by_cases h1 : bt s (i : Int) < 97
    · exact Ev.pos h1 (Ev.done (nameOk_false (by omega) (.inl h1)).symm)
    · refine Ev.neg h1 ?_
      by_cases h2 : bt s (i : Int) > 122
      · exact Ev.pos h2 (Ev.done (nameOk_false (by omega) (.inr h2)).symm)
      · refine Ev.neg h2 ?_
        rw [w64 (by omega) (by omega), cast_succ]
        refine ih (i + 1) (by omega) (fun j hj => ?_)
        rcases Nat.lt_or_ge j i with hj' | hj'
        · exact hp j hj'
        · obtain rfl : j = i := by omega
          omega
theorem impl_nameOk (s : ByteArray) (hs : s.size ≤ 9223372036854775807) : Ev (fun k => impl_nameOk.f k s) (nameOk s) := by
  unfold impl_nameOk.f
  exact impl_nameOk_l0 s hs s.size 0 (by omega) (fun j hj => by omega)
theorem spec_l1Name_l0 (s : ByteArray) (hs : s.size ≤ 9223372036854775807) (d : Nat) : ∀ (i : Nat), i + d = s.size → (∀ j : Nat, j < i → 97 ≤ bt s (j : Int) ∧ bt s (j : Int) ≤ 122) → Ev (fun k => spec_l1Name.l0 k s (i : Int)) (nameOk s) := by
  induction d with
  | zero =>
    intro i hi hp
    obtain rfl : i = s.size := by omega
    exact Ev.step (fun k => spec_l1Name.l0.eq_2 _ _ k) (Ev.neg (by omega) (Ev.then (l1In _ _ _) (Ev.done (nameOk_all hp))))
  | succ d ih =>
    intro i hi hp
    refine Ev.step (fun k => spec_l1Name.l0.eq_2 _ _ k) (Ev.pos (by omega) (Ev.pos (by omega) ?_))
    by_cases h1 : bt s (i : Int) < 97
    · exact Ev.pos h1 (Ev.done (nameOk_false (by omega) (.inl h1)).symm)
    · refine Ev.neg h1 ?_
      by_cases h2 : bt s (i : Int) > 122
      · exact Ev.pos h2 (Ev.done (nameOk_false (by omega) (.inr h2)).symm)
      · refine Ev.neg h2 ?_
        rw [w64 (by omega) (by omega), cast_succ]
        refine ih (i + 1) (by omega) (fun j hj => ?_)
        rcases Nat.lt_or_ge j i with hj' | hj'
        · exact hp j hj'
        · obtain rfl : j = i := by omega
          omega
theorem l1Name (s : ByteArray) (hs : s.size ≤ 9223372036854775807) : Ev (fun k => spec_l1Name.f k s) (nameOk s) := by
  unfold spec_l1Name.f
  exact spec_l1Name_l0 s hs s.size 0 (by omega) (fun j hj => by omega)

/-! ### frames -/
end Go.Proofs.YthkepmicdpgbbaaDoor.Fn

/- What the printed functions that look for a database by its name, and that check a configuration, come to. -/
namespace Go.Proofs.YthkepmicdpgbbaaDoor.Fn
set_option linter.unusedVariables false
set_option linter.unusedSimpArgs false
open Go.RowKit Go.Proofs.YthkepmicdpgbbaaDoorW.PrintWords Go.Proofs.YthkepmicdpgbbaaDoor.P Go.Proofs.YthkepmicdpgbbaaDoor.Base

/-! ### a database by its name -/
/-! ### a configuration -/
/-- No database of a name stands at j, .., j + e - 1. -/
def noneAt (l : List Db) (name : ByteArray) : Nat → Nat → Bool
  | _, 0 => true
  | j, e + 1 => !((rd_T55 l (j : Int)).f0.toList == name.toList) && noneAt l name (j + 1) e
def dbOk (x : Db) : Bool := nameOk x.f0 && (decide (1 ≤ x.f1 ∧ x.f1 ≤ 3) && (decide (0 ≤ x.f2 ∧ x.f2 ≤ 4) && (decide (1 ≤ x.f3 ∧ x.f3 ≤ 20) && decide (1 ≤ x.f4 ∧ x.f4 ≤ 20))))
def confFrom (l : List Db) : Nat → Nat → Bool
  | _, 0 => decide ((1 : Int) ≤ (l.length : Int) ∧ (l.length : Int) ≤ 3)
  | i, d + 1 => dbOk (rd_T55 l (i : Int)) && (noneAt l (rd_T55 l (i : Int)).f0 0 i && confFrom l (i + 1) d)
theorem spec_l3Db (x : Db) (hx : x.f0.size ≤ 9223372036854775807) : Ev (fun k => spec_l3Db.f k x.f0 x.f1 x.f2 x.f3 x.f4) (dbOk x) := by
  unfold spec_l3Db.f dbOk
  refine Ev.bind (l1Name _ hx) ?_
  cases nameOk x.f0
  · exact Ev.neg (by decide) (Ev.done rfl)
  · refine Ev.pos rfl (Ev.then (l1In _ _ _) ?_)
    generalize decide (1 ≤ x.f1 ∧ x.f1 ≤ 3) = b1
    cases b1
    · exact Ev.neg (by decide) (Ev.done rfl)
    · refine Ev.pos rfl (Ev.then (l1In _ _ _) ?_)
      generalize decide (0 ≤ x.f2 ∧ x.f2 ≤ 4) = b2
      cases b2
      · exact Ev.neg (by decide) (Ev.done rfl)
      · refine Ev.pos rfl (Ev.then (l1In _ _ _) ?_)
        generalize decide (1 ≤ x.f3 ∧ x.f3 ≤ 20) = b3
        cases b3
        · exact Ev.neg (by decide) (Ev.done rfl)
        · exact Ev.pos rfl (Ev.then (l1In _ _ _) (Ev.done (by simp)))
theorem spec_ConfOk_l1 (l : List Db) (hl : l.length ≤ 1048577) (i : Nat) (hi : i < l.length) (b : Bool) (hb : Ev (fun k => spec_ConfOk.l0 k l ((i + 1 : Nat) : Int)) b) (e : Nat) : ∀ (j : Nat), j + e = i →
    Ev (fun k => spec_ConfOk.l1 k l (i : Int) (j : Int)) (noneAt l (rd_T55 l (i : Int)).f0 j e && b) := by
  induction e with
  | zero =>
    intro j hj
    refine Ev.step (fun k => spec_ConfOk.l1.eq_2 _ _ _ k) (Ev.neg (by omega) ?_)
    rw [w64 (n := (i : Int) + 1) (by omega) (by omega), cast_succ]
    exact Ev.eq hb (by simp [noneAt])
  | succ e ih =>
    intro j hj
    refine Ev.step (fun k => spec_ConfOk.l1.eq_2 _ _ _ k) (Ev.pos (by omega) (Ev.pos (by omega) (Ev.pos (by omega) (Ev.pos (by omega) (Ev.pos (by omega) ?_)))))
    rw [noneAt]
    by_cases h : (rd_T55 l (j : Int)).f0.toList = (rd_T55 l (i : Int)).f0.toList
    · exact Ev.pos h (Ev.done (by rw [beq_iff_eq.2 h]; rfl))
    · refine Ev.neg h ?_
      rw [w64 (n := (j : Int) + 1) (by omega) (by omega), cast_succ]
      refine Ev.eq (ih (j + 1) (by omega)) ?_
      rw [beq_eq_false_iff_ne.2 h]
      rfl
theorem spec_ConfOk_l0 (l : List Db) (hl : l.length ≤ 1048577) (hg : ∀ x ∈ l, x.f0.size ≤ 9223372036854775807) (d : Nat) : ∀ (i : Nat), i + d = l.length → Ev (fun k => spec_ConfOk.l0 k l (i : Int)) (confFrom l i d) := by
  induction d with
  | zero =>
    intro i hi
    exact Ev.step (fun k => spec_ConfOk.l0.eq_2 _ _ k) (Ev.neg (by omega) (Ev.then (l1In _ _ _) (Ev.done rfl)))
  | succ d ih =>
    intro i hi
    have he : rd_T55 l (i : Int) = l[i] := getD_nat l _ (by omega)
    refine Ev.step (fun k => spec_ConfOk.l0.eq_2 _ _ k) (Ev.pos (by omega) (Ev.pos (by omega) (Ev.bind (spec_l3Db _ (by rw [he]; exact hg _ (List.getElem_mem _))) ?_)))
    rw [confFrom]
    cases dbOk (rd_T55 l (i : Int))
    · exact Ev.neg (by decide) (Ev.done rfl)
    · refine Ev.pos rfl ?_
      rw [Bool.true_and]
      exact spec_ConfOk_l1 l hl i (by omega) _ (ih (i + 1) (by omega)) i 0 (by omega)
theorem spec_confOk (l : List Db) (hl : l.length ≤ 1048577) (hg : ∀ x ∈ l, x.f0.size ≤ 9223372036854775807) : Ev (fun k => spec_ConfOk.f k l) (confFrom l 0 l.length) := spec_ConfOk_l0 l hl hg l.length 0 (by omega)
theorem place_none (l : List Db) (i : Nat) (hi : i < l.length) (e : Nat) : ∀ (j : Nat), j + e = i →
    decide (impl_dbPlace.l0 (l.drop j) (rd_T55 l (i : Int)).f0 (j : Int) = (i : Int)) = noneAt l (rd_T55 l (i : Int)).f0 j e := by
  induction e with
  | zero =>
    intro j hj
    obtain rfl : j = i := by omega
    rw [drop_get l z55 hi, impl_dbPlace.l0]
    unfold rd_T55
    rw [if_pos rfl]
    simp [noneAt]
  | succ e ih =>
    intro j hj
    rw [drop_get l z55 (show j < l.length by omega), impl_dbPlace.l0, noneAt]
    by_cases h : (rd_T55 l (j : Int)).f0.toList = (rd_T55 l (i : Int)).f0.toList
    · rw [if_pos (by unfold rd_T55 at h ⊢; exact h), beq_iff_eq.2 h]
      simp; omega
    · rw [if_neg (by unfold rd_T55 at h ⊢; exact h), beq_eq_false_iff_ne.2 h, cast_succ, ih (j + 1) (by omega)]
      rfl
theorem impl_ConfOk_l0 (l : List Db) (hl : l.length ≤ 1048577) (hg : ∀ x ∈ l, x.f0.size ≤ 9223372036854775807) (d : Nat) : ∀ (i : Nat), i + d = l.length → Ev (fun k => impl_ConfOk.l0 k l l (l.length : Int) (i : Int)) (confFrom l i d) := by
  induction d with
  | zero =>
    intro i hi
    exact Ev.step (fun k => impl_ConfOk.l0.eq_2 _ _ _ _ k) (Ev.neg (by omega) (Ev.then (isIn _ _ _) (Ev.done rfl)))
  | succ d ih =>
    intro i hi
    have he : rd_T55 l (i : Int) = l[i] := getD_nat l _ (by omega)
    have hp := place_none l i (by omega) i 0 (by omega)
    refine Ev.step (fun k => impl_ConfOk.l0.eq_2 _ _ _ _ k) (Ev.pos (by omega) (Ev.pos (by omega) (Ev.pos (by omega) (Ev.bind (impl_nameOk _ (by rw [he]; exact hg _ (List.getElem_mem _))) ?_))))
    rw [confFrom, dbOk]
    cases nameOk (rd_T55 l (i : Int)).f0
    · exact Ev.neg (by decide) (Ev.done rfl)
    refine Ev.pos rfl (Ev.then rfl ?_)
    rw [← hp]
    by_cases h : impl_dbPlace.l0 l (rd_T55 l (i : Int)).f0 0 = (i : Int)
    · refine Ev.pos h (Ev.then (isIn _ _ _) ?_)
      rw [show decide (impl_dbPlace.l0 (List.drop 0 l) (rd_T55 l (i : Int)).f0 ((0 : Nat) : Int) = (i : Int)) = true from decide_eq_true h]
      generalize decide (1 ≤ (rd_T55 l (i : Int)).f1 ∧ (rd_T55 l (i : Int)).f1 ≤ 3) = b1
      cases b1
      · exact Ev.neg (by decide) (Ev.done rfl)
      refine Ev.pos rfl (Ev.then (isIn _ _ _) ?_)
      generalize decide (0 ≤ (rd_T55 l (i : Int)).f2 ∧ (rd_T55 l (i : Int)).f2 ≤ 4) = b2
      cases b2
      · exact Ev.neg (by decide) (Ev.done rfl)
      refine Ev.pos rfl (Ev.then (isIn _ _ _) ?_)
      generalize decide (1 ≤ (rd_T55 l (i : Int)).f3 ∧ (rd_T55 l (i : Int)).f3 ≤ 20) = b3
      cases b3
      · exact Ev.neg (by decide) (Ev.done rfl)
      refine Ev.pos rfl (Ev.then (isIn _ _ _) ?_)
      generalize decide (1 ≤ (rd_T55 l (i : Int)).f4 ∧ (rd_T55 l (i : Int)).f4 ≤ 20) = b4
      cases b4
      · exact Ev.neg (by decide) (Ev.done rfl)
      refine Ev.pos rfl ?_
      rw [w64 (n := (i : Int) + 1) (by omega) (by omega), cast_succ]
      exact Ev.eq (ih (i + 1) (by omega)) (by simp)
    · refine Ev.neg h (Ev.done ?_)
      rw [show decide (impl_dbPlace.l0 (List.drop 0 l) (rd_T55 l (i : Int)).f0 ((0 : Nat) : Int) = (i : Int)) = false from decide_eq_false h]
      simp
theorem impl_confOk (l : List Db) (hl : l.length ≤ 1048577) (hg : ∀ x ∈ l, x.f0.size ≤ 9223372036854775807) : Ev (fun k => impl_ConfOk.f k l) (confFrom l 0 l.length) := impl_ConfOk_l0 l hl hg l.length 0 (by omega)
end Go.Proofs.YthkepmicdpgbbaaDoor.Fn

/- What the printed functions that write a number come to: the numeral of Go's own strconv. -/
namespace Go.Proofs.YthkepmicdpgbbaaDoor.Fn
set_option linter.unusedVariables false
set_option linter.unusedSimpArgs false
open Go.RowKit Go.Proofs.YthkepmicdpgbbaaDoorW.PrintWords Go.Proofs.YthkepmicdpgbbaaDoor.P Go.Proofs.YthkepmicdpgbbaaDoor.Base

/-- A string of its bytes. -/
def ba (l : List UInt8) : ByteArray := ⟨l.toArray⟩
theorem ba_size (l : List UInt8) : (ba l).size = l.length := by simp [ba, ByteArray.size]
theorem ba_append (l m : List UInt8) : ba l ++ ba m = ba (l ++ m) := by
  apply ByteArray.ext
  simp [ba]
theorem ba_of (s : ByteArray) : s = ba s.data.toList := by
  apply ByteArray.ext
  simp [ba]
theorem impl_numText (n : Int) (h0 : -9223372036854775808 ≤ n) (h1 : n ≤ 9223372036854775807) : impl_NumText.f n = some (ba (Lib.itoa n)) := by
  unfold impl_NumText.f strconv_Itoa_97.f
  rw [if_pos ⟨h0, h1⟩]
  rfl
end Go.Proofs.YthkepmicdpgbbaaDoor.Fn

/- What the printed functions that write a configuration come to. -/
namespace Go.Proofs.YthkepmicdpgbbaaDoor.Fn
set_option linter.unusedVariables false
set_option linter.unusedSimpArgs false
open Go.RowKit Go.Proofs.YthkepmicdpgbbaaDoorW.PrintWords Go.Proofs.YthkepmicdpgbbaaDoor.P Go.Proofs.YthkepmicdpgbbaaDoor.Base

def itemL (x : Db) : List UInt8 := x.f0.data.toList ++ [58] ++ Lib.itoa x.f1 ++ [47] ++ Lib.itoa x.f2 ++ [47] ++ Lib.itoa x.f3 ++ [47] ++ Lib.itoa x.f4
theorem item_eq (x : Db) : ((((((((x.f0 ++ (⟨#[58]⟩ : ByteArray)) ++ ba (Lib.itoa x.f1)) ++ (⟨#[47]⟩ : ByteArray)) ++ ba (Lib.itoa x.f2)) ++ (⟨#[47]⟩ : ByteArray)) ++ ba (Lib.itoa x.f3)) ++ (⟨#[47]⟩ : ByteArray)) ++ ba (Lib.itoa x.f4)) = ba (itemL x) := by
  conv => lhs; rw [ba_of x.f0]
  rw [show (⟨#[58]⟩ : ByteArray) = ba [58] from rfl, show (⟨#[47]⟩ : ByteArray) = ba [47] from rfl]
  simp only [ba_append]
  rfl
theorem dbOk_of {x : Db} (h : dbOk x = true) : x.f0.size ≤ 8 ∧ (1 ≤ x.f1 ∧ x.f1 ≤ 3) ∧ (0 ≤ x.f2 ∧ x.f2 ≤ 4) ∧ (1 ≤ x.f3 ∧ x.f3 ≤ 20) ∧ (1 ≤ x.f4 ∧ x.f4 ≤ 20) := by
  unfold dbOk at h
  simp only [Bool.and_eq_true, decide_eq_true_eq] at h
  have := (nameOk_iff x.f0).1 h.1
  exact ⟨this.1.2, h.2.1, h.2.2.1, h.2.2.2.1, h.2.2.2.2⟩
theorem itoa_small {n : Int} (h0 : 0 ≤ n) (h1 : n ≤ 20) : (Lib.itoa n).length ≤ 21 := Lib.itoa_length_le n (by omega) (by omega)
theorem itemL_length {x : Db} (h : dbOk x = true) : (itemL x).length ≤ 100 := by
  obtain ⟨hn, h1, h2, h3, h4⟩ := dbOk_of h
  have e1 := itoa_small (n := x.f1) (by omega) (by omega)
  have e2 := itoa_small (n := x.f2) (by omega) (by omega)
  have e3 := itoa_small (n := x.f3) (by omega) (by omega)
  have e4 := itoa_small (n := x.f4) (by omega) (by omega)
  have e0 : x.f0.data.toList.length = x.f0.size := rfl
  simp only [itemL, List.length_append, List.length_singleton, e0]
  omega
theorem confFrom_all (l : List Db) (d : Nat) : ∀ (i : Nat), i + d = l.length → confFrom l i d = true → l.length ≤ 3 ∧ ∀ (j : Nat) (hj : j < l.length), i ≤ j → dbOk l[j] = true := by
  induction d with
  | zero =>
    intro i hi h
    unfold confFrom at h
    rw [decide_eq_true_eq] at h
    exact ⟨by omega, fun j hj hij => by omega⟩
  | succ d ih =>
    intro i hi h
    have he : rd_T55 l (i : Int) = l[i] := getD_nat l _ (by omega)
    unfold confFrom at h
    rw [he] at h
    simp only [Bool.and_eq_true] at h
    obtain ⟨h3, hall⟩ := ih (i + 1) (by omega) h.2.2
    refine ⟨h3, fun j hj hij => ?_⟩
    by_cases e : i = j
    · subst e; exact h.1
    · exact hall j hj (by omega)
/-- The texts of databases, each but the first behind a ';'. -/
def confAcc : ByteArray → Nat → List Db → ByteArray
  | s, _, [] => s
  | s, i, x :: xs => confAcc ((if i = 0 then s else s ++ (⟨#[59]⟩ : ByteArray)) ++ ba (itemL x)) (i + 1) xs
theorem confAcc_eq (xs : List Db) : ∀ (L : List UInt8) (i : Nat), i ≠ 0 → confAcc (ba L) i xs = ba (L ++ xs.flatMap (fun x => 59 :: itemL x)) := by
  induction xs with
  | nil => intro L i _; simp [confAcc]
  | cons x xs ih =>
    intro L i hi
    rw [confAcc, if_neg hi, show (⟨#[59]⟩ : ByteArray) = ba [59] from rfl, ba_append, ba_append, ih _ _ (by omega)]
    simp
theorem join_eq (x : Db) (xs : List Db) : Lib.join ((x :: xs).map itemL) [59] = itemL x ++ xs.flatMap (fun x => 59 :: itemL x) := by
  unfold Lib.join
  induction xs generalizing x with
  | nil => simp [List.intercalate]
  | cons y ys ih =>
    have := ih y
    simp only [List.intercalate, List.map_cons, List.intersperse, List.flatten_cons, List.flatMap_cons] at this ⊢
    cases ys with
    | nil => simp
    | cons z zs =>
      simp only [List.map_cons, List.intersperse, List.flatten_cons] at this ⊢
      rw [this]
      simp
noncomputable def confText (l : List Db) : ByteArray := if confFrom l 0 l.length = true then confAcc (⟨#[]⟩ : ByteArray) 0 l else (⟨#[]⟩ : ByteArray)
theorem impl_ConfText_l0 (l : List Db) (hl : l.length ≤ 3) (hall : ∀ (j : Nat) (hj : j < l.length), 0 ≤ j → dbOk l[j] = true) (d : Nat) : ∀ (i : Nat), i + d = l.length → Ev (fun k => impl_ConfText.l0 k ((l.take i).map (fun x => ba (itemL x))) l (l.length : Int) (i : Int)) (ba (Lib.join (l.map itemL) [59])) := by
  induction d with
  | zero =>
    intro i hi
    refine Ev.step (fun k => impl_ConfText.l0.eq_2 _ _ _ _ k) (Ev.neg (by omega) (Ev.then (a := ba (Lib.join (l.map itemL) [59])) ?_ (Ev.done rfl)))
    have ht : l.take i = l := List.take_of_length_le (by omega)
    have hm : ((l.take i).map (fun x => ba (itemL x))).map (fun x => x.data.toList) = l.map itemL := by
      rw [ht, List.map_map]
      exact List.map_congr_left (fun x _ => by simp [ba])
    unfold strings_Join.f
    rw [show (⟨#[59]⟩ : ByteArray).data.toList = [59] from rfl, hm, if_pos]
    · rfl
    · refine ⟨by rw [List.length_map, List.length_take]; omega, ?_⟩
      cases l with
      | nil => simp [Lib.join, List.intercalate]
      | cons x xs =>
        rw [join_eq]
        have b : ∀ ys : List Db, (∀ y ∈ ys, dbOk y = true) → (ys.flatMap (fun x => 59 :: itemL x)).length ≤ 101 * ys.length := by
          intro ys
          induction ys with
          | nil => intro _; simp
          | cons y ys ih =>
            intro hy
            have := ih (fun z hz => hy z (List.mem_cons_of_mem _ hz))
            have h1 := itemL_length (hy y (List.mem_cons_self ..))
            simp only [List.flatMap_cons, List.length_append, List.length_cons]
            omega
        have hmem : ∀ y ∈ x :: xs, dbOk y = true := by
          intro y hy
          obtain ⟨j, hj, rfl⟩ := List.getElem_of_mem hy
          exact hall j hj (by omega)
        have h1 := itemL_length (hmem x (List.mem_cons_self ..))
        have h2 := b xs (fun y hy => hmem y (List.mem_cons_of_mem _ hy))
        simp only [List.length_cons] at hl
        rw [List.length_append]
        omega
  | succ d ih =>
    intro i hi
    have he : rd_T55 l (i : Int) = l[i] := getD_nat l _ (by omega)
    have hok := hall i (by omega) (by omega)
    obtain ⟨hn, h1, h2, h3, h4⟩ := dbOk_of hok
    have e1 := itoa_small (n := l[i].f1) (by omega) (by omega)
    have e2 := itoa_small (n := l[i].f2) (by omega) (by omega)
    have e3 := itoa_small (n := l[i].f3) (by omega) (by omega)
    have e4 := itoa_small (n := l[i].f4) (by omega) (by omega)
    have z1 : ∀ a : UInt8, (⟨#[a]⟩ : ByteArray).size = 1 := fun _ => rfl
    refine Ev.step (fun k => impl_ConfText.l0.eq_2 _ _ _ _ k) (Ev.pos (by omega) (Ev.pos (by omega) (Ev.pos (by omega) ?_)))
    rw [he]
    refine Ev.pos (by omega) (Ev.then (impl_numText _ (by omega) (by omega)) (Ev.pos (by simp only [size_append, ba_size, z1]; omega) (Ev.pos (by simp only [size_append, ba_size, z1]; omega) ?_)))
    refine Ev.then (impl_numText _ (by omega) (by omega)) (Ev.pos (by simp only [size_append, ba_size, z1]; omega) (Ev.pos (by simp only [size_append, ba_size, z1]; omega) ?_))
    refine Ev.then (impl_numText _ (by omega) (by omega)) (Ev.pos (by simp only [size_append, ba_size, z1]; omega) (Ev.pos (by simp only [size_append, ba_size, z1]; omega) ?_))
    refine Ev.then (impl_numText _ (by omega) (by omega)) (Ev.pos (by simp only [size_append, ba_size, z1]; omega) (Ev.pos (by rw [List.length_map, List.length_take]; omega) ?_))
    rw [item_eq, w64 (n := (i : Int) + 1) (by omega) (by omega), cast_succ]
    have hx := ih (i + 1) (by omega)
    rw [List.take_succ_eq_append_getElem (by omega), List.map_append] at hx
    exact hx
theorem impl_confText (l : List Db) (hl : l.length ≤ 1048577) (hg : ∀ x ∈ l, x.f0.size ≤ 9223372036854775807) : Ev (fun k => impl_ConfText.f k l) (confText l) := by
  unfold impl_ConfText.f confText
  refine Ev.bind (impl_confOk l hl hg) ?_
  by_cases hc : confFrom l 0 l.length = true
  · rw [if_pos hc]
    obtain ⟨h3, hall⟩ := confFrom_all l l.length 0 (by omega) hc
    refine Ev.pos hc (Ev.eq (impl_ConfText_l0 l h3 hall l.length 0 (by omega)) ?_)
    cases l with
    | nil => simp [confFrom] at hc
    | cons x xs =>
      rw [join_eq, confAcc, if_pos rfl, show (⟨#[]⟩ : ByteArray) = ba [] from rfl, ba_append, List.nil_append, confAcc_eq _ _ _ (by omega)]
  · exact Ev.neg hc (Ev.done (if_neg hc).symm)
end Go.Proofs.YthkepmicdpgbbaaDoor.Fn

/- Texts cut at a byte, and joined again. No program is in sight here. -/
namespace Go.Proofs.YthkepmicdpgbbaaDoor.Fn
set_option linter.unusedVariables false
set_option linter.unusedSimpArgs false

/-- A text cut at all places of a byte, behind the bytes 'acc'. -/
def splitA (c : UInt8) : List UInt8 → List UInt8 → List (List UInt8)
  | acc, [] => [acc]
  | acc, x :: xs => if x = c then acc :: splitA c [] xs else splitA c (acc ++ [x]) xs
/-- Pieces, each but the first behind the byte. -/
def joinA (c : UInt8) (x : List UInt8) (xs : List (List UInt8)) : List UInt8 := x ++ xs.flatMap (fun y => c :: y)
theorem joinA_cons (c : UInt8) (x y : List UInt8) (ys : List (List UInt8)) : joinA c x (y :: ys) = x ++ c :: joinA c y ys := by simp [joinA]
theorem splitA_free (c : UInt8) (a r : List UInt8) : ∀ acc, c ∉ a → splitA c acc (a ++ r) = splitA c (acc ++ a) r := by
  induction a with
  | nil => intro acc _; simp
  | cons x xs ih =>
    intro acc h
    have hx : ¬ x = c := fun e => h (by rw [e]; exact List.mem_cons_self ..)
    rw [List.cons_append, splitA, if_neg hx, ih _ (fun e => h (List.mem_cons_of_mem _ e))]
    simp
theorem splitA_join (c : UInt8) (xs : List (List UInt8)) : ∀ (acc x : List UInt8), c ∉ x → (∀ y ∈ xs, c ∉ y) → splitA c acc (joinA c x xs) = (acc ++ x) :: xs := by
  induction xs with
  | nil =>
    intro acc x hx _
    have := splitA_free c x [] acc hx
    simp only [List.append_nil] at this
    simp only [joinA, List.flatMap_nil, List.append_nil]
    rw [this, splitA]
  | cons y ys ih =>
    intro acc x hx hy
    rw [joinA_cons, splitA_free c x _ acc hx, splitA, if_pos rfl, ih [] y (hy y (List.mem_cons_self ..)) (fun z hz => hy z (List.mem_cons_of_mem _ hz))]
    rfl
theorem splitA_back (c : UInt8) (s : List UInt8) : ∀ (acc : List UInt8), ∃ x xs, splitA c acc s = x :: xs ∧ acc ++ s = joinA c x xs := by
  induction s with
  | nil => intro acc; exact ⟨acc, [], rfl, by simp [joinA]⟩
  | cons x xs ih =>
    intro acc
    rw [splitA]
    by_cases h : x = c
    · obtain ⟨y, ys, e, hj⟩ := ih []
      rw [if_pos h]
      exact ⟨acc, _, rfl, by rw [e, joinA_cons, ← hj, h]; rfl⟩
    · obtain ⟨y, ys, e, hj⟩ := ih (acc ++ [x])
      rw [if_neg h]
      exact ⟨y, ys, e, by rw [← hj]; simp⟩
theorem index_at (c : UInt8) (r : List UInt8) : ∀ a : List UInt8, c ∉ a → Lib.index (a ++ c :: r) [c] = (a.length : Int) := by
  intro a
  induction a with
  | nil => intro _; simp [Lib.index, List.isPrefixOf]
  | cons x xs ih =>
    intro h
    have hx : ¬ c = x := fun e => h (by rw [e]; exact List.mem_cons_self ..)
    have hp : ([c] : List UInt8).isPrefixOf (x :: (xs ++ c :: r)) = false := by simp [List.isPrefixOf, hx]
    have hi := ih (fun e => h (List.mem_cons_of_mem _ e))
    rw [List.cons_append, Lib.index, hp, hi]
    have : ¬ ((xs.length : Int) == -1) = true := fun e => by have := beq_iff_eq.1 e; omega
    simp only [Bool.false_eq_true, if_false, List.length_cons]
    rw [if_neg this]
    omega
theorem splitK_join (c : UInt8) (xs : List (List UInt8)) : ∀ (x : List UInt8), c ∉ x → (∀ y ∈ xs, c ∉ y) → Lib.splitK [c] 0 xs.length (joinA c x xs) = x :: xs := by
  induction xs with
  | nil => intro x _ _; simp [Lib.splitK, joinA]
  | cons y ys ih =>
    intro x hx hy
    have hi := index_at c (joinA c y ys) x hx
    have hn : ¬ ((x.length : Int) == -1) = true := fun e => by have := beq_iff_eq.1 e; omega
    rw [joinA_cons, List.length_cons, Lib.splitK, hi, if_neg hn, show ((x.length : Int)).toNat = x.length by omega]
    have e1 : (x ++ c :: joinA c y ys).take (x.length + 0) = x := by simp
    have e2 : (x ++ c :: joinA c y ys).drop (x.length + [c].length) = joinA c y ys := by
      rw [List.length_singleton, ← List.drop_drop]
      simp
    rw [e1, e2, ih y (hy y (List.mem_cons_self ..)) (fun z hz => hy z (List.mem_cons_of_mem _ hz))]
theorem count_free (c : UInt8) (x : List UInt8) (h : c ∉ x) : x.count c = 0 := List.count_eq_zero.2 h
theorem count_join (c : UInt8) (xs : List (List UInt8)) : ∀ (x : List UInt8), c ∉ x → (∀ y ∈ xs, c ∉ y) → (joinA c x xs).count c = xs.length := by
  induction xs with
  | nil => intro x hx _; simp [joinA, count_free c x hx]
  | cons y ys ih =>
    intro x hx hy
    rw [joinA_cons, List.count_append, count_free c x hx, List.count_cons_self, ih y (hy y (List.mem_cons_self ..)) (fun z hz => hy z (List.mem_cons_of_mem _ hz)), List.length_cons]
    omega
theorem cut_join (c : UInt8) (a r : List UInt8) (h : c ∉ a) : Lib.cut (a ++ c :: r) [c] = (a, r, true) := by
  unfold Lib.cut
  rw [index_at c r a h, if_pos (by omega)]
  have e2 : (a ++ c :: r).drop (a.length + [c].length) = r := by
    rw [List.length_singleton, ← List.drop_drop]
    simp
  rw [show ((a.length : Int)).toNat = a.length by omega, e2]
  simp
end Go.Proofs.YthkepmicdpgbbaaDoor.Fn

/- What the printed functions that parse numbers come to. No memory is in sight here. -/
namespace Go.Proofs.YthkepmicdpgbbaaDoor.Fn
set_option linter.unusedVariables false
set_option linter.unusedSimpArgs false
open Go.RowKit Go.Proofs.YthkepmicdpgbbaaDoorW.PrintWords Go.Proofs.YthkepmicdpgbbaaDoor.P Go.Proofs.YthkepmicdpgbbaaDoor.Base

/-! ### digits -/
/-- The digits of a text from place i on, behind the number n. -/
def digits (s : ByteArray) : Nat → Int → Nat → Option Int
  | _, n, 0 => some n
  | i, n, d + 1 => if 48 ≤ bt s (i : Int) ∧ bt s (i : Int) ≤ 57 then digits s (i + 1) (10 * n + (bt s (i : Int) - 48)) d else none
def ofDigits (most : Int) : Option Int → Int × Bool
  | none => (0, false)
  | some n => if n > most then (0, false) else (n, true)
def parseNum (s : ByteArray) (most : Int) : Int × Bool :=
  if s.size = 0 ∨ 5 < s.size ∨ (1 < s.size ∧ bt s 0 = 48) ∨ 65535 < most then (0, false) else ofDigits most (digits s 0 0 s.size)
theorem spec_ParseNum_l0 (s : ByteArray) (most : Int) (hs : s.size ≤ 5) (d : Nat) : ∀ (i : Nat) (n : Int), i + d = s.size → 0 ≤ n → n < 10 ^ i → Ev (fun k => spec_ParseNum.l0 k s most n (i : Int)) (ofDigits most (digits s i n d)) := by
  induction d with
  | zero =>
    intro i n hi h0 h1
    refine Ev.step (fun k => spec_ParseNum.l0.eq_2 _ _ _ _ k) (Ev.neg (by omega) ?_)
    simp only [digits, ofDigits]
    by_cases h : n > most
    · exact Ev.pos h (Ev.done (if_pos h).symm)
    · exact Ev.neg h (Ev.done (if_neg h).symm)
  | succ d ih =>
    intro i n hi h0 h1
    refine Ev.step (fun k => spec_ParseNum.l0.eq_2 _ _ _ _ k) (Ev.pos (by omega) (Ev.pos (by omega) (Ev.then (l1In _ _ _) ?_)))
    have hb := bt_byte s (i : Int)
    have hp : (10 : Int) ^ (i + 1) = 10 * 10 ^ i := by rw [Int.pow_succ, Int.mul_comm]
    have hm : (10 : Int) ^ i ≤ 10 ^ 4 := by
      have := Nat.pow_le_pow_right (n := 10) (by decide) (show i ≤ 4 by omega)
      exact_mod_cast this
    rw [w64 (n := bt s (i : Int)) (by omega) (by omega)]
    simp only [digits]
    by_cases h : 48 ≤ bt s (i : Int) ∧ bt s (i : Int) ≤ 57
    · rw [if_pos h]
      refine Ev.pos (by simpa using h) ?_
      rw [Int.emod_eq_of_lt (a := bt s (i : Int) - 48) (by omega) (by omega), w64 (n := 10 * n) (by omega) (by omega), w64 (n := 10 * n + _) (by omega) (by omega), w64 (by omega) (by omega), cast_succ]
      exact ih (i + 1) _ (by omega) (by omega) (by rw [hp]; omega)
    · rw [if_neg h]
      exact Ev.neg (by simpa using h) (Ev.done rfl)
theorem impl_ParseNum_l0 (s : ByteArray) (most : Int) (hs : s.size ≤ 5) (d : Nat) : ∀ (i : Nat) (n : Int), i + d = s.size → 0 ≤ n → n < 10 ^ i → Ev (fun k => impl_ParseNum.l0 k s most n (s.size : Int) (i : Int)) (ofDigits most (digits s i n d)) := by
  induction d with
  | zero =>
    intro i n hi h0 h1
    refine Ev.step (fun k => impl_ParseNum.l0.eq_2 _ _ _ _ _ k) (Ev.neg (by omega) ?_)
    simp only [digits, ofDigits]
    by_cases h : n > most
    · exact Ev.pos h (Ev.done (if_pos h).symm)
    · exact Ev.neg h (Ev.done (if_neg h).symm)
  | succ d ih =>
    intro i n hi h0 h1
    refine Ev.step (fun k => impl_ParseNum.l0.eq_2 _ _ _ _ _ k) (Ev.pos (by omega) (Ev.pos (by omega) (Ev.pos (by omega) ?_)))
    have hb := bt_byte s (i : Int)
    have hp : (10 : Int) ^ (i + 1) = 10 * 10 ^ i := by rw [Int.pow_succ, Int.mul_comm]
    have hm : (10 : Int) ^ i ≤ 10 ^ 4 := by
      have := Nat.pow_le_pow_right (n := 10) (by decide) (show i ≤ 4 by omega)
      exact_mod_cast this
    simp only [digits]
    by_cases h1' : bt s (i : Int) < 48
    · rw [if_neg (by omega)]; exact Ev.pos h1' (Ev.done rfl)
    · refine Ev.neg h1' ?_
      by_cases h2 : bt s (i : Int) > 57
      · rw [if_neg (by omega)]; exact Ev.pos h2 (Ev.done rfl)
      · rw [if_pos (by omega)]
        refine Ev.neg h2 ?_
        rw [Int.emod_eq_of_lt (a := bt s (i : Int) - 48) (by omega) (by omega), w64 (n := 10 * n) (by omega) (by omega), w64 (n := 10 * n + _) (by omega) (by omega), w64 (by omega) (by omega), cast_succ]
        exact ih (i + 1) _ (by omega) (by omega) (by rw [hp]; omega)
theorem spec_parseNum (s : ByteArray) (most : Int) : Ev (fun k => spec_ParseNum.f k s most) (parseNum s most) := by
  unfold spec_ParseNum.f parseNum
  have bad : ∀ b : Bool, b = true → Ev (fun k => spec_ParseNum.j0 k s most b) (0, false) := fun b hb => Ev.step (fun k => spec_ParseNum.j0.eq_2 _ _ _ k) (Ev.pos hb (Ev.done rfl))
  by_cases h0 : s.size = 0
  · rw [if_pos (.inl h0)]; exact Ev.pos (by omega) (bad _ rfl)
  refine Ev.neg (by omega) ?_
  by_cases h1 : 5 < s.size
  · rw [if_pos (.inr (.inl h1))]; exact Ev.pos (by omega) (bad _ rfl)
  refine Ev.neg (by omega) ?_
  have fin : ¬ (1 < s.size ∧ bt s 0 = 48) → Ev (fun k => spec_ParseNum.j0 k s most (decide (most > 65535))) (if s.size = 0 ∨ 5 < s.size ∨ (1 < s.size ∧ bt s 0 = 48) ∨ 65535 < most then (0, false) else ofDigits most (digits s 0 0 s.size)) := by
    intro hn
    by_cases h2 : 65535 < most
    · rw [if_pos (.inr (.inr (.inr h2)))]; exact bad _ (by simpa using h2)
    · rw [if_neg (by omega)]
      exact Ev.step (fun k => spec_ParseNum.j0.eq_2 _ _ _ k) (Ev.neg (by simpa using h2) (spec_ParseNum_l0 s most (by omega) s.size 0 0 (by omega) (by omega) (by decide)))
  by_cases h3 : 1 < s.size
  · refine Ev.pos (by omega) (Ev.pos (by omega) ?_)
    by_cases h4 : bt s 0 = 48
    · rw [if_pos (.inr (.inr (.inl ⟨h3, h4⟩)))]; exact Ev.pos h4 (bad _ rfl)
    · exact Ev.neg h4 (fin (fun h => h4 h.2))
  · exact Ev.neg (by omega) (fin (fun h => h3 h.1))
theorem impl_parseNum (s : ByteArray) (most : Int) : Ev (fun k => impl_ParseNum.f k s most) (parseNum s most) := by
  unfold impl_ParseNum.f parseNum
  have bad : ∀ b : Bool, b = true → Ev (fun k => impl_ParseNum.j0 k s most b) (0, false) := fun b hb => Ev.step (fun k => impl_ParseNum.j0.eq_2 _ _ _ k) (Ev.pos hb (Ev.done rfl))
  by_cases h2 : most > 65535
  · rw [if_pos (.inr (.inr (.inr h2)))]; exact Ev.pos h2 (bad _ rfl)
  refine Ev.neg h2 (Ev.then (isIn _ _ _) ?_)
  by_cases h0 : s.size = 0
  · rw [if_pos (.inl h0)]; exact Ev.neg (by simp; omega) (bad _ rfl)
  by_cases h1 : 5 < s.size
  · rw [if_pos (.inr (.inl h1))]; exact Ev.neg (by simp; omega) (bad _ rfl)
  refine Ev.pos (by simp; omega) ?_
  have fin : ∀ b : Bool, b = false → ¬ (1 < s.size ∧ bt s 0 = 48) → Ev (fun k => impl_ParseNum.j0 k s most b) (if s.size = 0 ∨ 5 < s.size ∨ (1 < s.size ∧ bt s 0 = 48) ∨ 65535 < most then (0, false) else ofDigits most (digits s 0 0 s.size)) := by
    intro b hb hn
    rw [if_neg (by omega)]
    exact Ev.step (fun k => impl_ParseNum.j0.eq_2 _ _ _ k) (Ev.neg (by simpa using hb) (impl_ParseNum_l0 s most (by omega) s.size 0 0 (by omega) (by omega) (by decide)))
  by_cases h3 : 1 < s.size
  · refine Ev.pos (by omega) (Ev.pos (by omega) ?_)
    by_cases h4 : bt s 0 = 48
    · rw [if_pos (.inr (.inr (.inl ⟨h3, h4⟩)))]; exact bad _ (by simpa using h4)
    · exact fin _ (by simpa using h4) (fun h => h4 h.2)
  · exact Ev.neg (by omega) (fin _ rfl (fun h => h3 h.1))

end Go.Proofs.YthkepmicdpgbbaaDoor.Fn

/- Numerals are read as what they were written from, and the other way round. -/
namespace Go.Proofs.YthkepmicdpgbbaaDoor.Fn
set_option linter.unusedVariables false
set_option linter.unusedSimpArgs false
open Go.RowKit Go.Proofs.YthkepmicdpgbbaaDoorW.PrintWords Go.Proofs.YthkepmicdpgbbaaDoor.P Go.Proofs.YthkepmicdpgbbaaDoor.Base

def isDig (c : UInt8) : Prop := 48 ≤ c.toNat ∧ c.toNat ≤ 57
instance (c : UInt8) : Decidable (isDig c) := inferInstanceAs (Decidable (_ ∧ _))
/-- The number that a list of digits is, behind n. -/
def foldDig : Int → List UInt8 → Option Int
  | n, [] => some n
  | n, c :: cs => if isDig c then foldDig (10 * n + ((c.toNat : Int) - 48)) cs else none
theorem foldDig_snoc (xs : List UInt8) (c : UInt8) : ∀ n, foldDig n (xs ++ [c]) = (foldDig n xs).bind fun m => if isDig c then some (10 * m + ((c.toNat : Int) - 48)) else none := by
  induction xs with
  | nil => intro n; simp [foldDig]
  | cons x xs ih =>
    intro n
    simp only [List.cons_append, foldDig]
    by_cases h : isDig x
    · rw [if_pos h, if_pos h, ih]
    · rw [if_neg h, if_neg h]; rfl
theorem bt_ba (L : List UInt8) (i : Nat) (h : i < L.length) : bt (ba L) (i : Int) = (L[i].toNat : Int) := by
  have hs : i < ({ data := L.toArray } : ByteArray).size := h
  have e : bt (ba L) (i : Int) = if h : i < ({ data := L.toArray } : ByteArray).size then ((({ data := L.toArray } : ByteArray)[i]).toNat : Int) else 0 := by
    first
      | rfl
      | simp [bt, ba]
  rw [e, dif_pos hs]
  rfl
theorem digits_fold (L : List UInt8) (d : Nat) : ∀ (i : Nat) (n : Int), i + d = L.length → digits (ba L) i n d = foldDig n (L.drop i) := by
  induction d with
  | zero =>
    intro i n hi
    rw [List.drop_of_length_le (by omega)]
    rfl
  | succ d ih =>
    intro i n hi
    rw [List.drop_eq_getElem_cons (by omega), digits, foldDig, bt_ba L i (by omega)]
    by_cases h : isDig L[i]
    · have h2 : (48 : Int) ≤ (L[i].toNat : Int) ∧ (L[i].toNat : Int) ≤ 57 := by have := h.1; have := h.2; omega
      rw [if_pos h2, if_pos h, ih (i + 1) _ (by omega)]
    · have h2 : ¬ ((48 : Int) ≤ (L[i].toNat : Int) ∧ (L[i].toNat : Int) ≤ 57) := fun e => h ⟨by omega, by omega⟩
      rw [if_neg h2, if_neg h]
theorem dig_toNat (m : Nat) (h : m < 10) : (UInt8.ofNat (48 + m)).toNat = 48 + m := by
  rw [UInt8.toNat_ofNat']
  omega
theorem fold_dec (m : Nat) : foldDig 0 (Lib.decDigits m) = some (m : Int) := by
  induction m using Nat.strongRecOn with
  | ind m ih =>
    rw [Lib.decDigits]
    by_cases h : m < 10
    · rw [dif_pos h, foldDig, if_pos ⟨by rw [dig_toNat m h]; omega, by rw [dig_toNat m h]; omega⟩, dig_toNat m h, foldDig]
      congr 1
      omega
    · have hm : m % 10 < 10 := Nat.mod_lt _ (by decide)
      rw [dif_neg h, foldDig_snoc, ih (m / 10) (by omega), Option.bind_some, if_pos ⟨by rw [dig_toNat _ hm]; omega, by rw [dig_toNat _ hm]; omega⟩, dig_toNat _ hm]
      congr 1
      omega
theorem dec_head (m : Nat) (h : 1 ≤ m) : ∃ c cs, Lib.decDigits m = c :: cs ∧ c.toNat ≠ 48 := by
  induction m using Nat.strongRecOn with
  | ind m ih =>
    rw [Lib.decDigits]
    by_cases h10 : m < 10
    · rw [dif_pos h10]
      exact ⟨_, _, rfl, by rw [dig_toNat m h10]; omega⟩
    · obtain ⟨c, cs, e, hc⟩ := ih (m / 10) (by omega) (by omega)
      rw [dif_neg h10, e]
      exact ⟨c, _, rfl, hc⟩
theorem dec_length_pos (m : Nat) : 1 ≤ (Lib.decDigits m).length := by
  rw [Lib.decDigits]
  split <;> simp
theorem dec_length (d : Nat) : ∀ (m : Nat), (Lib.decDigits m).length ≤ d + 1 ↔ m < 10 ^ (d + 1) := by
  induction d with
  | zero =>
    intro m
    rw [Lib.decDigits]
    by_cases h : m < 10
    · rw [dif_pos h]; simp; omega
    · have := dec_length_pos (m / 10)
      rw [dif_neg h, List.length_append, List.length_singleton]; omega
  | succ d ih =>
    intro m
    rw [Lib.decDigits]
    have hp : 10 ^ (d + 1 + 1) = 10 ^ (d + 1) * 10 := Nat.pow_succ ..
    have h1 : 1 ≤ 10 ^ (d + 1) := Nat.one_le_pow _ _ (by decide)
    by_cases h : m < 10
    · rw [dif_pos h]; simp only [List.length_singleton]; omega
    · rw [dif_neg h, List.length_append, List.length_singleton]
      have := ih (m / 10)
      omega
theorem fold_inv (n : Nat) : ∀ (L : List UInt8), L.length = n → L ≠ [] → (∀ c cs, L = c :: cs → cs = [] ∨ c.toNat ≠ 48) → ∀ z, foldDig 0 L = some z → 0 ≤ z ∧ Lib.decDigits z.toNat = L ∧ ((∀ c cs, L = c :: cs → c.toNat ≠ 48) → 1 ≤ z) := by
  induction n with
  | zero => intro L hl hne; exact absurd (List.eq_nil_of_length_eq_zero hl) hne
  | succ n ih0 =>
  intro L hl hne hh z hz
  obtain ⟨xs, c, rfl⟩ : ∃ xs c, L = xs ++ [c] := ⟨L.dropLast, L.getLast hne, (List.dropLast_concat_getLast hne).symm⟩
  have ih := ih0 xs (by simpa using hl)
  rw [foldDig_snoc] at hz
  by_cases hx : xs = []
  · subst hx
    simp only [foldDig, Option.bind_some] at hz
    by_cases hd : isDig c
    · rw [if_pos hd] at hz
      obtain rfl := Option.some.inj hz
      obtain ⟨h1, h2⟩ := hd
      refine ⟨by omega, ?_, fun hne => by have := hne c [] rfl; omega⟩
      have e : (10 * 0 + ((c.toNat : Int) - 48)).toNat = c.toNat - 48 := by omega
      rw [e, Lib.decDigits, dif_pos (by omega), show 48 + (c.toNat - 48) = c.toNat by omega]
      simp
    · rw [if_neg hd] at hz; cases hz
  · cases hf : foldDig 0 xs with
    | none => rw [hf] at hz; cases hz
    | some v =>
      rw [hf, Option.bind_some] at hz
      by_cases hd : isDig c
      · rw [if_pos hd] at hz
        obtain rfl := Option.some.inj hz
        obtain ⟨x, xs', rfl⟩ := List.exists_cons_of_ne_nil hx
        have hx0 : x.toNat ≠ 48 := (hh x (xs' ++ [c]) rfl).resolve_left (by simp)
        obtain ⟨h0, he, h1⟩ := ih hx (fun c' cs' e => by injection e with e1 e2; subst e1; exact .inr hx0) v hf
        have hv := h1 (fun c' cs' e => by injection e with e1 e2; subst e1; exact hx0)
        obtain ⟨d1, d2⟩ := hd
        refine ⟨by omega, ?_, fun _ => by omega⟩
        have e : (10 * v + ((c.toNat : Int) - 48)).toNat = 10 * v.toNat + (c.toNat - 48) := by omega
        rw [e, Lib.decDigits, dif_neg (by omega), show (10 * v.toNat + (c.toNat - 48)) / 10 = v.toNat by omega, show (10 * v.toNat + (c.toNat - 48)) % 10 = c.toNat - 48 by omega, he, show 48 + (c.toNat - 48) = c.toNat by omega]
        simp
      · rw [if_neg hd] at hz; cases hz
end Go.Proofs.YthkepmicdpgbbaaDoor.Fn

/- Numerals are read as the numbers that they were written from, up to any most, and the other way round. -/
namespace Go.Proofs.YthkepmicdpgbbaaDoor.Fn
set_option linter.unusedVariables false
set_option linter.unusedSimpArgs false
open Go.RowKit Go.Proofs.YthkepmicdpgbbaaDoorW.PrintWords Go.Proofs.YthkepmicdpgbbaaDoor.P Go.Proofs.YthkepmicdpgbbaaDoor.Base

theorem parse_num (n : Nat) (most : Int) (h : (n : Int) ≤ most) (hm : most ≤ 65535) : parseNum (ba (Lib.itoa (n : Int))) most = ((n : Int), true) := by
  unfold parseNum
  have hi : Lib.itoa (n : Int) = Lib.decDigits n := by rw [Lib.itoa, if_neg (by omega), Int.toNat_natCast]
  have hd : digits (ba (Lib.decDigits n)) 0 0 (Lib.decDigits n).length = some (n : Int) := by
    rw [digits_fold _ _ 0 0 (by omega), List.drop_zero, fold_dec]
  have hp : (10 : Nat) ^ (4 + 1) = 100000 := by decide
  have hlen := (dec_length 4 n).2 (by rw [hp]; omega)
  have hpos := dec_length_pos n
  rw [hi, ba_size, hd]
  have hhead : ¬ (1 < (Lib.decDigits n).length ∧ bt (ba (Lib.decDigits n)) 0 = 48) := by
    rintro ⟨h1, h2⟩
    have hn : 1 ≤ n := by
      rcases Nat.eq_zero_or_pos n with h | h
      · subst h; rw [Lib.decDigits, dif_pos (by decide)] at h1; simp at h1
      · exact h
    obtain ⟨c, cs, e, hc⟩ := dec_head n hn
    have hb := bt_ba (Lib.decDigits n) 0 (by omega)
    rw [show ((0 : Nat) : Int) = 0 from rfl] at hb
    rw [hb] at h2
    have : (Lib.decDigits n)[0] = c := by simp [e]
    rw [this] at h2
    omega
  rw [if_neg (by omega), ofDigits, if_neg (by omega)]
theorem parse_back (u : ByteArray) (most : Int) (h : (parseNum u most).2 = true) : 0 ≤ (parseNum u most).1 ∧ (parseNum u most).1 ≤ most ∧ ba (Lib.itoa (parseNum u most).1) = u := by
  unfold parseNum at h ⊢
  split at h
  · simp at h
  · rename_i hc
    rw [if_neg hc]
    have hu := ba_of u
    have hsz : u.size = u.data.toList.length := rfl
    have hdig : digits u 0 0 u.size = foldDig 0 u.data.toList := by
      conv => lhs; rw [hu, ba_size]
      rw [digits_fold _ _ 0 0 (by omega), List.drop_zero]
    rw [hdig] at h ⊢
    cases hf : foldDig 0 u.data.toList with
    | none => rw [hf] at h; simp [ofDigits] at h
    | some z =>
      rw [hf] at h
      simp only [ofDigits] at h ⊢
      by_cases hz : z > most
      · rw [if_pos hz] at h; simp at h
      · rw [if_neg hz]
        have hne : u.data.toList ≠ [] := fun e => hc (.inl (by rw [hsz, e]; rfl))
        obtain ⟨z0, hd, _⟩ := fold_inv _ u.data.toList rfl hne (by
          intro c cs e
          by_cases hcs : cs = []
          · exact .inl hcs
          · refine .inr fun h48 => hc (.inr (.inr (.inl ⟨?_, ?_⟩)))
            · rw [hsz, e]
              have := List.length_pos_iff.2 hcs
              simp only [List.length_cons]; omega
            · have hb := bt_ba u.data.toList 0 (by rw [e]; simp)
              rw [← hu, show ((0 : Nat) : Int) = 0 from rfl] at hb
              rw [hb]
              have : u.data.toList[0]'(by rw [e]; simp) = c := by simp [e]
              rw [this, h48]
              rfl) z hf
        refine ⟨z0, by dsimp only; omega, ?_⟩
        dsimp only
        rw [Lib.itoa, if_neg (by omega), hd]
        exact hu.symm
theorem dec_digs (m : Nat) : ∀ c ∈ Lib.decDigits m, 48 ≤ c.toNat ∧ c.toNat ≤ 57 := by
  induction m using Nat.strongRecOn with
  | ind m ih =>
    intro c hc
    rw [Lib.decDigits] at hc
    by_cases h : m < 10
    · rw [dif_pos h, List.mem_singleton] at hc
      rw [hc, dig_toNat m h]; omega
    · have hm : m % 10 < 10 := Nat.mod_lt _ (by decide)
      rw [dif_neg h, List.mem_append, List.mem_singleton] at hc
      rcases hc with hc | hc
      · exact ih (m / 10) (by omega) c hc
      · rw [hc, dig_toNat _ hm]; omega
theorem num_free (n : Int) (h : 0 ≤ n) (c : UInt8) (hc : c.toNat < 48 ∨ 57 < c.toNat) : c ∉ Lib.itoa n := by
  intro hm
  rw [Lib.itoa, if_neg (by omega)] at hm
  have := dec_digs _ c hm
  omega
theorem itoa_two (n : Int) (h0 : 0 ≤ n) (h1 : n ≤ 99) : (Lib.itoa n).length ≤ 2 ∧ 1 ≤ (Lib.itoa n).length := by
  rw [Lib.itoa, if_neg (by omega)]
  exact ⟨(dec_length 1 n.toNat).2 (by have hp : (10 : Nat) ^ (1 + 1) = 100 := by decide
                                      rw [hp]; omega), dec_length_pos _⟩
end Go.Proofs.YthkepmicdpgbbaaDoor.Fn

/- What the printed functions that read a configuration come to. -/
namespace Go.Proofs.YthkepmicdpgbbaaDoor.Fn
set_option linter.unusedVariables false
set_option linter.unusedSimpArgs false
open Go.RowKit Go.Proofs.YthkepmicdpgbbaaDoorW.PrintWords Go.Proofs.YthkepmicdpgbbaaDoor.P Go.Proofs.YthkepmicdpgbbaaDoor.Base

/-! ### what a configuration's text is made of -/
theorem name_bytes {s : ByteArray} (h : nameOk s = true) : ∀ c ∈ s.data.toList, 97 ≤ c.toNat ∧ c.toNat ≤ 122 := by
  intro c hc
  obtain ⟨i, hi, rfl⟩ := List.getElem_of_mem hc
  have hb := bt_ba s.data.toList i hi
  rw [← ba_of s] at hb
  have := ((nameOk_iff s).1 h).2 i hi
  omega
def restL (x : Db) : List UInt8 := joinA 47 (Lib.itoa x.f1) [Lib.itoa x.f2, Lib.itoa x.f3, Lib.itoa x.f4]
theorem item_rest (x : Db) : itemL x = x.f0.data.toList ++ 58 :: restL x := by simp [itemL, restL, joinA]
theorem item_join (x : Db) : itemL x = joinA 58 x.f0.data.toList [restL x] := by rw [item_rest]; simp [joinA]
def Pos4 (x : Db) : Prop := 0 ≤ x.f1 ∧ 0 ≤ x.f2 ∧ 0 ≤ x.f3 ∧ 0 ≤ x.f4
theorem dbOk_pos {x : Db} (h : dbOk x = true) : Pos4 x := by
  obtain ⟨_, h1, h2, h3, h4⟩ := dbOk_of h
  exact ⟨by omega, by omega, by omega, by omega⟩
theorem rest_free {x : Db} (h : Pos4 x) (c : UInt8) (hc : 57 < c.toNat) : c ∉ restL x := by
  obtain ⟨h1, h2, h3, h4⟩ := h
  intro hm
  have n1 := num_free _ h1 c (.inr hc)
  have n2 := num_free _ h2 c (.inr hc)
  have n3 := num_free _ h3 c (.inr hc)
  have n4 := num_free _ h4 c (.inr hc)
  have ne : ¬ c = 47 := fun e => by rw [e] at hc; revert hc; decide
  simp only [restL, joinA, List.flatMap_cons, List.flatMap_nil, List.mem_append, List.mem_cons, List.append_nil, List.cons_append] at hm
  simp only [n1, n2, n3, n4, ne, false_or, or_false] at hm
theorem rest_split {x : Db} (h : Pos4 x) : splitA 47 [] (restL x) = [Lib.itoa x.f1, Lib.itoa x.f2, Lib.itoa x.f3, Lib.itoa x.f4] := by
  obtain ⟨h1, h2, h3, h4⟩ := h
  rw [restL, splitA_join 47 _ _ _ (num_free _ h1 47 (.inl (by decide))) (by
    intro y hy
    simp only [List.mem_cons, List.not_mem_nil, or_false] at hy
    rcases hy with rfl | rfl | rfl
    · exact num_free _ h2 47 (.inl (by decide))
    · exact num_free _ h3 47 (.inl (by decide))
    · exact num_free _ h4 47 (.inl (by decide)))]
  rfl
theorem name_free {x : Db} (h : dbOk x = true) (c : UInt8) (hc : c.toNat < 97) : c ∉ x.f0.data.toList := by
  intro hm
  unfold dbOk at h
  simp only [Bool.and_eq_true] at h
  have := name_bytes h.1 c hm
  omega
theorem item_split {x : Db} (h : dbOk x = true) : splitA 58 [] (itemL x) = [x.f0.data.toList, restL x] := by
  rw [item_join, splitA_join 58 _ _ _ (name_free h 58 (by decide)) (by
    intro y hy
    simp only [List.mem_cons, List.not_mem_nil, or_false] at hy
    subst hy
    exact rest_free (dbOk_pos h) 58 (by decide))]
  rfl
theorem item_free {x : Db} (h : dbOk x = true) : (59 : UInt8) ∉ itemL x := by
  have n1 := name_free h 59 (by decide)
  have n2 := rest_free (dbOk_pos h) 59 (by decide)
  rw [item_rest]
  intro hm
  simp only [List.mem_append, List.mem_cons, n1, n2, false_or, or_false] at hm
  revert hm
  decide
theorem itemL_short {x : Db} (h : dbOk x = true) : (itemL x).length ≤ 20 ∧ 1 ≤ (itemL x).length := by
  obtain ⟨hn, h1, h2, h3, h4⟩ := dbOk_of h
  have e1 := itoa_two x.f1 (by omega) (by omega)
  have e2 := itoa_two x.f2 (by omega) (by omega)
  have e3 := itoa_two x.f3 (by omega) (by omega)
  have e4 := itoa_two x.f4 (by omega) (by omega)
  have e0 : x.f0.data.toList.length = x.f0.size := rfl
  simp only [itemL, List.length_append, List.length_singleton, e0]
  omega
theorem conf_cons {l : List Db} (h : confFrom l 0 l.length = true) : ∃ x xs, l = x :: xs ∧ xs.length ≤ 2 ∧ ∀ y ∈ l, dbOk y = true := by
  obtain ⟨h3, hall⟩ := confFrom_all l l.length 0 (by omega) h
  have hm : ∀ y ∈ l, dbOk y = true := by
    intro y hy
    obtain ⟨j, hj, rfl⟩ := List.getElem_of_mem hy
    exact hall j hj (by omega)
  cases l with
  | nil => simp [confFrom] at h
  | cons x xs => exact ⟨x, xs, rfl, by simp only [List.length_cons] at h3; omega, hm⟩
theorem confText_join (x : Db) (xs : List Db) (h : confFrom (x :: xs) 0 (x :: xs).length = true) : confText (x :: xs) = ba (joinA 59 (itemL x) (xs.map itemL)) := by
  unfold confText
  rw [if_pos h, confAcc, if_pos rfl, show (⟨#[]⟩ : ByteArray) = ba [] from rfl, ba_append, List.nil_append, confAcc_eq _ _ _ (by omega), joinA, List.flatMap_map]
theorem conf_split {l : List Db} (h : confFrom l 0 l.length = true) : splitA 59 [] (confText l).data.toList = l.map itemL := by
  obtain ⟨x, xs, rfl, _, hall⟩ := conf_cons h
  rw [confText_join x xs h, show (ba (joinA 59 (itemL x) (xs.map itemL))).data.toList = joinA 59 (itemL x) (xs.map itemL) by simp [ba], splitA_join 59 _ _ _ (item_free (hall x (List.mem_cons_self ..))) (by
    intro y hy
    obtain ⟨z, hz, rfl⟩ := List.mem_map.1 hy
    exact item_free (hall z (List.mem_cons_of_mem _ hz)))]
  rfl
theorem confText_size {l : List Db} (h : confFrom l 0 l.length = true) : 1 ≤ (confText l).size ∧ (confText l).size ≤ 100 := by
  obtain ⟨x, xs, rfl, h2, hall⟩ := conf_cons h
  rw [confText_join x xs h, ba_size, joinA, List.length_append]
  have hx := itemL_short (hall x (List.mem_cons_self ..))
  have b : ∀ ys : List Db, (∀ y ∈ ys, dbOk y = true) → ((ys.map itemL).flatMap (fun y => (59 : UInt8) :: y)).length ≤ 21 * ys.length := by
    intro ys
    induction ys with
    | nil => intro _; simp
    | cons y ys ih =>
      intro hy
      have := ih (fun z hz => hy z (List.mem_cons_of_mem _ hz))
      have h1 := itemL_short (hy y (List.mem_cons_self ..))
      simp only [List.map_cons, List.flatMap_cons, List.length_append, List.length_cons]
      omega
  have := b xs (fun y hy => hall y (List.mem_cons_of_mem _ hy))
  omega
/-! ### a configuration out of its pieces -/
noncomputable def parsed (q : List UInt8) : Option Int := if (parseNum (ba q) 99).2 = true then some (parseNum (ba q) 99).1 else none
theorem parsed_num {n : Int} (h0 : 0 ≤ n) (h1 : n ≤ 99) : parsed (Lib.itoa n) = some n := by
  obtain ⟨m, rfl⟩ := Int.eq_ofNat_of_zero_le h0
  rw [parsed, parse_num m 99 h1 (by omega), if_pos rfl]
theorem parsed_back {q : List UInt8} {n : Int} (h : parsed q = some n) : Lib.itoa n = q := by
  unfold parsed at h
  split at h
  · rename_i hp
    have e := (parse_back _ _ hp).2.2
    obtain rfl := Option.some.inj h
    have := congrArg (fun b : ByteArray => b.data.toList) e
    simpa [ba] using this
  · cases h
noncomputable def numsOf (a : List UInt8) : List (List UInt8) → Option Db
  | [q0, q1, q2, q3] => (parsed q0).bind fun n0 => (parsed q1).bind fun n1 => (parsed q2).bind fun n2 => (parsed q3).bind fun n3 => some ⟨ba a, n0, n1, n2, n3⟩
  | _ => none
noncomputable def partsOf : List (List UInt8) → Option Db
  | [a, b] => numsOf a (splitA 47 [] b)
  | _ => none
noncomputable def itemOf (p : List UInt8) : Option Db := partsOf (splitA 58 [] p)
noncomputable def itemsOf : List (List UInt8) → Option (List Db)
  | [] => some []
  | p :: ps => (itemOf p).bind fun x => (itemsOf ps).bind fun xs => some (x :: xs)
theorem itemOf_item {x : Db} (h : dbOk x = true) : itemOf (itemL x) = some x := by
  obtain ⟨hn, h1, h2, h3, h4⟩ := dbOk_of h
  rw [itemOf, item_split h, partsOf, rest_split (dbOk_pos h), numsOf, parsed_num (by omega) (by omega), parsed_num (by omega) (by omega), parsed_num (by omega) (by omega), parsed_num (by omega) (by omega)]
  simp only [Option.bind_some]
  rw [← ba_of]
theorem itemOf_back {p : List UInt8} {x : Db} (h : itemOf p = some x) : itemL x = p := by
  unfold itemOf at h
  obtain ⟨a, us, e, hj⟩ := splitA_back 58 p []
  rw [e] at h
  rcases us with _ | ⟨b, _ | ⟨c, cs⟩⟩
  · cases h
  · obtain ⟨q0, qs, e2, hj2⟩ := splitA_back 47 b []
    rw [partsOf, e2] at h
    rcases qs with _ | ⟨q1, _ | ⟨q2, _ | ⟨q3, _ | ⟨q4, qs⟩⟩⟩⟩
    · cases h
    · cases h
    · cases h
    · rw [numsOf] at h
      simp only [Option.bind_eq_some_iff] at h
      obtain ⟨n0, p0, n1, p1, n2, p2, n3, p3, hx⟩ := h
      obtain rfl := Option.some.inj hx
      rw [item_join, restL]
      simp only
      rw [parsed_back p0, parsed_back p1, parsed_back p2, parsed_back p3, ← hj2, List.nil_append]
      rw [List.nil_append] at hj
      rw [hj]
      simp [ba]
    · cases h
  · cases h
theorem itemsOf_items : ∀ (l : List Db), (∀ x ∈ l, dbOk x = true) → itemsOf (l.map itemL) = some l
  | [], _ => rfl
  | x :: xs, h => by
    rw [List.map_cons, itemsOf, itemOf_item (h x (List.mem_cons_self ..)), itemsOf_items xs (fun y hy => h y (List.mem_cons_of_mem _ hy))]
    rfl
theorem itemsOf_back : ∀ (ps : List (List UInt8)) (l : List Db), itemsOf ps = some l → l.map itemL = ps
  | [], l, h => by obtain rfl := Option.some.inj h; rfl
  | p :: ps, l, h => by
    rw [itemsOf] at h
    simp only [Option.bind_eq_some_iff] at h
    obtain ⟨x, hx, xs, hxs, he⟩ := h
    obtain rfl := Option.some.inj he
    rw [List.map_cons, itemOf_back hx, itemsOf_back ps xs hxs]
noncomputable def confFin : Option (List Db) → List Db × Bool
  | some l => if confFrom l 0 l.length = true then (l, true) else ([], false)
  | none => ([], false)
noncomputable def parseConf (s : ByteArray) : List Db × Bool := confFin (itemsOf (splitA 59 [] s.data.toList))
theorem parseConf_text {l : List Db} (h : confFrom l 0 l.length = true) : parseConf (confText l) = (l, true) := by
  obtain ⟨x, xs, rfl, _, hall⟩ := conf_cons h
  rw [parseConf, conf_split h, itemsOf_items _ hall, confFin, if_pos h]
theorem parseConf_back (s : ByteArray) : parseConf s = ([], false) ∨ ∃ l, parseConf s = (l, true) ∧ confFrom l 0 l.length = true ∧ confText l = s := by
  unfold parseConf
  cases h : itemsOf (splitA 59 [] s.data.toList) with
  | none => exact .inl rfl
  | some l =>
    by_cases hc : confFrom l 0 l.length = true
    · refine .inr ⟨l, by rw [confFin, if_pos hc], hc, ?_⟩
      have e := itemsOf_back _ _ h
      obtain ⟨x, xs, rfl, _, hall⟩ := conf_cons hc
      obtain ⟨y, ys, e2, hj⟩ := splitA_back 59 s.data.toList []
      rw [e2, List.map_cons] at e
      injection e with e3 e4
      rw [confText_join x xs hc, e3, e4, ← hj, List.nil_append]
      exact (ba_of s).symm
    · exact .inl (by rw [confFin, if_neg hc])
theorem parseConf_long {s : ByteArray} (h : 100 < s.size) : parseConf s = ([], false) := by
  rcases parseConf_back s with h' | ⟨l, _, hc, rfl⟩
  · exact h'
  · have := confText_size hc; omega
/-! ### the reference -/
theorem extract_ba (s : ByteArray) (a b : Nat) : s.extract a b = ba ((s.data.toList.drop a).take (b - a)) := by
  rw [← Lib.extract_data]
  exact ba_of _
theorem spec_l3Split_l0 (s : ByteArray) (hs : s.size ≤ 1048576) (c : UInt8) (d : Nat) : ∀ (i fr : Nat) (out : List ByteArray), i + d = s.size → fr ≤ i → out.length ≤ i →
    Ev (fun k => spec_l3Split.l0 k s (c.toNat : Int) out (fr : Int) (i : Int)) (out ++ (splitA c ((s.data.toList.drop fr).take (i - fr)) (s.data.toList.drop i)).map ba) := by
  have hL : s.data.toList.length = s.size := rfl
  induction d with
  | zero =>
    intro i fr out hi hf ho
    refine Ev.step (fun k => spec_l3Split.l0.eq_2 _ _ _ _ _ k) (Ev.pos (by omega) (Ev.pos (by omega) (Ev.pos (by omega) (Ev.pos (by omega) (Ev.pos (by omega) ?_)))))
    rw [w64 (n := (i : Int) + 1) (by omega) (by omega), cast_succ]
    refine Ev.step (fun k => spec_l3Split.l0.eq_2 _ _ _ _ _ k) (Ev.neg (by omega) (Ev.done ?_))
    rw [List.drop_of_length_le (l := s.data.toList) (i := i) (by omega), splitA, Int.toNat_natCast, Int.toNat_natCast, extract_ba]
    rfl
  | succ d ih =>
    intro i fr out hi hf ho
    have hlt : i < s.data.toList.length := by omega
    have hb := bt_ba s.data.toList i hlt
    rw [← ba_of s] at hb
    refine Ev.step (fun k => spec_l3Split.l0.eq_2 _ _ _ _ _ k) (Ev.pos (by omega) (Ev.neg (by omega) (Ev.pos (by omega) (Ev.pos (by omega) ?_))))
    rw [w64 (n := (i : Int) + 1) (by omega) (by omega), cast_succ, List.drop_eq_getElem_cons hlt, splitA]
    by_cases h : s.data.toList[i] = c
    · refine Ev.pos (by rw [hb, h]) (Ev.pos (by omega) (Ev.pos (by omega) (Ev.pos (by omega) ?_)))
      rw [Int.toNat_natCast, Int.toNat_natCast, extract_ba, if_pos h]
      refine Ev.eq (ih (i + 1) (i + 1) _ (by omega) (by omega) (by simp; omega)) ?_
      rw [Nat.sub_self, List.take_zero, List.map_cons, List.append_assoc]
      rfl
    · have hne : ¬ bt s (i : Int) = (c.toNat : Int) := by
        rw [hb]
        intro e
        exact h (UInt8.toNat_inj.1 (by omega))
      refine Ev.neg hne ?_
      rw [if_neg h]
      refine Ev.eq (ih (i + 1) fr _ (by omega) (by omega) (by omega)) ?_
      rw [show i + 1 - fr = (i - fr) + 1 by omega, List.take_succ_eq_append_getElem (by rw [List.length_drop]; omega), List.getElem_drop]
      have e : s.data.toList[fr + (i - fr)]'(by omega) = s.data.toList[i] := by congr 1; omega
      rw [e]
theorem spec_l3Split (s : ByteArray) (hs : s.size ≤ 1048576) (c : UInt8) : Ev (fun k => spec_l3Split.f k s (c.toNat : Int)) ((splitA c [] s.data.toList).map ba) := spec_l3Split_l0 s hs c s.size 0 0 [] (by omega) (by omega) (by simp)
theorem ba_data (l : List UInt8) : (ba l).data.toList = l := by simp [ba]
theorem spec_PC_step (P : List ByteArray) (out : List Db) (I : Int) (p q : List ByteArray) (nums : List Int) (j : Nat) (hj : j < 4) (hq : q.length = 4) (hn : nums.length = 4) (r : List Db × Bool)
    (h : ∀ n, parseNum (q[j]'(by omega)) 99 = (n, true) → Ev (fun k => spec_ParseConf.l1 k P out I p q (nums.set j n) ((j + 1 : Nat) : Int)) r) (hb : (parseNum (q[j]'(by omega)) 99).2 = false → r = ([], false)) :
    Ev (fun k => spec_ParseConf.l1 k P out I p q nums (j : Int)) r := by
  have he : rdOf ByteArray.empty q (j : Int) = q[j]'(by omega) := getD_nat q _ (by omega)
  refine Ev.step (fun k => spec_ParseConf.l1.eq_2 _ _ _ _ _ _ _ k) (Ev.pos (by omega) (Ev.pos (by omega) (Ev.pos (by omega) ?_)))
  rw [he]
  refine Ev.bind (spec_parseNum _ _) ?_
  cases hv : parseNum (q[j]'(by omega)) 99 with
  | mk n b =>
    cases b
    · exact Ev.neg (by simp) (Ev.done (hb (by rw [hv])).symm)
    · refine Ev.pos rfl (Ev.pos (by omega) ?_)
      rw [w64 (n := (j : Int) + 1) (by omega) (by omega), cast_succ, Int.toNat_natCast]
      exact h n hv
theorem spec_PC_end (P : List ByteArray) (out : List Db) (i : Nat) (hi : i ≤ 1048576) (a b : ByteArray) (q : List ByteArray) (n0 n1 n2 n3 : Int) (ho : out.length ≤ 1048577) (r : List Db × Bool)
    (h : Ev (fun k => spec_ParseConf.l0 k P (out ++ [⟨a, n0, n1, n2, n3⟩]) ((i + 1 : Nat) : Int)) r) : Ev (fun k => spec_ParseConf.l1 k P out (i : Int) [a, b] q [n0, n1, n2, n3] ((4 : Nat) : Int)) r := by
  refine Ev.step (fun k => spec_ParseConf.l1.eq_2 _ _ _ _ _ _ _ k) (Ev.neg (by omega) (Ev.pos (by simp) (Ev.pos (by simp) (Ev.pos (by simp) (Ev.pos (by simp) (Ev.pos (by simp) (Ev.pos (by omega) ?_)))))))
  rw [w64 (n := (i : Int) + 1) (by omega) (by omega), cast_succ]
  exact h
theorem spec_PC_nums (P : List ByteArray) (out : List Db) (i : Nat) (hi : i ≤ 1048576) (a : List UInt8) (b : ByteArray) (Q : List (List UInt8)) (hQ : Q.length = 4) (ho : out.length ≤ 1048577) (r : List Db × Bool)
    (h : ∀ x, numsOf a Q = some x → Ev (fun k => spec_ParseConf.l0 k P (out ++ [x]) ((i + 1 : Nat) : Int)) r) (hb : numsOf a Q = none → r = ([], false)) :
    Ev (fun k => spec_ParseConf.l1 k P out (i : Int) [ba a, b] (Q.map ba) [0, 0, 0, 0] ((0 : Nat) : Int)) r := by
  rcases Q with _ | ⟨q0, _ | ⟨q1, _ | ⟨q2, _ | ⟨q3, _ | ⟨q4, qs⟩⟩⟩⟩⟩
  · simp at hQ
  · simp at hQ
  · simp at hQ
  · simp at hQ
  · have no : ∀ q : List UInt8, (parseNum (ba q) 99).2 = false → parsed q = none := fun q hq => by rw [parsed, if_neg (by rw [hq]; decide)]
    have yes : ∀ (q : List UInt8) (n : Int), parseNum (ba q) 99 = (n, true) → parsed q = some n := fun q n hq => by rw [parsed, hq, if_pos rfl]
    refine spec_PC_step P out i _ _ _ 0 (by omega) rfl rfl r (fun n0 p0 => ?_) (fun p0 => hb ?_)
    · refine spec_PC_step P out i _ _ _ 1 (by omega) rfl rfl r (fun n1 p1 => ?_) (fun p1 => hb ?_)
      · refine spec_PC_step P out i _ _ _ 2 (by omega) rfl rfl r (fun n2 p2 => ?_) (fun p2 => hb ?_)
        · refine spec_PC_step P out i _ _ _ 3 (by omega) rfl rfl r (fun n3 p3 => ?_) (fun p3 => hb ?_)
          · refine spec_PC_end P out i hi _ _ _ n0 n1 n2 n3 ho r (h _ ?_)
            rw [numsOf, yes _ _ p0, yes _ _ p1, yes _ _ p2, yes _ _ p3]
            rfl
          · rw [numsOf, yes _ _ p0, yes _ _ p1, yes _ _ p2, no _ p3]; rfl
        · rw [numsOf, yes _ _ p0, yes _ _ p1, no _ p2]; rfl
      · rw [numsOf, yes _ _ p0, no _ p1]; rfl
    · rw [numsOf, no _ p0]; rfl
  · simp at hQ
theorem spec_PC_item (P : List ByteArray) (out : List Db) (i : Nat) (hi : i < P.length) (hP : P.length ≤ 1048577) (piece : List UInt8) (hp : P[i] = ba piece) (hl : piece.length ≤ 1048576) (ho : out.length ≤ 1048577) (r : List Db × Bool)
    (h : ∀ x, itemOf piece = some x → Ev (fun k => spec_ParseConf.l0 k P (out ++ [x]) ((i + 1 : Nat) : Int)) r) (hb : itemOf piece = none → r = ([], false)) :
    Ev (fun k => spec_ParseConf.l0 k P out (i : Int)) r := by
  have he : rdOf ByteArray.empty P (i : Int) = ba piece := (getD_nat P _ hi).trans hp
  refine Ev.step (fun k => spec_ParseConf.l0.eq_2 _ _ _ k) (Ev.pos (by omega) (Ev.pos (by omega) ?_))
  rw [he]
  have e1 : Ev (fun k => spec_l3Split.f k (ba piece) 58) ((splitA 58 [] piece).map ba) := by
    have := spec_l3Split (ba piece) (by rw [ba_size]; exact hl) 58
    rw [ba_data] at this
    exact this
  refine Ev.bind e1 ?_
  obtain ⟨a, us, e, hj⟩ := splitA_back 58 piece []
  unfold itemOf at h hb
  rw [e] at h hb ⊢
  rcases us with _ | ⟨b, _ | ⟨c, cs⟩⟩
  · exact Ev.neg (by simp) (Ev.done (hb rfl).symm)
  · refine Ev.pos (by simp) (Ev.pos (by simp) ?_)
    have hlb : b.length ≤ 1048576 := by
      have := congrArg List.length hj
      simp [joinA] at this
      omega
    have e2 : Ev (fun k => spec_l3Split.f k (rdOf ByteArray.empty ([a, b].map ba) 1) 47) ((splitA 47 [] b).map ba) := by
      have := spec_l3Split (ba b) (by rw [ba_size]; exact hlb) 47
      rw [ba_data] at this
      exact this
    refine Ev.bind e2 ?_
    by_cases h4 : (splitA 47 [] b).length = 4
    · refine Ev.pos (by rw [List.length_map, h4]; rfl) ?_
      exact spec_PC_nums P out i (by omega) a (ba b) _ h4 ho r (fun x hx => h x hx) (fun hx => hb hx)
    · refine Ev.neg (by rw [List.length_map]; omega) (Ev.done (hb ?_).symm)
      rw [partsOf]
      match hq : splitA 47 [] b with
      | [] => rfl
      | [_] => rfl
      | [_, _] => rfl
      | [_, _, _] => rfl
      | [_, _, _, _] => rw [hq] at h4; simp at h4
      | _ :: _ :: _ :: _ :: _ :: _ => rfl
  · refine Ev.neg (by simp; omega) (Ev.done (hb rfl).symm)
theorem spec_PC_l0 (ps : List (List UInt8)) (hps : ps.length ≤ 1048577) (hsz : ∀ p ∈ ps, p.length ≤ 1048576) (d : Nat) : ∀ (i : Nat) (out : List Db), i + d = ps.length → out.length = i → (∀ x ∈ out, x.f0.size ≤ 9223372036854775807) →
    Ev (fun k => spec_ParseConf.l0 k (ps.map ba) out (i : Int)) (confFin ((itemsOf (ps.drop i)).map (out ++ ·))) := by
  induction d with
  | zero =>
    intro i out hi ho hg
    rw [List.drop_of_length_le (by omega), itemsOf]
    refine Ev.step (fun k => spec_ParseConf.l0.eq_2 _ _ _ k) (Ev.neg (by rw [List.length_map]; omega) (Ev.bind (spec_confOk out (by omega) hg) ?_))
    simp only [Option.map_some, confFin, List.append_nil]
    by_cases hc : confFrom out 0 out.length = true
    · exact Ev.pos hc (Ev.done (if_pos hc).symm)
    · exact Ev.neg hc (Ev.done (if_neg hc).symm)
  | succ d ih =>
    intro i out hi ho hg
    have hlt : i < ps.length := by omega
    rw [List.drop_eq_getElem_cons hlt, itemsOf]
    refine spec_PC_item (ps.map ba) out i (by simpa using hlt) (by simpa using hps) ps[i] (by simp) (hsz _ (List.getElem_mem _)) (by omega) _ (fun x hx => ?_) (fun hx => ?_)
    · have hxs : x.f0.size ≤ 9223372036854775807 := by
        have e := congrArg List.length (itemOf_back hx)
        have := hsz _ (List.getElem_mem hlt)
        rw [item_rest, List.length_append] at e
        have e0 : x.f0.data.toList.length = x.f0.size := rfl
        omega
      refine Ev.eq (ih (i + 1) (out ++ [x]) (by omega) (by simp [ho]) (fun y hy => ?_)) ?_
      · rcases List.mem_append.1 hy with hy | hy
        · exact hg y hy
        · rw [List.mem_singleton] at hy; rw [hy]; exact hxs
      · rw [hx]
        cases itemsOf (ps.drop (i + 1)) with
        | none => rfl
        | some xs => simp
    · rw [hx]; rfl
theorem pieces_length (c : UInt8) (s : List UInt8) : ∀ acc, (splitA c acc s).length ≤ s.length + 1 ∧ ∀ p ∈ splitA c acc s, p.length ≤ acc.length + s.length := by
  induction s with
  | nil => intro acc; simp [splitA]
  | cons x xs ih =>
    intro acc
    rw [splitA]
    split
    · obtain ⟨h1, h2⟩ := ih []
      refine ⟨by simp only [List.length_cons]; omega, fun p hp => ?_⟩
      rcases List.mem_cons.1 hp with rfl | hp
      · simp
      · have := h2 p hp
        simp only [List.length_cons, List.length_nil] at this ⊢
        omega
    · obtain ⟨h1, h2⟩ := ih (acc ++ [x])
      refine ⟨by simp only [List.length_cons]; omega, fun p hp => ?_⟩
      have := h2 p hp
      simp only [List.length_append, List.length_cons, List.length_nil] at this ⊢
      omega
theorem spec_parseConf (s : ByteArray) (hs : s.size ≤ 1048576) : Ev (fun k => spec_ParseConf.f k s) (parseConf s) := by
  unfold spec_ParseConf.f
  by_cases h : (s.size : Int) > 100
  · exact Ev.pos h (Ev.done (parseConf_long (by omega)).symm)
  · refine Ev.neg h ?_
    have e1 : Ev (fun k => spec_l3Split.f k s 59) ((splitA 59 [] s.data.toList).map ba) := spec_l3Split s hs 59
    have hL : s.data.toList.length = s.size := rfl
    obtain ⟨h1, h2⟩ := pieces_length 59 s.data.toList []
    refine Ev.bind e1 (Ev.eq (spec_PC_l0 _ (by omega) (fun p hp => by have := h2 p hp; simp only [List.length_nil] at this; omega) (splitA 59 [] s.data.toList).length 0 [] (by omega) rfl (fun x hx => by cases hx)) ?_)
    rw [parseConf, List.drop_zero]
    cases itemsOf (splitA 59 [] s.data.toList) <;> rfl
end Go.Proofs.YthkepmicdpgbbaaDoor.Fn

/- What the program's printed function that reads a configuration comes to: the reference's answer. -/
namespace Go.Proofs.YthkepmicdpgbbaaDoor.Fn
set_option linter.unusedVariables false
set_option linter.unusedSimpArgs false
open Go.RowKit Go.Proofs.YthkepmicdpgbbaaDoorW.PrintWords Go.Proofs.YthkepmicdpgbbaaDoor.P Go.Proofs.YthkepmicdpgbbaaDoor.Base

noncomputable def numAt (ws : List ByteArray) (j : Nat) : Int := if h : j < ws.length then (parseNum ws[j] 20).1 else 0
def wsOf (rest : ByteArray) : List ByteArray := Lib.splitB (⟨#[47]⟩ : ByteArray) 0 (min (4 : Int).toNat (rest.size + 1) - 1) rest
def upd (f : Nat → Int) (i : Nat) (v : Int) (j : Nat) : Int := if j = i then v else f j
noncomputable def implItem (p : ByteArray) : Db :=
  ⟨ba (Lib.cut p.data.toList [58]).1, numAt (wsOf (ba (Lib.cut p.data.toList [58]).2.1)) 0, numAt (wsOf (ba (Lib.cut p.data.toList [58]).2.1)) 1, numAt (wsOf (ba (Lib.cut p.data.toList [58]).2.1)) 2, numAt (wsOf (ba (Lib.cut p.data.toList [58]).2.1)) 3⟩
theorem splitB_sizes (sep : ByteArray) (save : Nat) : ∀ (k : Nat) (s : ByteArray), ∀ p ∈ Lib.splitB sep save k s, p.size ≤ s.size
  | 0, s, p, hp => by
    rw [Lib.splitB_zero, List.mem_singleton] at hp
    rw [hp]; exact Nat.le_refl _
  | k + 1, s, p, hp => by
    unfold Lib.splitB at hp
    split at hp
    · rw [List.mem_singleton] at hp
      rw [hp]; exact Nat.le_refl _
    · rcases List.mem_cons.1 hp with rfl | hp
      · rw [ByteArray.size_extract]; omega
      · have := splitB_sizes sep save k _ p hp
        rw [ByteArray.size_extract] at this
        omega
theorem impl_PC_l1 (s : ByteArray) (out : List Db) (a : ByteArray) (P : List ByteArray) (i : Nat) (hi : i ≤ 1048577) (ho : out.length ≤ 1048577) (ws : List ByteArray) (h4 : ws.length ≤ 4) (r : List Db × Bool) (d : Nat) : ∀ (j : Nat) (f : Nat → Int), j + d = ws.length →
    (∀ g : Nat → Int, (∀ m, g m = if j ≤ m ∧ m < ws.length then numAt ws m else f m) → Ev (fun k => impl_ParseConf.l0 k s (out ++ [⟨a, g 0, g 1, g 2, g 3⟩]) P (P.length : Int) ((i + 1 : Nat) : Int)) r) →
    Ev (fun k => impl_ParseConf.l1 k s out a P (P.length : Int) (i : Int) ws (ws.length : Int) (j : Int) (f 0) (f 1) (f 2) (f 3)) r := by
  induction d with
  | zero =>
    intro j f hj h
    refine Ev.step (fun k => impl_ParseConf.l1.eq_2 _ _ _ _ _ _ _ _ _ _ _ _ _ k) (Ev.neg (by omega) (Ev.pos (by omega) ?_))
    rw [w64 (n := (i : Int) + 1) (by omega) (by omega), cast_succ]
    exact h f (fun m => by rw [if_neg (by omega)])
  | succ d ih =>
    intro j f hj h
    have he : rdOf ByteArray.empty ws (j : Int) = ws[j]'(by omega) := getD_nat ws _ (by omega)
    have hv : numAt ws j = (parseNum (ws[j]'(by omega)) 20).1 := dif_pos (by omega)
    have key := ih (j + 1) (upd f j (numAt ws j)) (by omega) (fun g hg => h g (fun m => by
      rw [hg m]
      unfold upd
      by_cases e : m = j
      · subst e
        rw [if_neg (by omega), if_pos rfl, if_pos (by omega)]
      · rw [if_neg e]
        by_cases c : j + 1 ≤ m ∧ m < ws.length
        · rw [if_pos c, if_pos (by omega)]
        · rw [if_neg c, if_neg (by omega)]))
    rw [← cast_succ] at key
    refine Ev.step (fun k => impl_ParseConf.l1.eq_2 _ _ _ _ _ _ _ _ _ _ _ _ _ k) (Ev.pos (by omega) (Ev.pos (by omega) (Ev.pos (by omega) ?_)))
    rw [he]
    refine Ev.bind (impl_parseNum _ _) (Ev.pos (by omega) ?_)
    rw [← hv, w64 (n := (j : Int) + 1) (by omega) (by omega)]
    rcases (show j = 0 ∨ j = 1 ∨ j = 2 ∨ j = 3 by omega) with rfl | rfl | rfl | rfl
    · exact Ev.pos (by omega) key
    · exact Ev.neg (by omega) (Ev.pos (by omega) key)
    · exact Ev.neg (by omega) (Ev.neg (by omega) (Ev.pos (by omega) key))
    · exact Ev.neg (by omega) (Ev.neg (by omega) (Ev.neg (by omega) (Ev.pos (by omega) key)))
theorem cut_short (p : List UInt8) : (Lib.cut p [58]).1.length ≤ p.length ∧ (Lib.cut p [58]).2.1.length ≤ p.length := by
  unfold Lib.cut
  split
  · simp only [List.length_take, List.length_drop]; omega
  · simp
noncomputable def implFin (s : ByteArray) (out : List Db) : List Db × Bool := if s.toList = ([] : List UInt8) then ([], false) else if (confText out).toList = s.toList then (out, true) else ([], false)
theorem impl_PC_l0 (s : ByteArray) (P : List ByteArray) (hP : P.length ≤ 1048577) (hsz : ∀ p ∈ P, p.size ≤ 1048576) (d : Nat) : ∀ (i : Nat) (out : List Db), i + d = P.length → out.length = i → (∀ x ∈ out, x.f0.size ≤ 9223372036854775807) →
    Ev (fun k => impl_ParseConf.l0 k s out P (P.length : Int) (i : Int)) (implFin s (out ++ (P.drop i).map implItem)) := by
  induction d with
  | zero =>
    intro i out hi ho hg
    rw [List.drop_of_length_le (by omega), List.map_nil, List.append_nil]
    refine Ev.step (fun k => impl_ParseConf.l0.eq_2 _ _ _ _ _ k) (Ev.neg (by omega) ?_)
    by_cases h0 : s.toList = ([] : List UInt8)
    · exact Ev.pos h0 (Ev.done (if_pos h0).symm)
    · refine Ev.neg h0 (Ev.bind (impl_confText out (by omega) hg) ?_)
      by_cases h1 : (confText out).toList = s.toList
      · exact Ev.pos h1 (Ev.done ((if_neg h0).trans (if_pos h1)).symm)
      · exact Ev.neg h1 (Ev.done ((if_neg h0).trans (if_neg h1)).symm)
  | succ d ih =>
    intro i out hi ho hg
    have hlt : i < P.length := by omega
    have he : rdOf ByteArray.empty P (i : Int) = P[i] := getD_nat P _ hlt
    have hpz := hsz _ (List.getElem_mem hlt)
    have hL : (P[i]).data.toList.length = (P[i]).size := rfl
    obtain ⟨c1, c2⟩ := cut_short (P[i]).data.toList
    refine Ev.step (fun k => impl_ParseConf.l0.eq_2 _ _ _ _ _ k) (Ev.pos (by omega) (Ev.pos (by omega) (Ev.pos (by omega) ?_)))
    rw [he]
    refine Ev.then (a := (ba (Lib.cut (P[i]).data.toList [58]).1, ba (Lib.cut (P[i]).data.toList [58]).2.1, (Lib.cut (P[i]).data.toList [58]).2.2)) ?_ ?_
    · unfold strings_Cut.f
      rw [if_pos (by omega)]
      rfl
    have hws : (wsOf (ba (Lib.cut (P[i]).data.toList [58]).2.1)).length ≤ 4 := by
      have := Lib.splitB_length_le (⟨#[47]⟩ : ByteArray) 0 (min (4 : Int).toNat ((ba (Lib.cut (P[i]).data.toList [58]).2.1).size + 1) - 1) (ba (Lib.cut (P[i]).data.toList [58]).2.1)
      have h4 : (4 : Int).toNat = 4 := rfl
      unfold wsOf
      omega
    refine Ev.then (a := wsOf (ba (Lib.cut (P[i]).data.toList [58]).2.1)) ?_ ?_
    · unfold strings_SplitN.f
      rw [if_pos ⟨by show (ba _).size < _; rw [ba_size]; omega, by decide, by decide, by decide⟩]
      rfl
    refine impl_PC_l1 s out _ P i (by omega) (by omega) _ hws _ _ 0 (fun _ => 0) (Nat.zero_add _) (fun g hg' => ?_)
    have hn : ∀ m, g m = numAt (wsOf (ba (Lib.cut (P[i]).data.toList [58]).2.1)) m := by
      intro m
      rw [hg' m]
      by_cases c : 0 ≤ m ∧ m < (wsOf (ba (Lib.cut (P[i]).data.toList [58]).2.1)).length
      · rw [if_pos c]
      · rw [if_neg c, numAt, dif_neg (by omega)]
    rw [hn, hn, hn, hn]
    refine Ev.eq (ih (i + 1) _ (by omega) (by simp [ho]) (fun y hy => ?_)) ?_
    · rcases List.mem_append.1 hy with hy | hy
      · exact hg y hy
      · rw [List.mem_singleton] at hy
        rw [hy]
        show (ba _).size ≤ _
        rw [ba_size]; omega
    · rw [List.drop_eq_getElem_cons hlt, List.map_cons, List.append_assoc]
      rfl
/-! ### what was written is read again -/
theorem map_ba (ws : List ByteArray) : (ws.map (·.data.toList)).map ba = ws := by
  rw [List.map_map]
  refine (List.map_congr_left (g := id) fun x _ => ?_).trans (List.map_id _)
  exact (ba_of x).symm
theorem num_small {n : Int} (h0 : 0 ≤ n) (h1 : n ≤ 20) : (parseNum (ba (Lib.itoa n)) 20).1 = n := by
  obtain ⟨m, rfl⟩ := Int.eq_ofNat_of_zero_le h0
  rw [parse_num m 20 h1 (by omega)]
theorem implItem_item {x : Db} (h : dbOk x = true) (p : ByteArray) (hp : p.data.toList = itemL x) : implItem p = x := by
  obtain ⟨hn, h1, h2, h3, h4⟩ := dbOk_of h
  have e1 := itoa_two x.f1 (by omega) (by omega)
  have e2 := itoa_two x.f2 (by omega) (by omega)
  have e3 := itoa_two x.f3 (by omega) (by omega)
  have e4 := itoa_two x.f4 (by omega) (by omega)
  have hc : Lib.cut p.data.toList [58] = (x.f0.data.toList, restL x, true) := by
    rw [hp, item_rest, cut_join 58 _ _ (name_free h 58 (by decide))]
  have hlen : 7 ≤ (restL x).length := by
    simp only [restL, joinA, List.flatMap_cons, List.flatMap_nil, List.length_append, List.length_cons, List.append_nil]
    omega
  have hw : wsOf (ba (restL x)) = [ba (Lib.itoa x.f1), ba (Lib.itoa x.f2), ba (Lib.itoa x.f3), ba (Lib.itoa x.f4)] := by
    have hd := Lib.splitB_data (⟨#[47]⟩ : ByteArray) 0 (min (4 : Int).toNat ((ba (restL x)).size + 1) - 1) (ba (restL x))
    rw [ba_data, show (min (4 : Int).toNat ((ba (restL x)).size + 1) - 1) = [Lib.itoa x.f2, Lib.itoa x.f3, Lib.itoa x.f4].length by rw [ba_size]; have h4 : (4 : Int).toNat = 4 := rfl; simp only [List.length_cons, List.length_nil]; omega] at hd
    have hk : Lib.splitK [47] 0 [Lib.itoa x.f2, Lib.itoa x.f3, Lib.itoa x.f4].length (restL x) = [Lib.itoa x.f1, Lib.itoa x.f2, Lib.itoa x.f3, Lib.itoa x.f4] := by
      refine splitK_join 47 [Lib.itoa x.f2, Lib.itoa x.f3, Lib.itoa x.f4] _ (num_free _ (by omega) 47 (.inl (by decide))) ?_
      intro y hy
      simp only [List.mem_cons, List.not_mem_nil, or_false] at hy
      rcases hy with rfl | rfl | rfl
      · exact num_free _ (by omega) 47 (.inl (by decide))
      · exact num_free _ (by omega) 47 (.inl (by decide))
      · exact num_free _ (by omega) 47 (.inl (by decide))
    have hd' := hd.trans hk
    have e := congrArg (List.map ba) hd'
    rw [map_ba] at e
    unfold wsOf
    rw [show (min (4 : Int).toNat ((ba (restL x)).size + 1) - 1) = [Lib.itoa x.f2, Lib.itoa x.f3, Lib.itoa x.f4].length by rw [ba_size]; have h4 : (4 : Int).toNat = 4 := rfl; simp only [List.length_cons, List.length_nil]; omega]
    exact e
  unfold implItem
  rw [hc]
  simp only
  rw [hw]
  have n0 : numAt [ba (Lib.itoa x.f1), ba (Lib.itoa x.f2), ba (Lib.itoa x.f3), ba (Lib.itoa x.f4)] 0 = x.f1 := (dif_pos (by simp)).trans (num_small (n := x.f1) (by omega) (by omega))
  have n1 : numAt [ba (Lib.itoa x.f1), ba (Lib.itoa x.f2), ba (Lib.itoa x.f3), ba (Lib.itoa x.f4)] 1 = x.f2 := (dif_pos (by simp)).trans (num_small (n := x.f2) (by omega) (by omega))
  have n2 : numAt [ba (Lib.itoa x.f1), ba (Lib.itoa x.f2), ba (Lib.itoa x.f3), ba (Lib.itoa x.f4)] 2 = x.f3 := (dif_pos (by simp)).trans (num_small (n := x.f3) (by omega) (by omega))
  have n3 : numAt [ba (Lib.itoa x.f1), ba (Lib.itoa x.f2), ba (Lib.itoa x.f3), ba (Lib.itoa x.f4)] 3 = x.f4 := (dif_pos (by simp)).trans (num_small (n := x.f4) (by omega) (by omega))
  rw [n0, n1, n2, n3, ← ba_of]
def piecesOf (s : ByteArray) : List ByteArray := Lib.splitB (⟨#[59]⟩ : ByteArray) 0 (Lib.countB s (⟨#[59]⟩ : ByteArray)) s
theorem pieces_text {l : List Db} (h : confFrom l 0 l.length = true) : (piecesOf (confText l)).map implItem = l := by
  obtain ⟨x, xs, rfl, _, hall⟩ := conf_cons h
  have hf := item_free (hall x (List.mem_cons_self ..))
  have hfs : ∀ y ∈ xs.map itemL, (59 : UInt8) ∉ y := by
    intro y hy
    obtain ⟨z, hz, rfl⟩ := List.mem_map.1 hy
    exact item_free (hall z (List.mem_cons_of_mem _ hz))
  have hcnt : Lib.countB (confText (x :: xs)) (⟨#[59]⟩ : ByteArray) = (xs.map itemL).length := by
    show Lib.count (confText (x :: xs)).data.toList [59] = _
    rw [confText_join x xs h, ba_data, Lib.count_one, count_join 59 _ _ hf hfs]
  have hd := Lib.splitB_data (⟨#[59]⟩ : ByteArray) 0 (Lib.countB (confText (x :: xs)) (⟨#[59]⟩ : ByteArray)) (confText (x :: xs))
  have hk : (piecesOf (confText (x :: xs))).map (·.data.toList) = (x :: xs).map itemL := by
    refine hd.trans ?_
    rw [hcnt, show (⟨#[59]⟩ : ByteArray).data.toList = [59] from rfl]
    conv => lhs; rw [confText_join x xs h, ba_data]
    exact splitK_join 59 _ _ hf hfs
  have hlen : (piecesOf (confText (x :: xs))).length = (x :: xs).length := by
    have := congrArg List.length hk
    simpa using this
  apply List.ext_getElem
  · rw [List.length_map]; exact hlen
  · intro j h1 h2
    rw [List.getElem_map]
    refine implItem_item (hall _ (List.getElem_mem h2)) _ ?_
    have hj : j < (piecesOf (confText (x :: xs))).length := by rw [hlen]; exact h2
    have e := congrArg (fun L : List (List UInt8) => L[j]?) hk
    simp only [List.getElem?_map, List.getElem?_eq_getElem hj, List.getElem?_eq_getElem h2, Option.map_some, Option.some.injEq] at e
    exact e
theorem impl_parseConf (s : ByteArray) (hs : s.size ≤ 1048576) : Ev (fun k => impl_ParseConf.f k s) (parseConf s) := by
  unfold impl_ParseConf.f
  have hcl := Lib.countB_le (⟨#[59]⟩ : ByteArray) (by decide) s.size s (Nat.le_refl _)
  have hpl : (piecesOf s).length ≤ 1048577 := by
    have := Lib.splitB_all (⟨#[59]⟩ : ByteArray) (by decide) 0 _ s rfl
    unfold piecesOf
    omega
  refine Ev.then (a := piecesOf s) ?_ ?_
  · unfold strings_Split.f
    rw [if_pos ⟨by omega, by decide⟩]
    rfl
  refine Ev.eq (impl_PC_l0 s (piecesOf s) hpl (fun p hp => Nat.le_trans (splitB_sizes _ _ _ _ p hp) hs) (piecesOf s).length 0 [] (by omega) rfl (fun x hx => by cases hx)) ?_
  rw [List.drop_zero, List.nil_append]
  unfold implFin
  rcases parseConf_back s with h | ⟨l, hl, hc, rfl⟩
  · rw [h]
    split
    · rfl
    · rename_i h0
      split
      · rename_i h1
        have e := text_inj h1
        by_cases hc : confFrom ((piecesOf s).map implItem) 0 ((piecesOf s).map implItem).length = true
        · have := parseConf_text hc
          rw [e, h] at this
          exact absurd (congrArg Prod.snd this) (by simp)
        · exact absurd (by rw [← e, confText, if_neg hc]; exact text_nil.2 rfl) h0
      · rfl
  · rw [hl, pieces_text hc]
    have hsz := confText_size hc
    rw [if_neg (fun e => by rw [text_nil.1 e] at hsz; revert hsz; decide), if_pos rfl]
end Go.Proofs.YthkepmicdpgbbaaDoor.Fn

/- What the printed functions that check a record, and the known state, come to. -/
namespace Go.Proofs.YthkepmicdpgbbaaDoor.Fn
set_option linter.unusedVariables false
set_option linter.unusedSimpArgs false
open Go.RowKit Go.Proofs.YthkepmicdpgbbaaDoorW.PrintWords Go.Proofs.YthkepmicdpgbbaaDoor.P Go.Proofs.YthkepmicdpgbbaaDoor.Base

noncomputable def confB (s : ByteArray) : Bool := (parseConf s).2
def emptyT (s : ByteArray) : Bool := s.toList == ([] : List UInt8)
theorem spec_l4Text (s : ByteArray) (hs : s.size ≤ 1048576) : Ev (fun k => spec_l4Text.f k s) (confB s) := Ev.bind (spec_parseConf s hs) (Ev.done rfl)
theorem impl_confB (s : ByteArray) (hs : s.size ≤ 1048576) : Ev (fun k => impl_confOk.f k s) (confB s) := Ev.bind (impl_parseConf s hs) (Ev.done rfl)
noncomputable def recOk (kind n owner : Int) (s : ByteArray) : Bool :=
  decide (1 ≤ n ∧ n ≤ 60000) && (if kind = 1 then decide (owner = 0) && confB s else if kind = 2 then decide (owner = 0) && emptyT s else if kind = 3 then decide (0 ≤ owner ∧ owner ≤ 1) && emptyT s else false)
theorem spec_recOk (kind n owner : Int) (s : ByteArray) (hs : s.size ≤ 1048576) : Ev (fun k => spec_RecOk.f k kind n owner s) (recOk kind n owner s) := by
  unfold spec_RecOk.f recOk
  refine Ev.then (l1In _ _ _) ?_
  by_cases h0 : 1 ≤ n ∧ n ≤ 60000
  · rw [decide_eq_true h0, Bool.true_and]
    refine Ev.pos rfl ?_
    by_cases h1 : kind = 1
    · refine Ev.eq (Ev.pos h1 ?_) (if_pos h1).symm
      by_cases h2 : owner = 0
      · rw [decide_eq_true h2, Bool.true_and]; exact Ev.pos h2 (Ev.bind (spec_l4Text s hs) (Ev.done rfl))
      · rw [decide_eq_false h2, Bool.false_and]; exact Ev.neg h2 (Ev.done rfl)
    refine Ev.eq (Ev.neg h1 ?_) (if_neg h1).symm
    by_cases h1 : kind = 2
    · refine Ev.eq (Ev.pos h1 ?_) (if_pos h1).symm
      by_cases h2 : owner = 0
      · rw [decide_eq_true h2, Bool.true_and]; exact Ev.pos h2 (Ev.done rfl)
      · rw [decide_eq_false h2, Bool.false_and]; exact Ev.neg h2 (Ev.done rfl)
    refine Ev.eq (Ev.neg h1 ?_) (if_neg h1).symm
    by_cases h1 : kind = 3
    · refine Ev.eq (Ev.pos h1 (Ev.then (l1In _ _ _) ?_)) (if_pos h1).symm
      by_cases h2 : 0 ≤ owner ∧ owner ≤ 1
      · rw [decide_eq_true h2, Bool.true_and]; exact Ev.pos rfl (Ev.done rfl)
      · rw [decide_eq_false h2, Bool.false_and]; exact Ev.neg (by decide) (Ev.done rfl)
    exact Ev.neg h1 (Ev.done (if_neg h1).symm)
  · rw [decide_eq_false h0, Bool.false_and]; exact Ev.neg (by decide) (Ev.done rfl)
theorem impl_recOk (kind n owner : Int) (s : ByteArray) (hs : s.size ≤ 1048576) : Ev (fun k => impl_RecOk.f k kind n owner s) (recOk kind n owner s) := by
  unfold impl_RecOk.f recOk
  refine Ev.then (isIn _ _ _) ?_
  by_cases h0 : 1 ≤ n ∧ n ≤ 60000
  · rw [decide_eq_true h0, Bool.true_and]
    refine Ev.pos rfl ?_
    by_cases h1 : kind = 1
    · refine Ev.eq (Ev.pos h1 ?_) (if_pos h1).symm
      by_cases h2 : owner = 0
      · rw [decide_eq_true h2, Bool.true_and]; exact Ev.pos h2 (Ev.bind (impl_confB s hs) (Ev.done rfl))
      · rw [decide_eq_false h2, Bool.false_and]; exact Ev.neg h2 (Ev.done rfl)
    refine Ev.eq (Ev.neg h1 ?_) (if_neg h1).symm
    by_cases h1 : kind = 2
    · refine Ev.eq (Ev.pos h1 ?_) (if_pos h1).symm
      by_cases h2 : owner = 0
      · rw [decide_eq_true h2, Bool.true_and]; exact Ev.pos h2 (Ev.done rfl)
      · rw [decide_eq_false h2, Bool.false_and]; exact Ev.neg h2 (Ev.done rfl)
    refine Ev.eq (Ev.neg h1 ?_) (if_neg h1).symm
    by_cases h1 : kind = 3
    · refine Ev.eq (Ev.pos h1 (Ev.then (isIn _ _ _) ?_)) (if_pos h1).symm
      by_cases h2 : 0 ≤ owner ∧ owner ≤ 1
      · rw [decide_eq_true h2, Bool.true_and]; exact Ev.pos rfl (Ev.done rfl)
      · rw [decide_eq_false h2, Bool.false_and]; exact Ev.neg (by decide) (Ev.done rfl)
    exact Ev.neg h1 (Ev.done (if_neg h1).symm)
  · rw [decide_eq_false h0, Bool.false_and]; exact Ev.neg (by decide) (Ev.done rfl)
theorem szRec (a b c : Int) (s : ByteArray) (left : Int) (hs : s.size ≤ maxLen) (h0 : 0 ≤ left) (h1 : left ≤ 1048576) : ∃ r, laws_szRec.f a b c s left = some r ∧ (0 ≤ r → s.size ≤ 1048576) := by
  unfold laws_szRec.f
  have hm : maxLen = 9223372036854775807 := by decide
  rw [w64 (by omega) (by omega)]
  by_cases h : left - (s.size : Int) < 0
  · rw [if_pos h]; exact ⟨_, rfl, by omega⟩
  · rw [if_neg h]; exact ⟨_, rfl, by omega⟩
end Go.Proofs.YthkepmicdpgbbaaDoor.Fn

/- What the printed functions that check the known state come to. -/
namespace Go.Proofs.YthkepmicdpgbbaaDoor.Fn
set_option linter.unusedVariables false
set_option linter.unusedSimpArgs false
open Go.RowKit Go.Proofs.YthkepmicdpgbbaaDoorW.PrintWords Go.Proofs.YthkepmicdpgbbaaDoor.P Go.Proofs.YthkepmicdpgbbaaDoor.Base

noncomputable def genOk (n : Int) (s : ByteArray) : Bool := if n = 0 then emptyT s else decide (1 ≤ n ∧ n ≤ 60000) && confB s
noncomputable def knownOk (g : Int) (t : ByteArray) (pg : Int) (pt : ByteArray) (e o : Int) : Bool :=
  genOk g t && (genOk pg pt && (decide (0 ≤ e ∧ e ≤ 60000) && (decide (0 ≤ o ∧ o ≤ 1) && (decide (0 < e ∨ o = 0) && decide (pg = 0 ∨ g < pg)))))
theorem impl_genOk (n : Int) (s : ByteArray) (hs : s.size ≤ 1048576) : Ev (fun k => impl_genOk.f k n s) (genOk n s) := by
  unfold impl_genOk.f genOk
  by_cases h0 : n = 0
  · exact Ev.eq (Ev.pos h0 (Ev.done rfl)) (if_pos h0).symm
  refine Ev.eq (Ev.neg h0 (Ev.then (isIn _ _ _) ?_)) (if_neg h0).symm
  by_cases h : 1 ≤ n ∧ n ≤ 60000
  · rw [decide_eq_true h, Bool.true_and]; exact Ev.pos rfl (Ev.bind (impl_confB s hs) (Ev.done rfl))
  · rw [decide_eq_false h, Bool.false_and]; exact Ev.neg (by decide) (Ev.done rfl)
theorem impl_knownOk (g : Int) (t : ByteArray) (pg : Int) (pt : ByteArray) (e o : Int) (ht : t.size ≤ 1048576) (hp : pt.size ≤ 1048576) : Ev (fun k => impl_KnownOk.f k g t pg pt e o) (knownOk g t pg pt e o) := by
  unfold impl_KnownOk.f knownOk
  refine Ev.bind (impl_genOk g t ht) ?_
  cases genOk g t
  · exact Ev.neg (by decide) (Ev.done rfl)
  refine Ev.pos rfl (Ev.bind (impl_genOk pg pt hp) ?_)
  cases genOk pg pt
  · exact Ev.neg (by decide) (Ev.done rfl)
  refine Ev.pos rfl (Ev.then (isIn _ _ _) ?_)
  by_cases h : 0 ≤ e ∧ e ≤ 60000
  case neg => rw [decide_eq_false h]; exact Ev.neg (by decide) (Ev.done rfl)
  rw [decide_eq_true h]
  refine Ev.pos rfl (Ev.then (isIn _ _ _) ?_)
  by_cases h' : 0 ≤ o ∧ o ≤ 1
  case neg => rw [decide_eq_false h']; exact Ev.neg (by decide) (Ev.done rfl)
  rw [decide_eq_true h']
  refine Ev.pos rfl ?_
  have fin : Ev (fun _ : Nat => if pg = 0 then some true else some (decide (pg > g))) (decide (pg = 0 ∨ g < pg)) := by
    by_cases hz : pg = 0
    · exact Ev.pos hz (Ev.done (decide_eq_true (.inl hz)).symm)
    · refine Ev.neg hz (Ev.done ?_)
      rw [decide_eq_decide]
      omega
  by_cases he : e > 0
  · rw [decide_eq_true (.inl he : 0 < e ∨ o = 0)]; exact Ev.pos he fin
  refine Ev.neg he ?_
  by_cases ho : o = 0
  · rw [decide_eq_true (.inr ho : 0 < e ∨ o = 0)]; exact Ev.pos ho fin
  · rw [decide_eq_false (by omega : ¬ (0 < e ∨ o = 0))]; exact Ev.neg ho (Ev.done rfl)
noncomputable def genT (g : Int) (t : ByteArray) : Bool := if g = 0 then emptyT t else confB t
theorem genOk_in {g : Int} {t : ByteArray} (h : 0 ≤ g ∧ g ≤ 60000) : genOk g t = genT g t := by
  unfold genOk genT
  by_cases h0 : g = 0
  · rw [if_pos h0, if_pos h0]
  · rw [if_neg h0, if_neg h0, decide_eq_true (by omega), Bool.true_and]
theorem genOk_out {g : Int} {t : ByteArray} (h : ¬ (0 ≤ g ∧ g ≤ 60000)) : genOk g t = false := by
  unfold genOk
  rw [if_neg (by omega), decide_eq_false (by omega), Bool.false_and]
theorem spec_KnownOk_j1 (b : Bool) (g : Int) (t : ByteArray) (pg : Int) (pt : ByteArray) (e o : Int) (hp : pt.size ≤ 1048576) : Ev (fun k => spec_KnownOk.j1 k b g t pg pt e o) (!b && (genT pg pt && decide (pg = 0 ∨ g < pg))) := by
  refine Ev.step (fun k => spec_KnownOk.j1.eq_2 _ _ _ _ _ _ _ k) ?_
  cases b
  · refine Ev.neg (by decide) ?_
    unfold genT
    by_cases hz : pg = 0
    · refine Ev.eq (Ev.pos hz (Ev.done rfl)) ?_
      rw [if_pos hz, decide_eq_true (.inl hz : pg = 0 ∨ g < pg)]
      simp [emptyT]
    · refine Ev.neg hz ?_
      rw [if_neg hz]
      by_cases hgt : pg > g
      · refine Ev.eq (Ev.pos hgt (Ev.bind (spec_l4Text pt hp) (Ev.done rfl))) ?_
        rw [decide_eq_true (.inr hgt : pg = 0 ∨ g < pg)]
        simp
      · refine Ev.eq (Ev.neg hgt (Ev.done rfl)) ?_
        rw [decide_eq_false (by omega : ¬ (pg = 0 ∨ g < pg))]
        simp
  · exact Ev.pos rfl (Ev.done rfl)
theorem spec_KnownOk_j0 (b : Bool) (g : Int) (t : ByteArray) (pg : Int) (pt : ByteArray) (e o : Int) (hg : b = true ∨ 0 ≤ g) (ht : t.size ≤ 1048576) (hp : pt.size ≤ 1048576) : Ev (fun k => spec_KnownOk.j0 k b g t pg pt e o) (!b && (genT g t && (genT pg pt && decide (pg = 0 ∨ g < pg)))) := by
  refine Ev.step (fun k => spec_KnownOk.j0.eq_2 _ _ _ _ _ _ _ k) ?_
  cases b
  · have hg' : 0 ≤ g := hg.resolve_left (by decide)
    refine Ev.neg (by decide) ?_
    unfold genT
    by_cases hz : g = 0
    · rw [if_pos hz]
      refine Ev.pos hz ?_
      by_cases hn : t.toList = ([] : List UInt8)
      · refine Ev.eq (Ev.pos hn (Ev.neg (by omega) (spec_KnownOk_j1 _ _ _ _ _ _ _ hp))) ?_
        simp [emptyT, hn, genT]
      · refine Ev.eq (Ev.neg hn (spec_KnownOk_j1 _ _ _ _ _ _ _ hp)) ?_
        simp [emptyT, hn]
    · rw [if_neg hz]
      refine Ev.neg hz (Ev.eq (Ev.pos (by omega) (Ev.bind (spec_l4Text t ht) (spec_KnownOk_j1 _ _ _ _ _ _ _ hp))) ?_)
      simp [genT]
  · exact Ev.pos rfl (Ev.done rfl)
theorem spec_knownOk (g : Int) (t : ByteArray) (pg : Int) (pt : ByteArray) (e o : Int) (ht : t.size ≤ 1048576) (hp : pt.size ≤ 1048576) : Ev (fun k => spec_KnownOk.f k g t pg pt e o) (knownOk g t pg pt e o) := by
  unfold spec_KnownOk.f knownOk
  have bad : Ev (fun k => spec_KnownOk.j0 k true g t pg pt e o) false := spec_KnownOk_j0 true g t pg pt e o (.inl rfl) ht hp
  refine Ev.then (l1In _ _ _) ?_
  by_cases h1 : 0 ≤ g ∧ g ≤ 60000
  case neg => rw [genOk_out h1]; exact Ev.neg (by simpa using h1) bad
  rw [genOk_in h1]
  refine Ev.pos (by simpa using h1) (Ev.then (l1In _ _ _) ?_)
  by_cases h2 : 0 ≤ pg ∧ pg ≤ 60000
  case neg => rw [genOk_out h2]; exact Ev.eq (Ev.neg (by simpa using h2) bad) (by simp)
  rw [genOk_in h2]
  refine Ev.pos (by simpa using h2) (Ev.then (l1In _ _ _) ?_)
  by_cases h3 : 0 ≤ e ∧ e ≤ 60000
  case neg => rw [decide_eq_false h3]; exact Ev.eq (Ev.neg (by decide) bad) (by simp)
  rw [decide_eq_true h3]
  refine Ev.pos rfl (Ev.then (l1In _ _ _) ?_)
  by_cases h4 : 0 ≤ o ∧ o ≤ 1
  case neg => rw [decide_eq_false h4]; exact Ev.eq (Ev.neg (by decide) bad) (by simp)
  rw [decide_eq_true h4]
  refine Ev.pos rfl ?_
  by_cases he : e = 0
  · refine Ev.eq (Ev.pos he (spec_KnownOk_j0 _ g t pg pt e o (.inr h1.1) ht hp)) ?_
    by_cases ho : o = 0
    · rw [decide_eq_true (.inr ho : 0 < e ∨ o = 0)]; simp [ho]
    · rw [decide_eq_false (by omega : ¬ (0 < e ∨ o = 0))]; simp [ho]
  · refine Ev.eq (Ev.neg he (spec_KnownOk_j0 _ g t pg pt e o (.inr h1.1) ht hp)) ?_
    rw [decide_eq_true (by omega : 0 < e ∨ o = 0)]; simp
theorem szKnown (a : Int) (s : ByteArray) (b : Int) (u : ByteArray) (c d : Int) (left : Int) (hs : s.size ≤ maxLen) (hu : u.size ≤ maxLen) (h0 : 0 ≤ left) (h1 : left ≤ 1048576) : ∃ r, laws_szKnown.f a s b u c d left = some r ∧ (0 ≤ r → s.size ≤ 1048576 ∧ u.size ≤ 1048576 ∧ r ≤ left) := by
  unfold laws_szKnown.f
  have hm : maxLen = 9223372036854775807 := by decide
  rw [w64 (n := left - (s.size : Int)) (by omega) (by omega)]
  by_cases h : left - (s.size : Int) < 0
  · rw [if_pos h]; exact ⟨_, rfl, by omega⟩
  rw [if_neg h, w64 (by omega) (by omega)]
  by_cases h' : left - (s.size : Int) - (u.size : Int) < 0
  · rw [if_pos h']; exact ⟨_, rfl, by omega⟩
  · rw [if_neg h']; exact ⟨_, rfl, by omega⟩
end Go.Proofs.YthkepmicdpgbbaaDoor.Fn

/- What the printed functions that apply a record to the known state come to. -/
namespace Go.Proofs.YthkepmicdpgbbaaDoor.Fn
set_option linter.unusedVariables false
set_option linter.unusedSimpArgs false
open Go.RowKit Go.Proofs.YthkepmicdpgbbaaDoorW.PrintWords Go.Proofs.YthkepmicdpgbbaaDoor.P Go.Proofs.YthkepmicdpgbbaaDoor.Base

noncomputable def applyK (g : Int) (t : ByteArray) (pg : Int) (pt : ByteArray) (e o : Int) (kind n ow : Int) (s : ByteArray) : Int × ByteArray × Int × ByteArray × Int × Int × Bool :=
  if knownOk g t pg pt e o = true then
    if recOk kind n ow s = true then
      if kind = 1 ∧ g < n then (g, t, n, s, e, o, true)
      else if kind = 2 ∧ n = pg then (n, pt, 0, ⟨#[]⟩, e, o, true)
      else if kind = 3 ∧ e < n then (g, t, pg, pt, n, ow, true)
      else (g, t, pg, pt, e, o, false)
    else (g, t, pg, pt, e, o, false)
  else (g, t, pg, pt, e, o, false)
theorem recOk_kind {kind n ow : Int} {s : ByteArray} (h : recOk kind n ow s = true) : kind = 1 ∨ kind = 2 ∨ kind = 3 := by
  unfold recOk at h
  rw [Bool.and_eq_true] at h
  have h := h.2
  split at h
  · omega
  split at h
  · omega
  split at h
  · omega
  · cases h
theorem impl_apply (g : Int) (t : ByteArray) (pg : Int) (pt : ByteArray) (e o : Int) (kind n ow : Int) (s : ByteArray) (ht : t.size ≤ 1048576) (hp : pt.size ≤ 1048576) (hs : s.size ≤ 1048576) : Ev (fun k => impl_Apply.f k g t pg pt e o kind n ow s) (applyK g t pg pt e o kind n ow s) := by
  unfold impl_Apply.f applyK
  refine Ev.bind (impl_knownOk g t pg pt e o ht hp) ?_
  by_cases h1 : knownOk g t pg pt e o = true
  case neg =>
    rw [if_neg h1]
    exact Ev.neg h1 (Ev.step (fun k => impl_Apply.j0.eq_2 _ _ _ _ _ _ _ _ _ _ _ k) (Ev.pos rfl (Ev.done rfl)))
  rw [if_pos h1]
  refine Ev.pos h1 (Ev.bind (impl_recOk kind n ow s hs) ?_)
  refine Ev.step (fun k => impl_Apply.j0.eq_2 _ _ _ _ _ _ _ _ _ _ _ k) ?_
  by_cases h2 : recOk kind n ow s = true
  case neg => rw [if_neg h2]; exact Ev.pos (by simpa using h2) (Ev.done rfl)
  rw [if_pos h2]
  refine Ev.neg (by simpa using h2) ?_
  have tail : ∀ b : Bool, b = decide (kind = 2 ∧ n = pg) → ¬ (kind = 1 ∧ g < n) → Ev (fun k => impl_Apply.j2 k b g t pg pt e o kind n ow s) (if kind = 2 ∧ n = pg then (n, pt, 0, ⟨#[]⟩, e, o, true) else if kind = 3 ∧ e < n then (g, t, pg, pt, n, ow, true) else (g, t, pg, pt, e, o, false)) := by
    intro b hb _
    refine Ev.step (fun k => impl_Apply.j2.eq_2 _ _ _ _ _ _ _ _ _ _ _ k) ?_
    by_cases h : kind = 2 ∧ n = pg
    · exact Ev.pos (by rw [hb]; exact decide_eq_true h) (Ev.done (if_pos h).symm)
    refine Ev.eq (Ev.neg (by rw [hb, decide_eq_false h]; decide) ?_) (if_neg h).symm
    by_cases h3 : kind = 3
    · by_cases h4 : n > e
      · exact Ev.pos h3 (Ev.pos h4 (Ev.done (if_pos ⟨h3, h4⟩).symm))
      · exact Ev.pos h3 (Ev.neg h4 (Ev.done (if_neg (fun q => h4 q.2)).symm))
    · exact Ev.neg h3 (Ev.done (if_neg (fun q => h3 q.1)).symm)
  have mid : ∀ b : Bool, b = decide (kind = 1 ∧ g < n) → Ev (fun k => impl_Apply.j1 k b g t pg pt e o kind n ow s) (if kind = 1 ∧ g < n then (g, t, n, s, e, o, true) else if kind = 2 ∧ n = pg then (n, pt, 0, ⟨#[]⟩, e, o, true) else if kind = 3 ∧ e < n then (g, t, pg, pt, n, ow, true) else (g, t, pg, pt, e, o, false)) := by
    intro b hb
    refine Ev.step (fun k => impl_Apply.j1.eq_2 _ _ _ _ _ _ _ _ _ _ _ k) ?_
    by_cases h : kind = 1 ∧ g < n
    · exact Ev.pos (by rw [hb]; exact decide_eq_true h) (Ev.done (if_pos h).symm)
    refine Ev.eq (Ev.neg (by rw [hb, decide_eq_false h]; decide) ?_) (if_neg h).symm
    by_cases h2' : kind = 2
    · exact Ev.pos h2' (tail _ (by rw [Bool.eq_iff_iff]; simp [h2']) h)
    · exact Ev.neg h2' (tail _ (by rw [eq_comm, decide_eq_false_iff_not]; exact fun q => h2' q.1) h)
  by_cases h3 : kind = 1
  · exact Ev.pos h3 (mid _ (by rw [Bool.eq_iff_iff]; simp [h3]))
  · exact Ev.neg h3 (mid _ (by rw [eq_comm, decide_eq_false_iff_not]; exact fun q => h3 q.1))
theorem spec_apply (g : Int) (t : ByteArray) (pg : Int) (pt : ByteArray) (e o : Int) (kind n ow : Int) (s : ByteArray) (ht : t.size ≤ 1048576) (hp : pt.size ≤ 1048576) (hs : s.size ≤ 1048576) : Ev (fun k => spec_Apply.f k g t pg pt e o kind n ow s) (applyK g t pg pt e o kind n ow s) := by
  unfold spec_Apply.f applyK
  refine Ev.bind (spec_knownOk g t pg pt e o ht hp) ?_
  by_cases h1 : knownOk g t pg pt e o = true
  case neg =>
    rw [if_neg h1]
    exact Ev.neg h1 (Ev.step (fun k => spec_Apply.j0.eq_2 _ _ _ _ _ _ _ _ _ _ _ k) (Ev.pos rfl (Ev.done rfl)))
  rw [if_pos h1]
  refine Ev.pos h1 (Ev.bind (spec_recOk kind n ow s hs) ?_)
  refine Ev.step (fun k => spec_Apply.j0.eq_2 _ _ _ _ _ _ _ _ _ _ _ k) ?_
  by_cases h2 : recOk kind n ow s = true
  case neg => rw [if_neg h2]; exact Ev.pos (by simpa using h2) (Ev.done rfl)
  rw [if_pos h2]
  refine Ev.neg (by simpa using h2) ?_
  rcases recOk_kind h2 with rfl | rfl | rfl
  · refine Ev.pos rfl ?_
    by_cases h : n ≤ g
    · exact Ev.pos h (Ev.done (by rw [if_neg (by omega), if_neg (by omega), if_neg (by omega)]))
    · exact Ev.neg h (Ev.done (by rw [if_pos (by omega)]))
  · refine Ev.neg (by decide) (Ev.pos rfl ?_)
    by_cases h : n = pg
    · exact Ev.pos h (Ev.done (by rw [if_neg (by omega), if_pos (by omega), h]))
    · exact Ev.neg h (Ev.done (by rw [if_neg (by omega), if_neg (by omega), if_neg (by omega)]))
  · refine Ev.neg (by decide) (Ev.neg (by decide) ?_)
    by_cases h : n ≤ e
    · exact Ev.pos h (Ev.done (by rw [if_neg (by omega), if_neg (by omega), if_neg (by omega)]))
    · exact Ev.neg h (Ev.done (by rw [if_neg (by omega), if_neg (by omega), if_pos (by omega)]))
theorem eqKnown_same (a : Int) (s : ByteArray) (b : Int) (u : ByteArray) (c d : Int) : laws_eqKnown.f a s b u c d a s b u c d = some true := by
  unfold laws_eqKnown.f
  simp
end Go.Proofs.YthkepmicdpgbbaaDoor.Fn

/- The pure statement of the law FnExactApply: the program's Apply and the reference's come to one answer. -/
namespace Go.Proofs.YthkepmicdpgbbaaDoor.Pure
set_option linter.unusedVariables false
set_option linter.unusedSimpArgs false
open Go.RowKit Go.Proofs.YthkepmicdpgbbaaDoorW.PrintWords Go.Proofs.YthkepmicdpgbbaaDoor.P Go.Proofs.YthkepmicdpgbbaaDoor.Base Go.Proofs.YthkepmicdpgbbaaDoor.Fn
theorem FnExactApply : laws_FnExactApply.Pure := by
  intro g t pg pt e o kind n ow s _ ht _ hp _ _ _ _ _ hs
  refine Ev.rounds ?_
  unfold laws_FnExactApply.f
  obtain ⟨r, e1, h1⟩ := szKnown g t pg pt e o 1048576 ht hp (by omega) (by omega)
  refine Ev.then e1 ?_
  by_cases h : r < 0
  · exact Ev.pos h (Ev.done rfl)
  obtain ⟨ht', hp', hr⟩ := h1 (by omega)
  obtain ⟨q, e2, h2⟩ := szRec kind n ow s r hs (by omega) hr
  refine Ev.neg h (Ev.then e2 ?_)
  by_cases h' : q < 0
  · exact Ev.pos h' (Ev.done rfl)
  have hs' := h2 (by omega)
  refine Ev.neg h' (Ev.then rfl (Ev.then rfl (Ev.bind (spec_apply g t pg pt e o kind n ow s ht' hp' hs') (Ev.then rfl (Ev.then rfl (Ev.bind (impl_apply g t pg pt e o kind n ow s ht' hp' hs') (Ev.then (eqKnown_same _ _ _ _ _ _) (Ev.pos rfl (Ev.neg (by simp) (Ev.done rfl))))))))))
end Go.Proofs.YthkepmicdpgbbaaDoor.Pure

/- The statement FnExactApply: the law's row, out of its pure statement and the walk of its code. For every input the law returns true, and each argument reads behind the call as it read before; no condition beyond the row's own. -/
namespace Go.Proofs.YthkepmicdpgbbaaDoor.fnExactApply
open Go.ChangeShapes Go.WideShapes Go.ChangeAt Go.RowKit Go.Proofs.YthkepmicdpgbbaaDoorW.PrintWords Go.Proofs.YthkepmicdpgbbaaDoor.P Go.Proofs.YthkepmicdpgbbaaDoor.Open
open Go.ChangeMaps (open_string shut_string)
set_option linter.unusedVariables false
theorem own : ownKnob Tryd.prog.godebug = none := by kernel_rfl
theorem laidOut : laidOutB Tryd.prog = true := by kernel_rfl
theorem open3 : Opens Tryd.prog 3 (Kd.int .i64) (fun n => (Lit.int .i64 n).wf = true) := Opens.int Tryd.underlying3
theorem open9 : Opens Tryd.prog 9 Kd.string (fun s => s.size ≤ maxLen) := Opens.string Tryd.underlying9
theorem open29 : Opens Tryd.prog 29 k29 (fun x => ((Lit.int .i64 x.f0).wf = true ∧ x.f1.size ≤ maxLen ∧ (Lit.int .i64 x.f2).wf = true ∧ x.f3.size ≤ maxLen ∧ (Lit.int .i64 x.f4).wf = true ∧ (Lit.int .i64 x.f5).wf = true)) := Opens.struct (fun x : S29 => (x.f0, x.f1, x.f2, x.f3, x.f4, x.f5)) (fun y => ⟨y.1, y.2.1, y.2.2.1, y.2.2.2.1, y.2.2.2.2.1, y.2.2.2.2.2⟩) (fun y => rfl) Tryd.underlying29 (by kernel_rfl) (FieldsOpen.cons open3 rfl (by kernel_rfl) (FieldsOpen.cons open9 rfl (by kernel_rfl) (FieldsOpen.cons open3 rfl (by kernel_rfl) (FieldsOpen.cons open9 rfl (by kernel_rfl) (FieldsOpen.cons open3 rfl (by kernel_rfl) (FieldsOpen.one open3 rfl (by kernel_rfl)))))))
theorem open31 : Opens Tryd.prog 31 k31 (fun x => ((Lit.int .i64 x.f0).wf = true ∧ (Lit.int .i64 x.f1).wf = true ∧ (Lit.int .i64 x.f2).wf = true ∧ x.f3.size ≤ maxLen)) := Opens.struct (fun x : S31 => (x.f0, x.f1, x.f2, x.f3)) (fun y => ⟨y.1, y.2.1, y.2.2.1, y.2.2.2⟩) (fun y => rfl) Tryd.underlying31 (by kernel_rfl) (FieldsOpen.cons open3 rfl (by kernel_rfl) (FieldsOpen.cons open3 rfl (by kernel_rfl) (FieldsOpen.cons open3 rfl (by kernel_rfl) (FieldsOpen.one open9 rfl (by kernel_rfl)))))
theorem laid_met (os : Os) (args : Array Value) : laidMetH Tryd.prog Rows.fnExactApplyRow.laid ((World.laidAll Tryd.prog os Rows.fnExactApplyRow.laid).forCall (fun _ _ => 0) ⟨#[], args, []⟩).memory := by
  rw [MakeChecks.laidMetH_plain _ _ _ (by kernel_rfl)]
  exact laidMet_laidAll args (by kernel_rfl) (by kernel_rfl)
set_option maxRecDepth 100000 in
theorem lifted (os : Os) (started : os.Started) (H : Type) (enc : TypeId × Value → H) :
    ReturnsInHanded {} Tryd.checked os 4 .any (fun w args => (Rows.fnExactApplySpec.pre enc Tryd.prog Tryd.f4 Rows.fnExactApplyRow.domain false w args ∧ laidMetH Tryd.prog Rows.fnExactApplyRow.laid w) ∧ sizedMet enc Tryd.prog Tryd.f4 (OpenSpec.ofChange Rows.fnExactApplySpec) false w args) (Rows.fnExactApplySpec.post enc Tryd.prog Tryd.f4 false true false false) := by
  refine Card.returns_both (C := Tryd.checked) (X := fun w _ => laidMetH Tryd.prog Rows.fnExactApplyRow.laid w) (fun _ _ _ hh h => h.of_heap hh) own started (by kernel_rfl) Tryd.func4
    (ChangeSpec.witness_at (enc := enc) (C := Tryd.checked) (os := os) (X := fun w _ => laidMetH Tryd.prog Rows.fnExactApplyRow.laid w) false (World.laidAll Tryd.prog os Rows.fnExactApplyRow.laid) #[.agg #[.int .i64 0, .string ByteArray.empty, .int .i64 0, .string ByteArray.empty, .int .i64 0, .int .i64 0], .agg #[.int .i64 0, .int .i64 0, .int .i64 0, .string ByteArray.empty]] 8 (World.laidAll_os _ _ _) (by kernel_rfl) (by kernel_rfl) (by kernel_rfl) (by kernel_rfl) (by kernel_rfl) (laid_met os _)) ?_
  intro W base args ds gs before hval0 hW hcnd hsz0 hL hShape _
  have hGW : Go.Proofs.YthkepmicdpgbbaaDoor.P.GW W := Card.gw hL (by kernel_rfl) (by kernel_rfl) hShape
  have hval : ∀ (j : Nat) t v, Tryd.f4.params[j]? = some t → args[j]? = some v → Value.okWide Tryd.prog W .any base t v := hval0
  have hW' := hW
  obtain ⟨p, q, hA0, hV, rfl, hfz, hnd⟩ := hW
  have hA : DataW.TrodAll enc Tryd.prog W 0 (fun _ => true) true Tryd.f4.params.toList args.toList ds p := hA0
  rw [Tryd.params4] at hA hval
  obtain ⟨v0, vs0, d0, ds0, p0, q0, hargs, rfl, rfl, h0, r0⟩ := trodAll_cons hA
  obtain ⟨v1, vs1, d1, ds1, p1, q1, rfl, rfl, rfl, h1, r1⟩ := trodAll_cons r0
  obtain ⟨rfl, rfl, rfl⟩ := trodAll_nil r1
  obtain rfl : args = #[v0, v1] := by cases args; simp_all
  obtain ⟨rfl, rfl⟩ := trodVars_none hV
  have k0 := h0
  have lt0 : ∀ x ∈ p0, x.block < W.heap.size := by obtain ⟨m, hm⟩ := k0; exact DataW.trod_lt m _ _ _ hm
  obtain ⟨y0, hk0, hg0⟩ : ∃ y, k29.K W y v0.cells.toList ∧ ((Lit.int .i64 y.f0).wf = true ∧ y.f1.size ≤ maxLen ∧ (Lit.int .i64 y.f2).wf = true ∧ y.f3.size ≤ maxLen ∧ (Lit.int .i64 y.f4).wf = true ∧ (Lit.int .i64 y.f5).wf = true) := by
    obtain ⟨fuel, hf⟩ := h0
    exact open29 enc W _ _ _ fuel _ _ hf
  obtain ⟨cs0, rfl, sz0⟩ := okWide_struct Tryd.underlying28 (hval 0 29 v0 rfl rfl)
  have e0 := k29_open hk0
  obtain rfl : cs0 = #[.int .i64 y0.f0, .string y0.f1, .int .i64 y0.f2, .string y0.f3, .int .i64 y0.f4, .int .i64 y0.f5] := by rw [← Array.toList_inj]; exact e0
  have k1 := h1
  have lt1 : ∀ x ∈ p1, x.block < W.heap.size := by obtain ⟨m, hm⟩ := k1; exact DataW.trod_lt m _ _ _ hm
  obtain ⟨y1, hk1, hg1⟩ : ∃ y, k31.K W y v1.cells.toList ∧ ((Lit.int .i64 y.f0).wf = true ∧ (Lit.int .i64 y.f1).wf = true ∧ (Lit.int .i64 y.f2).wf = true ∧ y.f3.size ≤ maxLen) := by
    obtain ⟨fuel, hf⟩ := h1
    exact open31 enc W _ _ _ fuel _ _ hf
  obtain ⟨cs1, rfl, sz1⟩ := okWide_struct Tryd.underlying30 (hval 1 31 v1 rfl rfl)
  have e1 := k31_open hk1
  obtain rfl : cs1 = #[.int .i64 y1.f0, .int .i64 y1.f1, .int .i64 y1.f2, .string y1.f3] := by rw [← Array.toList_inj]; exact e1
  clear hA0 hval0 hsz0
  obtain ⟨kk, hP⟩ := Pure.FnExactApply y0.f0 y0.f1 y0.f2 y0.f3 y0.f4 y0.f5 y1.f0 y1.f1 y1.f2 y1.f3 hg0.1 hg0.2.1 hg0.2.2.1 hg0.2.2.2.1 hg0.2.2.2.2.1 hg0.2.2.2.2.2 hg1.1 hg1.2.1 hg1.2.2.1 hg1.2.2.2
  refine (laws_FnExactApply.calls kk y0.f0 y0.f1 y0.f2 y0.f3 y0.f4 y0.f5 y1.f0 y1.f1 y1.f2 y1.f3 true W hGW  ⟨rfl⟩ hP).mono fun e W' hq => ?_
  obtain ⟨he, hb⟩ := hq
  have bel : Below W.heap.size W W' := by first | exact hb | exact hb.below
  subst he
  exact ⟨_, rfl, _, _, _, [], _, [], hW', trodAll_mk1 (shut_bool Tryd.underlying4 _), (trodAll_cons_mk (Below.trod laidOut (by kernel_rfl) (of_decide_eq_true (by kernel_rfl)) k0 bel lt0) (trodAll_cons_mk (Below.trod laidOut (by kernel_rfl) (of_decide_eq_true (by kernel_rfl)) k1 bel lt1) trodAll_mk0)), rfl, bel.frame _, fun h => by cases h⟩
theorem over : Rows.fnExactApplyRow.holds Tryd.pinned (OpenSpec.ofChange Rows.fnExactApplySpec) :=
  OpenClaim.holds_of_wide 4 Tryd.f4 rfl rfl rfl rfl rfl rfl rfl ⟨rfl, rfl, rfl, rfl, rfl⟩ rfl rfl rfl rfl rfl (by kernel_rfl) Tryd.func4 (by kernel_rfl)
    (of_decide_eq_true (by kernel_rfl)) (by unfold Func.isWrapper; first | (rw [if_pos (by decide +kernel)]; kernel_rfl) | (rw [if_neg (by decide +kernel)]; exact ⟨rfl, rfl⟩))
    (fun os started H enc _ => lifted os started H enc)
theorem proved : Rows.FnExactApplySaid := over
theorem card : Rows.FnExactApplyCardSaid :=
  Claim7.holds_tied_plain_at .later [] [.data, .data, .data, .data, .pinned] true (true, "2bf4e307c9a18cbf5060393fa9f3b2bac9b7f5cccf8076f37bed0e9f1a4a7918") false
    over (fun _ h => by cases h) (by kernel_rfl) (fun _ h => by cases h) fnExactApply_row_tie rfl ⟨rfl, rfl⟩ (by kernel_rfl) rfl
    (fun f fn hf hfn => by
      obtain rfl : f = 4 := Option.some.inj ((show Tryd.prog.funcNamed Rows.fnExactApplyRow.func = some 4 by kernel_rfl).symm.trans hf) |>.symm
      obtain rfl : fn = Tryd.f4 := (Option.some.inj (Tryd.func4.symm.trans hfn)).symm
      refine ⟨by kernel_rfl, fun j t ht => ?_⟩
      have hall : Tryd.f4.params.toList.all (fun t => !(Tryd.prog.wantsStandIn t)) = true := by kernel_rfl
      have hm : t ∈ Tryd.f4.params.toList := by
        rw [← Array.getElem?_toList] at ht
        exact List.mem_of_getElem? ht
      have h3 : Tryd.prog.wantsStandIn t = false := by simpa using List.all_eq_true.1 hall t hm
      exact h3)
    (by kernel_rfl)
#print axioms card
end Go.Proofs.YthkepmicdpgbbaaDoor.fnExactApply
namespace Go.Proofs.YthkepmicdpgbbaaDoor
/-- The card, under a short name, for the claim. -/
theorem fnExactApply_holds : Rows.FnExactApplyCardSaid := fnExactApply.card
end Go.Proofs.YthkepmicdpgbbaaDoor
