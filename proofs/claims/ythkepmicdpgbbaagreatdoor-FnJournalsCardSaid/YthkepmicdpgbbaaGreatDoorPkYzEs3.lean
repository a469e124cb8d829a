/- Texts of this seat's claims, put together: PkYEs3 -/
import Derived.Test.YthkepmicdpgbbaaGreatDoorPkYzEs2
/- What the functions' codes come to. -/
namespace Go.Proofs.YthkepmicdpgbbaaGreatDoor.E
open Go Go.RowKit Go.Proofs.YthkepmicdpgbbaaGreatDoorW.PrintWords Go.Proofs.YthkepmicdpgbbaaGreatDoor.P
set_option linter.unusedVariables false
set_option linter.unusedSimpArgs false
set_option maxHeartbeats 0
set_option maxRecDepth 100000
theorem gYs3 : (∀ {kf a0_0 a0_1 a0_2 a0_3 a0_4 r}, spec_l3Db.f kf a0_0 a0_1 a0_2 a0_3 a0_4 = some r → Spec Tryz.prog 139 [.agg [.v (.s a0_0), .v (.i .i64 a0_1), .v (.i .i64 a0_2), .v (.i .i64 a0_3), .v (.i .i64 a0_4)]] [] (.v (.b r)) []) ∧
  (∀ {kf l0_0 l0_1 a0_2 a0_3 a1 r}, spec_ReadSec.f kf l0_0 l0_1 a0_2 a0_3 a1 = some r → Spec Tryz.prog 67 [.agg [.v (.row (List.map e22 l0_0)), .v (.row (List.map e109 l0_1)), .v (.i .i64 a0_2), .v (.b a0_3)], .v (.i .i64 a1)] [] (.own 0 (List.map e5 r).length) [.arr 1 5 false (List.map e5 r)]) ∧
  (∀ {kf l0 r}, spec_GetHead.f kf l0 = some r → Spec Tryz.prog 77 [.v (.row (List.map e5 l0))] [] (.tup [.v (.i .i64 r.1), .v (.i .i64 r.2.1), .v (.b r.2.2)]) []) ∧
  (∀ {kf l0_0 l0_1 a0_2 a0_3 r}, spec_l2Copy.f kf l0_0 l0_1 a0_2 a0_3 = some r → Spec Tryz.prog 87 [.agg [.v (.row (List.map e22 l0_0)), .v (.row (List.map e109 l0_1)), .v (.i .i64 a0_2), .v (.b a0_3)]] [] (.agg [.own 0 (List.map e22 r.1).length, .own 1 (List.map e109 r.2.1).length, .v (.i .i64 r.2.2.1), .v (.b r.2.2.2)]) [.arr 1 22 false (List.map e22 r.1), .arr 2 109 false (List.map e109 r.2.1)]) ∧
  (∀ {kf l0 r}, spec_l1New.f kf l0 = some r → Spec Tryz.prog 41 [.v (.row (List.map e5 l0))] [] (.ptr 0 0) [.box 115 [.v (.row (List.map e5 r.1)), .v (.i .i64 r.2.1), .v (.i .i64 r.2.2)]]) ∧
  (∀ {s0_0 s0_1 s0_2 r}, spec_l1Byte.f s0_0 s0_1 s0_2 = some r → Spec Tryz.prog 102 [.ptr 0 0] [.box 115 [.v (.row (List.map e5 s0_0)), .v (.i .i64 s0_1), .v (.i .i64 s0_2)]] (.v (.i .i64 r.1)) [.box 115 [.v (.row (List.map e5 s0_0)), .v (.i .i64 r.2.1), .v (.i .i64 r.2.2)]]) ∧
  (∀ {kf a0 r}, spec_NumText.f kf a0 = some r → Spec Tryz.prog 127 [.v (.i .i64 a0)] [] (.v (.s r)) []) := by
  refine ⟨@fun kf a0_0 a0_1 a0_2 a0_3 a0_4 r H => fn_okF (E := env) Tryz.func139 (by rfl) rfl (n := 25) (by rfl) ?_,
   @fun kf l0_0 l0_1 a0_2 a0_3 a1 r67 H => fn_okF (E := env) Tryz.func67 (by rfl) rfl (n := 47) (by rfl) ?_,
   @fun kf l0 r H => fn_okF (E := env) Tryz.func77 (by rfl) rfl (n := 39) (by rfl) ?_,
   @fun kf l0_0 l0_1 a0_2 a0_3 r H => fn_okF (E := env) Tryz.func87 (by rfl) rfl (n := 57) (by rfl) ?_,
   @fun kf l0 r H => fn_okF (E := env) Tryz.func41 (by rfl) rfl (n := 31) (by rfl) ?_,
   @fun s0_0 s0_1 s0_2 r H => fn_okF (E := env) Tryz.func102 (by rfl) rfl (n := 57) (by rfl) ?_,
   @fun kf a0 r H => fn_okF (E := env) Tryz.func127 (by rfl) rfl (n := 30) (by rfl) ?_⟩
  all_goals simp only [spec_l3Db.f, spec_ReadSec.f, spec_GetHead.f, spec_l2Copy.f, spec_l1New.f, spec_l1Byte.f, spec_NumText.f, Option.bind_some, List.nil_append, if_true, if_false, Bool.false_eq_true, nilB, nilE] at H
  all_goals repeat' ((conv => whnf); first
   | ((with_reducible have hp := peel_ H); clear H; obtain ⟨_, H⟩ := hp)
   | ((with_reducible have hp := peeln_ H); clear H; obtain ⟨_, H⟩ := hp)
   | (with_reducible replace H := itet_ H)
   | (with_reducible replace H := itef_ H)
   | ((with_reducible refine sideid_ ?_); refine side_ ?_)
   | ((with_reducible refine seqid_ ?_); first
    | ((with_reducible refine scg_ 1 ?_); refine scut_ 1 (fun s h => ∃ x1 x18 x767000 x767001 x767002 x767003, spec_ReadSec.j0 kf x1 x18 x767000 x767001 x767002 x767003 = some r67 ∧ s = spr 49 0 [(1, .v (.i .i64 x1)), (2, .ptr 0 0), (18, .v (.b x18))] ∧ h = [.box 46 [.v (.row (List.map e22 x767000)), .v (.row (List.map e109 x767001)), .v (.i .i64 x767002), .v (.b x767003)]]) ?_ ?_)
    | (refine sgo_ ?_))
   | ((with_reducible refine brid_ ?_); first
    | (with_reducible refine brct_ ?_)
    | (with_reducible refine brcf_ ?_)
    | (with_reducible refine brt_ ?_)
    | (with_reducible refine brf_ ?_)
    | (refine bra_ H (fun _ H => ?_) (fun _ H => ?_))
    | (refine brna_ H (fun _ H => ?_) (fun _ H => ?_))
    | (refine brt_ ?_)
    | (refine brf_ ?_)
    | (refine bre_ H (fun _ H => ?_) (fun _ H => ?_))
    | (refine brne_ H (fun _ H => ?_) (fun _ H => ?_)))
   | ((with_reducible refine br2id_ ?_); first
    | (refine br2t_ ?_)
    | (refine br2f_ ?_))
   | ((with_reducible refine blkid_ ?_); refine bgo_ ?_)
   | ((with_reducible refine normid_ ?_); first
    | (refine norm_nilapp ?_)
    | (refine norm_appnil ?_)
    | (refine norm_app ?_)
    | (refine norm_t ?_)
    | (refine norm_d ?_)
    | (refine norm_td ?_)
    | (refine norm_set (e := 5) (f := e5) _ rfl ?_)
    | (refine norm_rep (e := 5) (f := e5) _ rfl ?_)
    | (refine norm_lit (e := 5) (n := 1) (f := e5) [_] rfl ?_)
    | (refine norm_lit (e := 5) (n := 0) (f := e5) [] rfl ?_)
    | (refine norm_set (e := 22) (f := e22) _ rfl ?_)
    | (refine norm_rep (e := 22) (f := e22) _ rfl ?_)
    | (refine norm_rep (e := 22) (f := e22) [] rfl ?_)
    | (refine norm_set (e := 22) (f := e22) [] rfl ?_)
    | (refine norm_lit (e := 22) (n := 1) (f := e22) [_] rfl ?_)
    | (refine set109 _ _ rfl ?_)
    | (refine norm_set (e := 109) (f := e109) ⟨_, _⟩ rfl ?_)
    | (refine norm_rep (e := 109) (f := e109) ⟨_, _⟩ rfl ?_)
    | (refine norm_rep (e := 109) (f := e109) ⟨_, []⟩ rfl ?_)
    | (refine norm_set (e := 109) (f := e109) ⟨_, []⟩ rfl ?_)
    | (refine lit109 _ _ rfl ?_)
    | (refine lit109 _ [] rfl ?_)
    | (refine norm_lit (e := 109) (n := 1) (f := e109) [⟨_, _⟩] rfl ?_))
   | ((with_reducible refine elemid_ ?_); first
    | (refine elema_ (f := e5) 0 (rd _ _) rfl ?_)
    | (refine elema_ (f := e22) [] (rd_L6 _ _) rfl ?_)
    | (refine elema_ (f := e109) z109 (rd_T109 _ _) rfl ?_))
   | ((with_reducible refine lenid_ ?_); refine lenm_ ?_)
   | ((with_reducible refine strid_ ?_); first
    | (refine stre_ ?_)
    | (refine stre0_ ?_))
   | ((with_reducible refine callid_ ?_); (first | with_reducible have hp := bnd_ H | have hp := tl_ H); clear H; obtain ⟨_, ht, H⟩ := hp; (first
    | (with_reducible have ht := gYs1.2.2.2.2.2.1 ht)
    | (with_reducible have ht := gYs1.2.2.2.2.2.2.1 ht)
    | (with_reducible have ht := gYs2.2.2.2.2.2.2.1 ht)
    | (with_reducible have ht := gYs1.1 ht)
    | (with_reducible have ht := gYs2.2.2.2.2.2.1 ht)
    | (with_reducible have ht := gYs2.1 ht)); refine call_ ht rfl rfl ?_)
   | ((with_reducible refine handid_ ?_); refine handa_ ?_)
   | ((with_reducible refine mkid_ ?_); refine mka_ ?_)
   | ((with_reducible refine loopid_ ?_); (first
    | ((with_reducible have hk := idH_ (F := fun k => spec_NumText.l0 k _ _ _) H); clear hk; refine loopK_ (fun n s h => ∃ x0 x3 x4, spec_NumText.l0 n x0 x3 x4 = some r ∧ s = spr 31 0 [(0, .v (.i .i64 x0)), (3, .v (.s x3)), (4, .v (.i .i64 x4))] ∧ h = []) [] [] [] (bsp 31 0 [0, 3, 4]) _ (by (conv => whnf); refine ⟨_, _, _, H, rfl, rfl⟩) ?_; rintro n s h hn ⟨x0, x3, x4, H, rfl, rfl⟩)
    | ((with_reducible have hk := idH_ (F := fun k => spec_l1New.l0 k _ _ _) H); clear hk; refine loopK_ (fun n s h => ∃ x0 x3 x4, spec_l1New.l0 n x0 x3 x4 = some r ∧ s = spr 32 0 [(0, .v (.row (List.map e5 x0))), (3, .v (.i .i64 x3)), (4, .v (.i .i64 x4))] ∧ h = []) [] [] [] (bsp 32 0 [0, 3, 4]) _ (by (conv => whnf); refine ⟨_, _, _, H, rfl, rfl⟩) ?_; rintro n s h hn ⟨x0, x3, x4, H, rfl, rfl⟩)
    | ((with_reducible have hk := idH_ (F := fun k => spec_l2Copy.l0 k _ _ _ _ _ _ _ _) H); clear hk; refine loopK_ (fun n s h => ∃ x4 x1118000 x1118001 x1118002 x1118003 x1120000 x1120002 x1120003, spec_l2Copy.l0 n x4 x1118000 x1118001 x1118002 x1118003 x1120000 x1120002 x1120003 = some r ∧ s = spr 58 0 [(1, .ptr 0 0), (2, .ptr 1 0), (3, .ptr 2 0), (4, .v (.i .i64 x4))] ∧ h = [.box 46 [.v (.row (List.map e22 x1118000)), .v (.row (List.map e109 x1118001)), .v (.i .i64 x1118002), .v (.b x1118003)], .box 46 [.nil, .nil, .v (.i .i64 0), .v (.b false)], .box 46 [.own 3 (List.map e22 x1120000).length, .nil, .v (.i .i64 x1120002), .v (.b x1120003)], .arr 1 22 false (List.map e22 x1120000)]) [(1, 22)] [] [[], [], [some 3, none, none, none]] (bsp 58 0 [1, 2, 3, 4]) _ (by (conv => whnf); refine ⟨_, _, _, _, _, _, _, _, H, rfl, rfl⟩) ?_; rintro n s h hn ⟨x4, x1118000, x1118001, x1118002, x1118003, x1120000, x1120002, x1120003, H, rfl, rfl⟩)
    | ((with_reducible have hk := idH_ (F := fun k => spec_l2Copy.l1 k _ _ _ _ _ _ _ _ _) H); clear hk; refine loopK_ (fun n s h => ∃ x5 x1118000 x1118001 x1118002 x1118003 x1120000 x1120001 x1120002 x1120003, spec_l2Copy.l1 n x5 x1118000 x1118001 x1118002 x1118003 x1120000 x1120001 x1120002 x1120003 = some r ∧ s = spr 58 0 [(1, .ptr 0 0), (2, .ptr 1 0), (3, .ptr 2 0), (5, .v (.i .i64 x5))] ∧ h = [.box 46 [.v (.row (List.map e22 x1118000)), .v (.row (List.map e109 x1118001)), .v (.i .i64 x1118002), .v (.b x1118003)], .box 46 [.nil, .nil, .v (.i .i64 0), .v (.b false)], .box 46 [.own 3 (List.map e22 x1120000).length, .own 4 (List.map e109 x1120001).length, .v (.i .i64 x1120002), .v (.b x1120003)], .arr 1 22 false (List.map e22 x1120000), .arr 2 109 false (List.map e109 x1120001)]) [(2, 109)] [] [[], [], [none, some 4, none, none]] (bsp 58 0 [1, 2, 3, 5]) _ (by (conv => whnf); refine ⟨_, _, _, _, _, _, _, _, _, H, rfl, rfl⟩) ?_; rintro n s h hn ⟨x5, x1118000, x1118001, x1118002, x1118003, x1120000, x1120001, x1120002, x1120003, H, rfl, rfl⟩)
    | ((with_reducible have hk := idH_ (F := fun k => spec_ReadSec.l0 k _ _ _ _ _ _ _) H); clear hk; refine loopK_ (fun n s h => ∃ x1 x5 x6 x767000 x767001 x767002 x767003, spec_ReadSec.l0 n x1 x5 x6 x767000 x767001 x767002 x767003 = some r67 ∧ s = spr 49 0 [(1, .v (.i .i64 x1)), (2, .ptr 0 0), (5, .v (.row (List.map e5 x5))), (6, .v (.i .i64 x6))] ∧ h = [.box 46 [.v (.row (List.map e22 x767000)), .v (.row (List.map e109 x767001)), .v (.i .i64 x767002), .v (.b x767003)]]) [] [] [] (bsp 49 0 [1, 2, 5, 6]) _ (by (conv => whnf); refine ⟨_, _, _, _, _, _, _, H, rfl, rfl⟩) ?_; rintro n s h hn ⟨x1, x5, x6, x767000, x767001, x767002, x767003, H, rfl, rfl⟩)); all_goals (obtain _ | kf := n; (· first | (cases H; done) | (simp only [spec_NumText.l0, spec_ReadSec.l0, spec_l1New.l0, spec_l2Copy.l0, spec_l2Copy.l1] at H; cases H; done)); simp only [spec_NumText.l0, spec_ReadSec.l0, spec_l1New.l0, spec_l2Copy.l0, spec_l2Copy.l1, Option.bind_some, List.nil_append, if_true, if_false, Bool.false_eq_true, nilB, nilE] at H))
   | ((with_reducible refine nextid_ ?_); (first
    | (refine nextK_ (P := fun m => spec_NumText.l0 m _ _ _ = some _) H (bsp 31 0 [0, 3, 4]) ?_ ?_ ?_)
    | (refine nextK_ (P := fun m => spec_l1New.l0 m _ _ _ = some _) H (bsp 32 0 [0, 3, 4]) ?_ ?_ ?_)
    | (refine nextK_ (P := fun m => spec_l2Copy.l0 m _ _ _ _ _ _ _ _ = some _) H (bsp 58 0 [1, 2, 3, 4]) ?_ ?_ ?_)
    | (refine nextK_ (P := fun m => spec_l2Copy.l1 m _ _ _ _ _ _ _ _ _ = some _) H (bsp 58 0 [1, 2, 3, 5]) ?_ ?_ ?_)
    | (refine nextK_ (P := fun m => spec_ReadSec.l0 m _ _ _ _ _ _ _ = some _) H (bsp 49 0 [1, 2, 5, 6]) ?_ ?_ ?_)); (conv => whnf); (first | refine ⟨_, _, _, H, ?_, rfl⟩ | refine ⟨_, _, _, H, ?_, ?_⟩ | refine ⟨_, _, _, _, _, _, _, H, ?_, rfl⟩ | refine ⟨_, _, _, _, _, _, _, H, ?_, ?_⟩ | refine ⟨_, _, _, _, _, _, _, _, H, ?_, rfl⟩ | refine ⟨_, _, _, _, _, _, _, _, H, ?_, ?_⟩ | refine ⟨_, _, _, _, _, _, _, _, _, H, ?_, rfl⟩ | refine ⟨_, _, _, _, _, _, _, _, _, H, ?_, ?_⟩); all_goals first | omega | rfl | (repeat' (first | rfl | refine own_eq ?_ | refine box_eq ?_ | refine cons_eq ?_ ?_ | refine vi_eq ?_ | simp only [List.length_map, List.length_set, wm_])))
   | ((with_reducible refine exid_ ?_); have hk := idH_ (F := fun k => spec_ReadSec.j0 k _ _ _ _ _ _) H; refine weakK_ (ex := []) (us := []) (bs := []) (ms := (bsp 49 0 [1, 2, 18])) ?_; (conv => whnf); refine ⟨_, _, _, _, _, _, hk, rfl, rfl⟩)
   | ((with_reducible refine allid_ ?_); intro s h hj; clear H; obtain ⟨x1, x18, x767000, x767001, x767002, x767003, H, rfl, rfl⟩ := hj; have hk := suc_ (g := fun k => spec_ReadSec.j0 k _ _ _ _ _ _) H (by simp only [spec_ReadSec.j0]); obtain ⟨kf, hk⟩ := hk; subst hk; simp only [spec_ReadSec.j0, Option.bind_some, List.nil_append, if_true, if_false, Bool.false_eq_true, nilB, nilE] at H)
   | ((with_reducible refine finid_ ?_); refine finK_ [] ?_; (conv => whnf); replace H := Option.some.inj H; subst H; (conv => whnf); exact feq_ rfl))
end Go.Proofs.YthkepmicdpgbbaaGreatDoor.E
