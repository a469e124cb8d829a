/- Texts of this seat's claims, put together: PkYEs7 -/
import Derived.Test.YthkepmicdpgbbaaGreatDoorPkYzEs6
/- What the functions' codes come to. -/
namespace Go.Proofs.YthkepmicdpgbbaaGreatDoor.E
open Go Go.RowKit Go.Proofs.YthkepmicdpgbbaaGreatDoorW.PrintWords Go.Proofs.YthkepmicdpgbbaaGreatDoor.P
set_option linter.unusedVariables false
set_option linter.unusedSimpArgs false
set_option maxHeartbeats 0
set_option maxRecDepth 100000
theorem gYs7 : (∀ {kf a0_0 a0_1 a0_2 a0_3 r}, spec_RecOk.f kf a0_0 a0_1 a0_2 a0_3 = some r → Spec Tryz.prog 16 [.agg [.v (.i .i64 a0_0), .v (.i .i64 a0_1), .v (.i .i64 a0_2), .v (.s a0_3)]] [] (.v (.b r)) []) ∧
  (∀ {kf a0_0 a0_1 a0_2 a0_3 a0_4 a0_5 r}, spec_KnownOk.f kf a0_0 a0_1 a0_2 a0_3 a0_4 a0_5 = some r → Spec Tryz.prog 110 [.agg [.v (.i .i64 a0_0), .v (.s a0_1), .v (.i .i64 a0_2), .v (.s a0_3), .v (.i .i64 a0_4), .v (.i .i64 a0_5)]] [] (.v (.b r)) []) ∧
  (∀ {kf s0_0 s0_1 s0_2 r}, spec_l3Draw.f kf s0_0 s0_1 s0_2 = some r → Spec Tryz.prog 104 [.ptr 0 0] [.box 115 [.v (.row (List.map e5 s0_0)), .v (.i .i64 s0_1), .v (.i .i64 s0_2)]] (.own 1 (List.map e138 r.1).length) [.box 115 [.v (.row (List.map e5 s0_0)), .v (.i .i64 r.2.1), .v (.i .i64 r.2.2)], .arr 5 138 false (List.map e138 r.1)]) ∧
  (∀ {kf s0_0 s0_1 s0_2 r}, spec_l2Any.f kf s0_0 s0_1 s0_2 = some r → Spec Tryz.prog 124 [.ptr 0 0] [.box 115 [.v (.row (List.map e5 s0_0)), .v (.i .i64 s0_1), .v (.i .i64 s0_2)]] (.agg [.own 1 (List.map e22 r.1).length, .own 2 (List.map e109 r.2.1).length, .v (.i .i64 r.2.2.1), .v (.b r.2.2.2.1)]) [.box 115 [.v (.row (List.map e5 s0_0)), .v (.i .i64 r.2.2.2.2.1), .v (.i .i64 r.2.2.2.2.2)], .arr 1 22 false (List.map e22 r.1), .arr 2 109 false (List.map e109 r.2.1)]) := by
  refine ⟨@fun kf a0_0 a0_1 a0_2 a0_3 r H => fn_okF (E := env) Tryz.func16 (by rfl) rfl (n := 41) (by rfl) ?_,
   @fun kf a0_0 a0_1 a0_2 a0_3 a0_4 a0_5 r110 H => fn_okF (E := env) Tryz.func110 (by rfl) rfl (n := 69) (by rfl) ?_,
   @fun kf s0_0 s0_1 s0_2 r H => fn_okF (E := env) Tryz.func104 (by rfl) rfl (n := 31) (by rfl) ?_,
   @fun kf s0_0 s0_1 s0_2 r H => fn_okF (E := env) Tryz.func124 (by rfl) rfl (n := 57) (by rfl) ?_⟩
  all_goals simp only [spec_RecOk.f, spec_KnownOk.f, spec_l3Draw.f, spec_l2Any.f, Option.bind_some, List.nil_append, if_true, if_false, Bool.false_eq_true, nilB, nilE] at H
  all_goals repeat' ((conv => whnf); first
   | ((with_reducible have hp := peel_ H); clear H; obtain ⟨_, H⟩ := hp)
   | ((with_reducible have hp := peeln_ H); clear H; obtain ⟨_, H⟩ := hp)
   | (with_reducible replace H := itet_ H)
   | (with_reducible replace H := itef_ H)
   | ((with_reducible refine sideid_ ?_); refine side_ ?_)
   | ((with_reducible refine seqid_ ?_); first
    | ((with_reducible refine scg_ 1 ?_); refine scut_ 1 (fun s h => ∃ x34 x782000 x782001 x782002 x782003 x782004 x782005, spec_KnownOk.j0 kf x34 x782000 x782001 x782002 x782003 x782004 x782005 = some r110 ∧ s = spr 70 0 [(1, .ptr 0 0), (34, .v (.b x34))] ∧ h = [.box 41 [.v (.i .i64 x782000), .v (.s x782001), .v (.i .i64 x782002), .v (.s x782003), .v (.i .i64 x782004), .v (.i .i64 x782005)]]) ?_ ?_)
    | ((with_reducible refine scg_ 3 ?_); refine scut_ 3 (fun s h => ∃ x53 x782000 x782001 x782002 x782003 x782004 x782005, spec_KnownOk.j1 kf x53 x782000 x782001 x782002 x782003 x782004 x782005 = some r110 ∧ s = spr 70 0 [(1, .ptr 0 0), (53, .v (.b x53))] ∧ h = [.box 41 [.v (.i .i64 x782000), .v (.s x782001), .v (.i .i64 x782002), .v (.s x782003), .v (.i .i64 x782004), .v (.i .i64 x782005)]]) ?_ ?_)
    | (refine sgo_ ?_))
   | ((with_reducible refine brid_ ?_); first
    | (with_reducible refine brct_ ?_)
    | (with_reducible refine brcf_ ?_)
    | (with_reducible refine brt_ ?_)
    | (with_reducible refine brf_ ?_)
    | (refine bra_ H (fun _ H => ?_) (fun _ H => ?_))
    | (refine brna_ H (fun _ H => ?_) (fun _ H => ?_))
    | (refine brt_ ?_)
    | (refine brf_ ?_)
    | (refine bre_ H (fun _ H => ?_) (fun _ H => ?_))
    | (refine brne_ H (fun _ H => ?_) (fun _ H => ?_)))
   | ((with_reducible refine br2id_ ?_); first
    | (refine br2t_ ?_)
    | (refine br2f_ ?_))
   | ((with_reducible refine blkid_ ?_); refine bgo_ ?_)
   | ((with_reducible refine normid_ ?_); first
    | (refine norm_nilapp ?_)
    | (refine norm_appnil ?_)
    | (refine norm_app ?_)
    | (refine norm_t ?_)
    | (refine norm_d ?_)
    | (refine norm_td ?_)
    | (refine norm_set (e := 3) (f := e3) _ rfl ?_)
    | (refine norm_rep (e := 3) (f := e3) _ rfl ?_)
    | (refine norm_lit (e := 3) (n := 2) (f := e3) [_, _] rfl ?_)
    | (refine norm_lit (e := 3) (n := 3) (f := e3) [_, _, _] rfl ?_)
    | (refine norm_set (e := 22) (f := e22) _ rfl ?_)
    | (refine norm_rep (e := 22) (f := e22) _ rfl ?_)
    | (refine norm_rep (e := 22) (f := e22) [] rfl ?_)
    | (refine norm_set (e := 22) (f := e22) [] rfl ?_)
    | (refine norm_lit (e := 22) (n := 0) (f := e22) [] rfl ?_)
    | (refine norm_set (e := 109) (f := e109) ⟨_, _⟩ rfl ?_)
    | (refine norm_rep (e := 109) (f := e109) ⟨_, _⟩ rfl ?_)
    | (refine norm_rep (e := 109) (f := e109) ⟨_, []⟩ rfl ?_)
    | (refine norm_set (e := 109) (f := e109) ⟨_, []⟩ rfl ?_)
    | (refine lit109 _ _ rfl ?_)
    | (refine lit109 _ [] rfl ?_)
    | (refine norm_lit (e := 109) (n := 1) (f := e109) [⟨_, _⟩] rfl ?_)
    | (refine norm_set (e := 138) (f := e138) ⟨_, _, _, _, _⟩ rfl ?_)
    | (refine norm_rep (e := 138) (f := e138) ⟨_, _, _, _, _⟩ rfl ?_)
    | (refine norm_lit (e := 138) (n := 0) (f := e138) [] rfl ?_)
    | (refine lit138 _ _ _ _ _ rfl ?_)
    | (refine norm_lit (e := 138) (n := 1) (f := e138) [⟨_, _, _, _, _⟩] rfl ?_))
   | ((with_reducible refine elemid_ ?_); first
    | (refine elema_ (f := e3) 0 (rd _ _) rfl ?_)
    | (refine elema_ (f := e22) [] (rd_L6 _ _) rfl ?_)
    | (refine elema_ (f := e109) z109 (rd_T109 _ _) rfl ?_)
    | (refine elema_ (f := e138) z138 (rd_T138 _ _) rfl ?_))
   | ((with_reducible refine lenid_ ?_); refine lenm_ ?_)
   | ((with_reducible refine strid_ ?_); first
    | (refine stre_ ?_)
    | (refine stre0_ ?_))
   | ((with_reducible refine callid_ ?_); (first | with_reducible have hp := bnd_ H | have hp := tl_ H); clear H; obtain ⟨_, ht, H⟩ := hp; (first
    | (with_reducible have ht := gYs5.2.1 ht)
    | (with_reducible have ht := gYs4.2.2.2.1 ht)
    | (with_reducible have ht := gYs5.2.2.2.2.2.2 ht)
    | (with_reducible have ht := gYs6.2.2 ht)
    | (with_reducible have ht := gYs6.2.1 ht)
    | (with_reducible have ht := gYs4.2.2.2.2.1 ht)
    | (with_reducible have ht := gYs1.1 ht)
    | (with_reducible have ht := gYs6.1 ht)); refine call_ ht rfl rfl ?_)
   | ((with_reducible refine handid_ ?_); refine handa_ ?_)
   | ((with_reducible refine mkid_ ?_); refine mka_ ?_)
   | ((with_reducible refine loopid_ ?_); (first
    | ((with_reducible have hk := idH_ (F := fun k => spec_l2Any.l0 k _ _ _ _ _ _ _) H); clear hk; refine loopK_ (fun n s h => ∃ x1001 x1002 x1591000 x1591001 x1591002 x1591003, spec_l2Any.l0 n s0_0 x1001 x1002 x1591000 x1591001 x1591002 x1591003 = some r ∧ s = spr 58 0 [(0, .ptr 0 0), (2, .ptr 1 0), (3, .ptr 2 0)] ∧ h = [.box 115 [.v (.row (List.map e5 s0_0)), .v (.i .i64 x1001), .v (.i .i64 x1002)], .box 46 [.nil, .nil, .v (.i .i64 0), .v (.b false)], .box 46 [.own 3 (List.map e22 x1591000).length, .own 4 (List.map e109 x1591001).length, .v (.i .i64 x1591002), .v (.b x1591003)], .arr 1 22 false (List.map e22 x1591000), .arr 2 109 false (List.map e109 x1591001)]) [] [] [] (bsp 58 0 [0, 2, 3]) _ (by (conv => whnf); refine ⟨_, _, _, _, _, _, H, rfl, rfl⟩) ?_; rintro n s h hn ⟨x1001, x1002, x1591000, x1591001, x1591002, x1591003, H, rfl, rfl⟩)
    | ((with_reducible have hk := idH_ (F := fun k => spec_l3Draw.l0 k _ _ _ _ _) H); clear hk; refine loopK_ (fun n s h => ∃ x3 x4 x1001 x1002, spec_l3Draw.l0 n x3 x4 s0_0 x1001 x1002 = some r ∧ s = spr 32 0 [(0, .ptr 0 0), (3, .own 1 (List.map e138 x3).length), (4, .v (.i .i64 x4))] ∧ h = [.box 115 [.v (.row (List.map e5 s0_0)), .v (.i .i64 x1001), .v (.i .i64 x1002)], .arr 5 138 false (List.map e138 x3)]) [] [] [] (bsp 32 0 [0, 3, 4]) _ (by (conv => whnf); refine ⟨_, _, _, _, H, rfl, rfl⟩) ?_; rintro n s h hn ⟨x3, x4, x1001, x1002, H, rfl, rfl⟩)); all_goals (obtain _ | kf := n; (· first | (cases H; done) | (simp only [spec_l2Any.l0, spec_l3Draw.l0] at H; cases H; done)); simp only [spec_l2Any.l0, spec_l3Draw.l0, Option.bind_some, List.nil_append, if_true, if_false, Bool.false_eq_true, nilB, nilE] at H))
   | ((with_reducible refine nextid_ ?_); (first
    | (refine nextK_ (P := fun m => spec_l2Any.l0 m _ _ _ _ _ _ _ = some _) H (bsp 58 0 [0, 2, 3]) ?_ ?_ ?_)
    | (refine nextK_ (P := fun m => spec_l3Draw.l0 m _ _ _ _ _ = some _) H (bsp 32 0 [0, 3, 4]) ?_ ?_ ?_)); (conv => whnf); (first | refine ⟨_, _, _, _, H, ?_, rfl⟩ | refine ⟨_, _, _, _, H, ?_, ?_⟩ | refine ⟨_, _, _, _, _, _, H, ?_, rfl⟩ | refine ⟨_, _, _, _, _, _, H, ?_, ?_⟩); all_goals first | omega | rfl | (repeat' (first | rfl | refine own_eq ?_ | refine box_eq ?_ | refine cons_eq ?_ ?_ | refine vi_eq ?_ | simp only [List.length_map, List.length_set, wm_])))
   | ((with_reducible refine exid_ ?_); first
    | (have hk := idH_ (F := fun k => spec_KnownOk.j0 k _ _ _ _ _ _ _) H; refine weakK_ (ex := []) (us := []) (bs := []) (ms := (bsp 70 0 [1, 34])) ?_; (conv => whnf); refine ⟨_, _, _, _, _, _, _, hk, rfl, rfl⟩)
    | (have hk := idH_ (F := fun k => spec_KnownOk.j1 k _ _ _ _ _ _ _) H; refine weakK_ (ex := []) (us := []) (bs := []) (ms := (bsp 70 0 [1, 53])) ?_; (conv => whnf); refine ⟨_, _, _, _, _, _, _, hk, rfl, rfl⟩))
   | ((with_reducible refine allid_ ?_); first
    | (intro s h hj; clear H; obtain ⟨x34, x782000, x782001, x782002, x782003, x782004, x782005, H, rfl, rfl⟩ := hj; have hk := suc_ (g := fun k => spec_KnownOk.j0 k _ _ _ _ _ _ _) H (by simp only [spec_KnownOk.j0]); obtain ⟨kf, hk⟩ := hk; subst hk; simp only [spec_KnownOk.j0, Option.bind_some, List.nil_append, if_true, if_false, Bool.false_eq_true, nilB, nilE] at H)
    | (intro s h hj; clear H; obtain ⟨x53, x782000, x782001, x782002, x782003, x782004, x782005, H, rfl, rfl⟩ := hj; have hk := suc_ (g := fun k => spec_KnownOk.j1 k _ _ _ _ _ _ _) H (by simp only [spec_KnownOk.j1]); obtain ⟨kf, hk⟩ := hk; subst hk; simp only [spec_KnownOk.j1, Option.bind_some, List.nil_append, if_true, if_false, Bool.false_eq_true, nilB, nilE] at H))
   | ((with_reducible refine finid_ ?_); refine finK_ [] ?_; (conv => whnf); replace H := Option.some.inj H; subst H; (conv => whnf); exact feq_ rfl))
end Go.Proofs.YthkepmicdpgbbaaGreatDoor.E
