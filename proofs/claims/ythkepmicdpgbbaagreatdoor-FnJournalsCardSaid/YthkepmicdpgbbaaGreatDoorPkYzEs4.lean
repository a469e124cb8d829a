/- Texts of this seat's claims, put together: PkYEs4 -/
import Derived.Test.YthkepmicdpgbbaaGreatDoorPkYzEs3
/- What the functions' codes come to. -/
namespace Go.Proofs.YthkepmicdpgbbaaGreatDoor.E
open Go Go.RowKit Go.Proofs.YthkepmicdpgbbaaGreatDoorW.PrintWords Go.Proofs.YthkepmicdpgbbaaGreatDoor.P
set_option linter.unusedVariables false
set_option linter.unusedSimpArgs false
set_option maxHeartbeats 0
set_option maxRecDepth 100000
theorem gYs4 : (∀ {kf l0 r}, spec_ConfOk.f kf l0 = some r → Spec Tryz.prog 126 [.v (.row (List.map e138 l0))] [] (.v (.b r)) []) ∧
  (∀ {kf l0_0 l0_1 a0_2 a0_3 r}, spec_SyncDisk.f kf l0_0 l0_1 a0_2 a0_3 = some r → Spec Tryz.prog 89 [.agg [.v (.row (List.map e22 l0_0)), .v (.row (List.map e109 l0_1)), .v (.i .i64 a0_2), .v (.b a0_3)]] [] (.agg [.own 0 (List.map e22 r.1).length, .own 1 (List.map e109 r.2.1).length, .v (.i .i64 r.2.2.1), .v (.b r.2.2.2)]) [.arr 1 22 false (List.map e22 r.1), .arr 2 109 false (List.map e109 r.2.1)]) ∧
  (∀ {kf l0_0 l0_1 a0_2 a0_3 a1 l2 r}, spec_WriteSec.f kf l0_0 l0_1 a0_2 a0_3 a1 l2 = some r → Spec Tryz.prog 90 [.agg [.v (.row (List.map e22 l0_0)), .v (.row (List.map e109 l0_1)), .v (.i .i64 a0_2), .v (.b a0_3)], .v (.i .i64 a1), .v (.row (List.map e5 l2))] [] (.agg [.own 0 (List.map e22 r.1).length, .own 1 (List.map e109 r.2.1).length, .v (.i .i64 r.2.2.1), .v (.b r.2.2.2)]) [.arr 1 22 false (List.map e22 r.1), .arr 2 109 false (List.map e109 r.2.1)]) ∧
  (∀ {s0_0 s0_1 s0_2 a1 r}, spec_l1Below.f s0_0 s0_1 s0_2 a1 = some r → Spec Tryz.prog 49 [.ptr 0 0, .v (.i .i64 a1)] [.box 115 [.v (.row (List.map e5 s0_0)), .v (.i .i64 s0_1), .v (.i .i64 s0_2)]] (.v (.i .i64 r.1)) [.box 115 [.v (.row (List.map e5 s0_0)), .v (.i .i64 r.2.1), .v (.i .i64 r.2.2)]]) ∧
  (∀ {kf l0 a1 r}, spec_DbAt.f kf l0 a1 = some r → Spec Tryz.prog 129 [.v (.row (List.map e138 l0)), .v (.s a1)] [] (.tup [.agg [.v (.s r.1), .v (.i .i64 r.2.1), .v (.i .i64 r.2.2.1), .v (.i .i64 r.2.2.2.1), .v (.i .i64 r.2.2.2.2.1)], .v (.b r.2.2.2.2.2)]) []) ∧
  (∀ {kf a0 r}, spec_DiskNew.f kf a0 = some r → Spec Tryz.prog 137 [.v (.i .i64 a0)] [] (.agg [.own 0 (List.map e22 r.1).length, .own 1 (List.map e109 r.2.1).length, .v (.i .i64 r.2.2.1), .v (.b r.2.2.2)]) [.arr 1 22 false (List.map e22 r.1), .arr 2 109 false (List.map e109 r.2.1)]) := by
  refine ⟨@fun kf l0 r H => fn_okF (E := env) Tryz.func126 (by rfl) rfl (n := 35) (by rfl) ?_,
   @fun kf l0_0 l0_1 a0_2 a0_3 r H => fn_okF (E := env) Tryz.func89 (by rfl) rfl (n := 40) (by rfl) ?_,
   @fun kf l0_0 l0_1 a0_2 a0_3 a1 l2 r H => fn_okF (E := env) Tryz.func90 (by rfl) rfl (n := 47) (by rfl) ?_,
   @fun s0_0 s0_1 s0_2 a1 r H => fn_okF (E := env) Tryz.func49 (by rfl) rfl (n := 29) (by rfl) ?_,
   @fun kf l0 a1 r H => fn_okF (E := env) Tryz.func129 (by rfl) rfl (n := 23) (by rfl) ?_,
   @fun kf a0 r H => fn_okF (E := env) Tryz.func137 (by rfl) rfl (n := 21) (by rfl) ?_⟩
  all_goals simp only [spec_ConfOk.f, spec_SyncDisk.f, spec_WriteSec.f, spec_l1Below.f, spec_DbAt.f, spec_DiskNew.f, Option.bind_some, List.nil_append, if_true, if_false, Bool.false_eq_true, nilB, nilE] at H
  all_goals repeat' ((conv => whnf); first
   | ((with_reducible have hp := peel_ H); clear H; obtain ⟨_, H⟩ := hp)
   | ((with_reducible have hp := peeln_ H); clear H; obtain ⟨_, H⟩ := hp)
   | (with_reducible replace H := itet_ H)
   | (with_reducible replace H := itef_ H)
   | ((with_reducible refine sideid_ ?_); refine side_ ?_)
   | ((with_reducible refine seqid_ ?_); refine sgo_ ?_)
   | ((with_reducible refine brid_ ?_); first
    | (with_reducible refine brct_ ?_)
    | (with_reducible refine brcf_ ?_)
    | (with_reducible refine brt_ ?_)
    | (with_reducible refine brf_ ?_)
    | (refine bra_ H (fun _ H => ?_) (fun _ H => ?_))
    | (refine brna_ H (fun _ H => ?_) (fun _ H => ?_))
    | (refine brt_ ?_)
    | (refine brf_ ?_)
    | (refine bre_ H (fun _ H => ?_) (fun _ H => ?_))
    | (refine brne_ H (fun _ H => ?_) (fun _ H => ?_)))
   | ((with_reducible refine br2id_ ?_); first
    | (refine br2t_ ?_)
    | (refine br2f_ ?_))
   | ((with_reducible refine blkid_ ?_); refine bgo_ ?_)
   | ((with_reducible refine normid_ ?_); first
    | (refine norm_nilapp ?_)
    | (refine norm_appnil ?_)
    | (refine norm_app ?_)
    | (refine norm_t ?_)
    | (refine norm_d ?_)
    | (refine norm_td ?_)
    | (refine norm_set (e := 5) (f := e5) _ rfl ?_)
    | (refine norm_rep (e := 5) (f := e5) _ rfl ?_)
    | (refine norm_lit (e := 5) (n := 0) (f := e5) [] rfl ?_)
    | (refine norm_set (e := 22) (f := e22) _ rfl ?_)
    | (refine norm_rep (e := 22) (f := e22) _ rfl ?_)
    | (refine norm_rep (e := 22) (f := e22) [] rfl ?_)
    | (refine norm_set (e := 22) (f := e22) [] rfl ?_)
    | (refine norm_lit (e := 22) (n := 1) (f := e22) [_] rfl ?_)
    | (refine set109 _ _ rfl ?_)
    | (refine norm_set (e := 109) (f := e109) ⟨_, _⟩ rfl ?_)
    | (refine norm_rep (e := 109) (f := e109) ⟨_, _⟩ rfl ?_)
    | (refine norm_rep (e := 109) (f := e109) ⟨_, []⟩ rfl ?_)
    | (refine norm_set (e := 109) (f := e109) ⟨_, []⟩ rfl ?_)
    | (refine lit109 _ _ rfl ?_)
    | (refine lit109 _ [] rfl ?_)
    | (refine norm_lit (e := 109) (n := 1) (f := e109) [⟨_, _⟩] rfl ?_)
    | (refine norm_lit (e := 109) (n := 0) (f := e109) [] rfl ?_)
    | (refine norm_set (e := 138) (f := e138) ⟨_, _, _, _, _⟩ rfl ?_)
    | (refine norm_rep (e := 138) (f := e138) ⟨_, _, _, _, _⟩ rfl ?_))
   | ((with_reducible refine elemid_ ?_); first
    | (refine elema_ (f := e5) 0 (rd _ _) rfl ?_)
    | (refine elema_ (f := e22) [] (rd_L6 _ _) rfl ?_)
    | (refine elema_ (f := e109) z109 (rd_T109 _ _) rfl ?_)
    | (refine elema_ (f := e138) z138 (rd_T138 _ _) rfl ?_))
   | ((with_reducible refine lenid_ ?_); refine lenm_ ?_)
   | ((with_reducible refine strid_ ?_); first
    | (refine stre_ ?_)
    | (refine stre0_ ?_))
   | ((with_reducible refine callid_ ?_); (first | with_reducible have hp := bnd_ H | have hp := tl_ H); clear H; obtain ⟨_, ht, H⟩ := hp; (first
    | (with_reducible have ht := gYs3.2.2.2.2.2.1 ht)
    | (with_reducible have ht := gYs2.2.2.2.2.2.1 ht)
    | (with_reducible have ht := gYs3.2.2.2.1 ht)
    | (with_reducible have ht := gYs2.2.2.2.2.2.2.2 ht)
    | (with_reducible have ht := gYs1.1 ht)
    | (with_reducible have ht := gYs3.1 ht)); refine call_ ht rfl rfl ?_)
   | ((with_reducible refine handid_ ?_); refine handa_ ?_)
   | ((with_reducible refine mkid_ ?_); refine mka_ ?_)
   | ((with_reducible refine loopid_ ?_); (first
    | ((with_reducible have hk := idH_ (F := fun k => spec_DiskNew.l0 k _ _ _ _ _) H); clear hk; refine loopK_ (fun n s h => ∃ x0 x4 x1162000 x1162002 x1162003, spec_DiskNew.l0 n x0 x4 x1162000 x1162002 x1162003 = some r ∧ s = spr 22 0 [(0, .v (.i .i64 x0)), (2, .ptr 0 0), (3, .ptr 1 0), (4, .v (.i .i64 x4))] ∧ h = [.box 46 [.nil, .nil, .v (.i .i64 0), .v (.b false)], .box 46 [.own 2 (List.map e22 x1162000).length, .nil, .v (.i .i64 x1162002), .v (.b x1162003)], .arr 1 22 false (List.map e22 x1162000)]) [(1, 22)] [] [[], [some 2, none, none, none]] (bsp 22 0 [0, 2, 3, 4]) _ (by (conv => whnf); refine ⟨_, _, _, _, _, H, rfl, rfl⟩) ?_; rintro n s h hn ⟨x0, x4, x1162000, x1162002, x1162003, H, rfl, rfl⟩)
    | ((with_reducible have hk := idH_ (F := fun k => spec_DbAt.l0 k _ _ _) H); clear hk; refine loopK_ (fun n s h => ∃ x0 x1 x6, spec_DbAt.l0 n x0 x1 x6 = some r ∧ s = spr 25 0 [(0, .v (.row (List.map e138 x0))), (1, .v (.s x1)), (4, .ptr 0 0), (6, .v (.i .i64 x6))] ∧ h = [.box 138 [.v (.s (⟨#[]⟩ : ByteArray)), .v (.i .i64 0), .v (.i .i64 0), .v (.i .i64 0), .v (.i .i64 0)]]) [] [] [] (bsp 25 0 [0, 1, 4, 6]) _ (by (conv => whnf); refine ⟨_, _, _, H, rfl, rfl⟩) ?_; rintro n s h hn ⟨x0, x1, x6, H, rfl, rfl⟩)
    | ((with_reducible have hk := idH_ (F := fun k => spec_SyncDisk.l0 k _ _ _ _ _ _ _ _ _) H); clear hk; refine loopK_ (fun n s h => ∃ x4 x7000 x7001 x7002 x7003 x8000 x8001 x8002 x8003, spec_SyncDisk.l0 n x4 x7000 x7001 x7002 x7003 x8000 x8001 x8002 x8003 = some r ∧ s = spr 41 0 [(1, .ptr 0 0), (2, .ptr 1 0), (3, .ptr 2 0), (4, .v (.i .i64 x4))] ∧ h = [.box 46 [.v (.row (List.map e22 x7000)), .v (.row (List.map e109 x7001)), .v (.i .i64 x7002), .v (.b x7003)], .box 46 [.nil, .nil, .v (.i .i64 0), .v (.b false)], .box 46 [.own 3 (List.map e22 x8000).length, .own 4 (List.map e109 x8001).length, .v (.i .i64 x8002), .v (.b x8003)], .arr 1 22 false (List.map e22 x8000), .arr 2 109 false (List.map e109 x8001)]) [] [] [] (bsp 41 0 [1, 2, 3, 4]) _ (by (conv => whnf); refine ⟨_, _, _, _, _, _, _, _, _, H, rfl, rfl⟩) ?_; rintro n s h hn ⟨x4, x7000, x7001, x7002, x7003, x8000, x8001, x8002, x8003, H, rfl, rfl⟩)
    | ((with_reducible have hk := idH_ (F := fun k => spec_ConfOk.l0 k _ _) H); clear hk; refine loopK_ (fun n s h => ∃ x0 x3, spec_ConfOk.l0 n x0 x3 = some r ∧ s = spr 36 0 [(0, .v (.row (List.map e138 x0))), (3, .v (.i .i64 x3))] ∧ h = []) [] [] [] (bsp 36 0 [0, 3]) _ (by (conv => whnf); refine ⟨_, _, H, rfl, rfl⟩) ?_; rintro n s h hn ⟨x0, x3, H, rfl, rfl⟩)
    | ((with_reducible have hk := idH_ (F := fun k => spec_ConfOk.l1 k _ _ _) H); clear hk; refine loopK_ (fun n s h => ∃ x0 x3 x4, spec_ConfOk.l1 n x0 x3 x4 = some r ∧ s = spr 36 0 [(0, .v (.row (List.map e138 x0))), (3, .v (.i .i64 x3)), (4, .v (.i .i64 x4))] ∧ h = []) [] [] [] (bsp 36 0 [0, 3, 4]) _ (by (conv => whnf); refine ⟨_, _, _, H, rfl, rfl⟩) ?_; rintro n s h hn ⟨x0, x3, x4, H, rfl, rfl⟩)); all_goals (obtain _ | kf := n; (· first | (cases H; done) | (simp only [spec_ConfOk.l0, spec_ConfOk.l1, spec_DbAt.l0, spec_DiskNew.l0, spec_SyncDisk.l0] at H; cases H; done)); simp only [spec_ConfOk.l0, spec_ConfOk.l1, spec_DbAt.l0, spec_DiskNew.l0, spec_SyncDisk.l0, Option.bind_some, List.nil_append, if_true, if_false, Bool.false_eq_true, nilB, nilE] at H))
   | ((with_reducible refine nextid_ ?_); (first
    | (refine nextK_ (P := fun m => spec_DiskNew.l0 m _ _ _ _ _ = some _) H (bsp 22 0 [0, 2, 3, 4]) ?_ ?_ ?_)
    | (refine nextK_ (P := fun m => spec_DbAt.l0 m _ _ _ = some _) H (bsp 25 0 [0, 1, 4, 6]) ?_ ?_ ?_)
    | (refine nextK_ (P := fun m => spec_SyncDisk.l0 m _ _ _ _ _ _ _ _ _ = some _) H (bsp 41 0 [1, 2, 3, 4]) ?_ ?_ ?_)
    | (refine nextK_ (P := fun m => spec_ConfOk.l0 m _ _ = some _) H (bsp 36 0 [0, 3]) ?_ ?_ ?_)
    | (refine nextK_ (P := fun m => spec_ConfOk.l1 m _ _ _ = some _) H (bsp 36 0 [0, 3, 4]) ?_ ?_ ?_)); (conv => whnf); (first | refine ⟨_, _, H, ?_, rfl⟩ | refine ⟨_, _, H, ?_, ?_⟩ | refine ⟨_, _, _, H, ?_, rfl⟩ | refine ⟨_, _, _, H, ?_, ?_⟩ | refine ⟨_, _, _, _, _, H, ?_, rfl⟩ | refine ⟨_, _, _, _, _, H, ?_, ?_⟩ | refine ⟨_, _, _, _, _, _, _, _, _, H, ?_, rfl⟩ | refine ⟨_, _, _, _, _, _, _, _, _, H, ?_, ?_⟩); all_goals first | omega | rfl | (repeat' (first | rfl | refine own_eq ?_ | refine box_eq ?_ | refine cons_eq ?_ ?_ | refine vi_eq ?_ | simp only [List.length_map, List.length_set, wm_])))
   | ((with_reducible refine finid_ ?_); first
    | (refine finK_ [(1, 22), (2, 109)] ?_; (conv => whnf); replace H := Option.some.inj H; subst H; (conv => whnf); exact feq_ rfl)
    | (refine finK_ [(2, 109)] ?_; (conv => whnf); replace H := Option.some.inj H; subst H; (conv => whnf); exact feq_ rfl)
    | (refine finK_ [] ?_; (conv => whnf); replace H := Option.some.inj H; subst H; (conv => whnf); exact feq_ rfl)))
end Go.Proofs.YthkepmicdpgbbaaGreatDoor.E
