/- Texts of this seat's claims, put together: PkYEi4 -/
import Derived.Test.YthkepmicdpgbbaaGreatDoorPkYzEi3
/- What the functions' codes come to. -/
namespace Go.Proofs.YthkepmicdpgbbaaGreatDoor.E
open Go Go.RowKit Go.Proofs.YthkepmicdpgbbaaGreatDoorW.PrintWords Go.Proofs.YthkepmicdpgbbaaGreatDoor.P
set_option linter.unusedVariables false
set_option linter.unusedSimpArgs false
set_option maxHeartbeats 0
set_option maxRecDepth 100000
theorem gYi4 : (∀ {kf l0 r}, impl_ConfText.f kf l0 = some r → Spec Tryz.prog 134 [.v (.row (List.map e138 l0))] [] (.v (.s r)) []) ∧
  (∀ {kf l0 r}, impl_GetHead.f kf l0 = some r → Spec Tryz.prog 79 [.v (.row (List.map e5 l0))] [] (.tup [.v (.i .i64 r.1), .v (.i .i64 r.2.1), .v (.b r.2.2)]) []) ∧
  (∀ {kf l0_0 l0_1 a0_2 a0_3 a1 l2 r}, impl_WriteSec.f kf l0_0 l0_1 a0_2 a0_3 a1 l2 = some r → Spec Tryz.prog 84 [.agg [.v (.row (List.map e22 l0_0)), .v (.row (List.map e109 l0_1)), .v (.i .i64 a0_2), .v (.b a0_3)], .v (.i .i64 a1), .v (.row (List.map e5 l2))] [] (.agg [.own 0 (List.map e22 r.1).length, .own 1 (List.map e109 r.2.1).length, .v (.i .i64 r.2.2.1), .v (.b r.2.2.2)]) [.arr 1 22 false (List.map e22 r.1), .arr 2 109 false (List.map e109 r.2.1)]) ∧
  (∀ {kf l0_0 l0_1 a0_2 a0_3 r}, impl_SyncDisk.f kf l0_0 l0_1 a0_2 a0_3 = some r → Spec Tryz.prog 85 [.agg [.v (.row (List.map e22 l0_0)), .v (.row (List.map e109 l0_1)), .v (.i .i64 a0_2), .v (.b a0_3)]] [] (.agg [.own 0 (List.map e22 r.1).length, .own 1 (List.map e109 r.2.1).length, .v (.i .i64 r.2.2.1), .v (.b r.2.2.2)]) [.arr 1 22 false (List.map e22 r.1), .arr 2 109 false (List.map e109 r.2.1)]) ∧
  (∀ {kf l0_0 l0_1 a0_2 a0_3 a1 r}, impl_FallDisk.f kf l0_0 l0_1 a0_2 a0_3 a1 = some r → Spec Tryz.prog 32 [.agg [.v (.row (List.map e22 l0_0)), .v (.row (List.map e109 l0_1)), .v (.i .i64 a0_2), .v (.b a0_3)], .v (.i .i64 a1)] [] (.agg [.own 0 (List.map e22 r.1).length, .own 1 (List.map e109 r.2.1).length, .v (.i .i64 r.2.2.1), .v (.b r.2.2.2)]) [.arr 1 22 false (List.map e22 r.1), .arr 2 109 false (List.map e109 r.2.1)]) := by
  refine ⟨@fun kf l0 r H => fn_okF (E := env) Tryz.func134 (by rfl) rfl (n := 43) (by rfl) ?_,
   @fun kf l0 r H => fn_okF (E := env) Tryz.func79 (by rfl) rfl (n := 35) (by rfl) ?_,
   @fun kf l0_0 l0_1 a0_2 a0_3 a1 l2 r H => fn_okF (E := env) Tryz.func84 (by rfl) rfl (n := 52) (by rfl) ?_,
   @fun kf l0_0 l0_1 a0_2 a0_3 r H => fn_okF (E := env) Tryz.func85 (by rfl) rfl (n := 40) (by rfl) ?_,
   @fun kf l0_0 l0_1 a0_2 a0_3 a1 r H => fn_okF (E := env) Tryz.func32 (by rfl) rfl (n := 41) (by rfl) ?_⟩
  all_goals simp only [impl_ConfText.f, impl_GetHead.f, impl_WriteSec.f, impl_SyncDisk.f, impl_FallDisk.f, Option.bind_some, List.nil_append, if_true, if_false, Bool.false_eq_true, nilB, nilE] at H
  all_goals repeat' ((conv => whnf); first
   | ((with_reducible have hp := peel_ H); clear H; obtain ⟨_, H⟩ := hp)
   | ((with_reducible have hp := peeln_ H); clear H; obtain ⟨_, H⟩ := hp)
   | (with_reducible replace H := itet_ H)
   | (with_reducible replace H := itef_ H)
   | ((with_reducible refine sideid_ ?_); refine side_ ?_)
   | ((with_reducible refine seqid_ ?_); refine sgo_ ?_)
   | ((with_reducible refine brid_ ?_); first
    | (with_reducible refine brct_ ?_)
    | (with_reducible refine brcf_ ?_)
    | (with_reducible refine brt_ ?_)
    | (with_reducible refine brf_ ?_)
    | (refine bra_ H (fun _ H => ?_) (fun _ H => ?_))
    | (refine brna_ H (fun _ H => ?_) (fun _ H => ?_))
    | (refine brt_ ?_)
    | (refine brf_ ?_)
    | (refine bre_ H (fun _ H => ?_) (fun _ H => ?_))
    | (refine brne_ H (fun _ H => ?_) (fun _ H => ?_)))
   | ((with_reducible refine br2id_ ?_); first
    | (refine br2t_ ?_)
    | (refine br2f_ ?_))
   | ((with_reducible refine blkid_ ?_); refine bgo_ ?_)
   | ((with_reducible refine normid_ ?_); first
    | (refine norm_nilapp ?_)
    | (refine norm_appnil ?_)
    | (refine norm_app ?_)
    | (refine norm_t ?_)
    | (refine norm_d ?_)
    | (refine norm_td ?_)
    | (refine norm_set (e := 5) (f := e5) _ rfl ?_)
    | (refine norm_rep (e := 5) (f := e5) _ rfl ?_)
    | (refine norm_set (e := 22) (f := e22) _ rfl ?_)
    | (refine norm_rep (e := 22) (f := e22) _ rfl ?_)
    | (refine norm_rep (e := 22) (f := e22) [] rfl ?_)
    | (refine norm_set (e := 22) (f := e22) [] rfl ?_)
    | (refine set109 _ _ rfl ?_)
    | (refine norm_set (e := 109) (f := e109) ⟨_, _⟩ rfl ?_)
    | (refine norm_rep (e := 109) (f := e109) ⟨_, _⟩ rfl ?_)
    | (refine norm_rep (e := 109) (f := e109) ⟨_, []⟩ rfl ?_)
    | (refine norm_set (e := 109) (f := e109) ⟨_, []⟩ rfl ?_)
    | (refine lit109 _ _ rfl ?_)
    | (refine lit109 _ [] rfl ?_)
    | (refine norm_lit (e := 109) (n := 1) (f := e109) [⟨_, _⟩] rfl ?_)
    | (refine norm_set (e := 9) (f := e9) _ rfl ?_)
    | (refine norm_rep (e := 9) (f := e9) _ rfl ?_)
    | (refine norm_lit (e := 9) (n := 0) (f := e9) [] rfl ?_)
    | (refine norm_lit (e := 9) (n := 1) (f := e9) [_] rfl ?_)
    | (refine norm_set (e := 138) (f := e138) ⟨_, _, _, _, _⟩ rfl ?_)
    | (refine norm_rep (e := 138) (f := e138) ⟨_, _, _, _, _⟩ rfl ?_))
   | ((with_reducible refine elemid_ ?_); first
    | (refine elema_ (f := e5) 0 (rd _ _) rfl ?_)
    | (refine elema_ (f := e22) [] (rd_L6 _ _) rfl ?_)
    | (refine elema_ (f := e109) z109 (rd_T109 _ _) rfl ?_)
    | (refine elema_ (f := e9) ByteArray.empty (rdOf ByteArray.empty _ _) rfl ?_)
    | (refine elema_ (f := e138) z138 (rd_T138 _ _) rfl ?_))
   | ((with_reducible refine lenid_ ?_); refine lenm_ ?_)
   | ((with_reducible refine strid_ ?_); first
    | (refine stre_ ?_)
    | (refine stre0_ ?_))
   | ((with_reducible refine callid_ ?_); (first | with_reducible have hp := bnd_ H | have hp := tl_ H); clear H; obtain ⟨_, ht, H⟩ := hp; (first
    | (with_reducible have ht := gYi1.1 ht)
    | (with_reducible have ht := gYi2.2.2.2.2.2.2.1 ht)
    | (with_reducible have ht := gYi1.2.2.2.2.2.2.2.1 ht)
    | (with_reducible have ht := slices_Clone_byte_byte_ev ht)
    | (with_reducible have ht := gYi3.2.2.2.1 ht)
    | (with_reducible have ht := gYi2.2.2.2.2.1 ht)
    | (with_reducible have ht := gYi1.2.2.2.2.2.1 ht)
    | (with_reducible have ht := gYi3.2.2.1 ht)
    | (with_reducible have ht := gYi3.1 ht)
    | (with_reducible have ht := gYi1.2.1 ht)
    | (with_reducible have ht := strings_Join_ev ht)); refine call_ ht rfl rfl ?_)
   | ((with_reducible refine handid_ ?_); first
    | (with_reducible refine handb_ 118 ?_)
    | (refine handa_ ?_))
   | ((with_reducible refine mkid_ ?_); refine mka_ ?_)
   | ((with_reducible refine loopid_ ?_); (first
    | ((with_reducible have hk := idH_ (F := fun k => impl_FallDisk.l0 k _ _ _ _ _ _ _ _ _ _ _) H); clear hk; refine loopK_ (fun n s h => ∃ x1 x18 x19 x20 x7000 x7001 x7002 x7003 x8000 x8002 x8003, impl_FallDisk.l0 n x1 x18 x19 x20 x7000 x7001 x7002 x7003 x8000 x8002 x8003 = some r ∧ s = spr 43 0 [(1, .v (.i .i64 x1)), (2, .ptr 0 0), (4, .ptr 1 0), (5, .ptr 2 0), (18, .own 3 (List.map e109 x18).length), (19, .v (.i .i64 x19)), (20, .v (.i .i64 x20))] ∧ h = [.box 46 [.v (.row (List.map e22 x7000)), .v (.row (List.map e109 x7001)), .v (.i .i64 x7002), .v (.b x7003)], .box 46 [.nil, .nil, .v (.i .i64 0), .v (.b false)], .box 46 [.own 4 (List.map e22 x8000).length, .own 3 (List.map e109 x18).length, .v (.i .i64 x8002), .v (.b x8003)], .arr 2 109 false (List.map e109 x18), .arr 1 22 false (List.map e22 x8000)]) [] [] [] (bsp 43 0 [1, 2, 4, 5, 18, 19, 20]) _ (by (conv => whnf); refine ⟨_, _, _, _, _, _, _, _, _, _, _, H, rfl, rfl⟩) ?_; rintro n s h hn ⟨x1, x18, x19, x20, x7000, x7001, x7002, x7003, x8000, x8002, x8003, H, rfl, rfl⟩)
    | ((with_reducible have hk := idH_ (F := fun k => impl_SyncDisk.l0 k _ _ _ _ _ _ _ _ _ _) H); clear hk; refine loopK_ (fun n s h => ∃ x24 x25 x26 x7000 x7001 x7002 x7003 x8000 x8002 x8003, impl_SyncDisk.l0 n x24 x25 x26 x7000 x7001 x7002 x7003 x8000 x8002 x8003 = some r ∧ s = spr 41 0 [(1, .ptr 0 0), (2, .ptr 1 0), (3, .ptr 2 0), (24, .own 3 (List.map e109 x24).length), (25, .v (.i .i64 x25)), (26, .v (.i .i64 x26))] ∧ h = [.box 46 [.v (.row (List.map e22 x7000)), .v (.row (List.map e109 x7001)), .v (.i .i64 x7002), .v (.b x7003)], .box 46 [.nil, .nil, .v (.i .i64 0), .v (.b false)], .box 46 [.own 4 (List.map e22 x8000).length, .own 3 (List.map e109 x24).length, .v (.i .i64 x8002), .v (.b x8003)], .arr 2 109 false (List.map e109 x24), .arr 1 22 false (List.map e22 x8000)]) [] [] [] (bsp 41 0 [1, 2, 3, 24, 25, 26]) _ (by (conv => whnf); refine ⟨_, _, _, _, _, _, _, _, _, _, H, rfl, rfl⟩) ?_; rintro n s h hn ⟨x24, x25, x26, x7000, x7001, x7002, x7003, x8000, x8002, x8003, H, rfl, rfl⟩)
    | ((with_reducible have hk := idH_ (F := fun k => impl_ConfText.l0 k _ _ _ _) H); clear hk; refine loopK_ (fun n s h => ∃ x3 x10 x11 x12, impl_ConfText.l0 n x3 x10 x11 x12 = some r ∧ s = spr 44 0 [(3, .own 0 (List.map e9 x3).length), (10, .v (.row (List.map e138 x10))), (11, .v (.i .i64 x11)), (12, .v (.i .i64 x12))] ∧ h = [.arr 1 9 false (List.map e9 x3)]) [] [] [] (bsp 44 0 [3, 10, 11, 12]) _ (by (conv => whnf); refine ⟨_, _, _, _, H, rfl, rfl⟩) ?_; rintro n s h hn ⟨x3, x10, x11, x12, H, rfl, rfl⟩)); all_goals (obtain _ | kf := n; (· first | (cases H; done) | (simp only [impl_ConfText.l0, impl_FallDisk.l0, impl_SyncDisk.l0] at H; cases H; done)); simp only [impl_ConfText.l0, impl_FallDisk.l0, impl_SyncDisk.l0, Option.bind_some, List.nil_append, if_true, if_false, Bool.false_eq_true, nilB, nilE] at H))
   | ((with_reducible refine nextid_ ?_); (first
    | (refine nextK_ (P := fun m => impl_FallDisk.l0 m _ _ _ _ _ _ _ _ _ _ _ = some _) H (bsp 43 0 [1, 2, 4, 5, 18, 19, 20]) ?_ ?_ ?_)
    | (refine nextK_ (P := fun m => impl_SyncDisk.l0 m _ _ _ _ _ _ _ _ _ _ = some _) H (bsp 41 0 [1, 2, 3, 24, 25, 26]) ?_ ?_ ?_)
    | (refine nextK_ (P := fun m => impl_ConfText.l0 m _ _ _ _ = some _) H (bsp 44 0 [3, 10, 11, 12]) ?_ ?_ ?_)); (conv => whnf); (first | refine ⟨_, _, _, _, H, ?_, rfl⟩ | refine ⟨_, _, _, _, H, ?_, ?_⟩ | refine ⟨_, _, _, _, _, _, _, _, _, _, H, ?_, rfl⟩ | refine ⟨_, _, _, _, _, _, _, _, _, _, H, ?_, ?_⟩ | refine ⟨_, _, _, _, _, _, _, _, _, _, _, H, ?_, rfl⟩ | refine ⟨_, _, _, _, _, _, _, _, _, _, _, H, ?_, ?_⟩); all_goals first | omega | rfl | (repeat' (first | rfl | refine own_eq ?_ | refine box_eq ?_ | refine cons_eq ?_ ?_ | refine vi_eq ?_ | simp only [List.length_map, List.length_set, wm_])))
   | ((with_reducible refine finid_ ?_); refine finK_ [] ?_; (conv => whnf); replace H := Option.some.inj H; subst H; (conv => whnf); exact feq_ rfl))
end Go.Proofs.YthkepmicdpgbbaaGreatDoor.E
