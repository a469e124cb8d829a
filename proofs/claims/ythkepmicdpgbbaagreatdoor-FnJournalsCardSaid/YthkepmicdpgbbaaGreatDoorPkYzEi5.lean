/- Texts of this seat's claims, put together: PkYEi5 -/
import Derived.Test.YthkepmicdpgbbaaGreatDoorPkYzEi4
/- What the functions' codes come to. -/
namespace Go.Proofs.YthkepmicdpgbbaaGreatDoor.E
open Go Go.RowKit Go.Proofs.YthkepmicdpgbbaaGreatDoorW.PrintWords Go.Proofs.YthkepmicdpgbbaaGreatDoor.P
set_option linter.unusedVariables false
set_option linter.unusedSimpArgs false
set_option maxHeartbeats 0
set_option maxRecDepth 100000
theorem gYi5 : (∀ {kf a0 r}, impl_ParseConf.f kf a0 = some r → Spec Tryz.prog 106 [.v (.s a0)] [] (.tup [.own 0 (List.map e138 r.1).length, .v (.b r.2)]) [.arr 5 138 false (List.map e138 r.1)]) ∧
  (∀ {l0_0 l0_1 a0_2 a0_3 r}, impl_powered.f l0_0 l0_1 a0_2 a0_3 = some r → Spec Tryz.prog 118 [.agg [.own 0 (List.map e22 l0_0).length, .own 1 (List.map e109 l0_1).length, .v (.i .i64 a0_2), .v (.b a0_3)]] [.tree 1 22 5 (List.map e22 l0_0), .tree 2 109 5 (List.map e109 l0_1)] (.tup [.agg [.own 0 (List.map e22 r.1).length, .own 1 (List.map e109 r.2.1).length, .v (.i .i64 r.2.2.1), .v (.b r.2.2.2.1)], .v (.b r.2.2.2.2)]) [.tree 1 22 5 (List.map e22 r.1), .tree 2 109 5 (List.map e109 r.2.1)]) ∧
  (∀ {kf r}, impl_Format.f kf  = some r → Spec Tryz.prog 39 [] [] (.agg [.own 0 (List.map e22 r.1).length, .own 1 (List.map e109 r.2.1).length, .v (.i .i64 r.2.2.1), .v (.b r.2.2.2)]) [.arr 1 22 false (List.map e22 r.1), .arr 2 109 false (List.map e109 r.2.1)]) := by
  refine ⟨@fun kf a0 r H => fn_okF (E := env) Tryz.func106 (by rfl) rfl (n := 67) (by rfl) ?_,
   @fun l0_0 l0_1 a0_2 a0_3 r H => fn_okF (E := env) Tryz.func118 (by rfl) rfl (n := 19) (by rfl) ?_,
   @fun kf r H => fn_okF (E := env) Tryz.func39 (by rfl) rfl (n := 5) (by rfl) ?_⟩
  all_goals simp only [impl_ParseConf.f, impl_powered.f, impl_Format.f, Option.bind_some, List.nil_append, if_true, if_false, Bool.false_eq_true, nilB, nilE] at H
  all_goals repeat' ((conv => whnf); first
   | ((with_reducible have hp := peel_ H); clear H; obtain ⟨_, H⟩ := hp)
   | ((with_reducible have hp := peeln_ H); clear H; obtain ⟨_, H⟩ := hp)
   | (with_reducible replace H := itet_ H)
   | (with_reducible replace H := itef_ H)
   | ((with_reducible refine sideid_ ?_); refine side_ ?_)
   | ((with_reducible refine seqid_ ?_); refine sgo_ ?_)
   | ((with_reducible refine brid_ ?_); first
    | (with_reducible refine brct_ ?_)
    | (with_reducible refine brcf_ ?_)
    | (with_reducible refine brt_ ?_)
    | (with_reducible refine brf_ ?_)
    | (refine bra_ H (fun _ H => ?_) (fun _ H => ?_))
    | (refine brna_ H (fun _ H => ?_) (fun _ H => ?_))
    | (refine brt_ ?_)
    | (refine brf_ ?_)
    | (refine bre_ H (fun _ H => ?_) (fun _ H => ?_))
    | (refine brne_ H (fun _ H => ?_) (fun _ H => ?_)))
   | ((with_reducible refine br2id_ ?_); first
    | (refine br2t_ ?_)
    | (refine br2f_ ?_))
   | ((with_reducible refine idxid_ ?_); first
    | (refine idxc_ H 0 (by rfl) (by decide) (fun H => ?_) (fun H => ?_))
    | (refine idxc_ H 1 (by rfl) (by decide) (fun H => ?_) (fun H => ?_))
    | (refine idxc_ H 2 (by rfl) (by decide) (fun H => ?_) (fun H => ?_))
    | (refine idxc_ H 3 (by rfl) (by decide) (fun H => ?_) (fun H => ?_))
    | (refine idxc_ H 4 (by rfl) (by decide) (fun H => ?_) (fun H => ?_))
    | (refine idxa_ 0 (by omega) (by decide) ?_)
    | (refine idxa_ 1 (by omega) (by decide) ?_)
    | (refine idxa_ 2 (by omega) (by decide) ?_)
    | (refine idxa_ 3 (by omega) (by decide) ?_)
    | (refine idxa_ 4 (by omega) (by decide) ?_)
    | (cases H))
   | ((with_reducible refine blkid_ ?_); refine bgo_ ?_)
   | ((with_reducible refine normid_ ?_); first
    | (refine norm_nilapp ?_)
    | (refine norm_appnil ?_)
    | (refine norm_app ?_)
    | (refine norm_t ?_)
    | (refine norm_d ?_)
    | (refine norm_td ?_)
    | (refine norm_set (e := 5) (f := e5) _ rfl ?_)
    | (refine norm_rep (e := 5) (f := e5) _ rfl ?_)
    | (refine norm_set (e := 9) (f := e9) _ rfl ?_)
    | (refine norm_rep (e := 9) (f := e9) _ rfl ?_)
    | (refine norm_set (e := 138) (f := e138) ⟨_, _, _, _, _⟩ rfl ?_)
    | (refine norm_rep (e := 138) (f := e138) ⟨_, _, _, _, _⟩ rfl ?_)
    | (refine norm_lit (e := 138) (n := 0) (f := e138) [] rfl ?_)
    | (refine lit138 _ _ _ _ _ rfl ?_)
    | (refine norm_lit (e := 138) (n := 1) (f := e138) [⟨_, _, _, _, _⟩] rfl ?_))
   | ((with_reducible refine elemid_ ?_); first
    | (refine elema_ (f := e5) 0 (rd _ _) rfl ?_)
    | (refine elema_ (f := e9) ByteArray.empty (rdOf ByteArray.empty _ _) rfl ?_)
    | (refine elema_ (f := e138) z138 (rd_T138 _ _) rfl ?_))
   | ((with_reducible refine lenid_ ?_); refine lenm_ ?_)
   | ((with_reducible refine strid_ ?_); first
    | (refine stre_ ?_)
    | (refine stre0_ ?_))
   | ((with_reducible refine callid_ ?_); (first | with_reducible have hp := bnd_ H | have hp := tl_ H); clear H; obtain ⟨_, ht, H⟩ := hp; (first
    | (with_reducible have ht := gYi4.2.2.1 ht)
    | (with_reducible have ht := gYi4.2.2.2.1 ht)
    | (with_reducible have ht := gYi3.2.2.1 ht)
    | (with_reducible have ht := gYi3.2.2.2.2.2 ht)
    | (with_reducible have ht := strings_Split_ev ht)
    | (with_reducible have ht := strings_Cut_ev ht)
    | (with_reducible have ht := strings_SplitN_ev ht)
    | (with_reducible have ht := gYi2.1 ht)
    | (with_reducible have ht := gYi4.1 ht)); refine call_ ht rfl rfl ?_)
   | ((with_reducible refine handid_ ?_); refine handa_ ?_)
   | ((with_reducible refine mkid_ ?_); refine mka_ ?_)
   | ((with_reducible refine loopid_ ?_); (first
    | ((with_reducible have hk := idH_ (F := fun k => impl_ParseConf.l0 k _ _ _ _ _) H); clear hk; refine loopK_ (fun n s h => ∃ x0 x4 x15 x16 x17, impl_ParseConf.l0 n x0 x4 x15 x16 x17 = some r ∧ s = spr 68 0 [(0, .v (.s x0)), (4, .own 0 (List.map e138 x4).length), (15, .own 1 (List.map e9 x15).length), (16, .v (.i .i64 x16)), (17, .v (.i .i64 x17))] ∧ h = [.arr 5 138 false (List.map e138 x4), .arr 1 9 false (List.map e9 x15)]) [] [] [] (bsp 68 0 [0, 4, 15, 16, 17]) _ (by (conv => whnf); refine ⟨_, _, _, _, _, H, rfl, rfl⟩) ?_; rintro n s h hn ⟨x0, x4, x15, x16, x17, H, rfl, rfl⟩)
    | ((with_reducible have hk := idH_ (F := fun k => impl_ParseConf.l1 k _ _ _ _ _ _ _ _ _ _ _ _ _) H); clear hk; refine loopK_ (fun n s h => ∃ x0 x4 x7 x15 x16 x17 x29 x30 x31 x343000 x343001 x343002 x343003, impl_ParseConf.l1 n x0 x4 x7 x15 x16 x17 x29 x30 x31 x343000 x343001 x343002 x343003 = some r ∧ s = spr 68 0 [(0, .v (.s x0)), (4, .own 0 (List.map e138 x4).length), (7, .v (.s x7)), (10, .ptr 1 0), (15, .own 2 (List.map e9 x15).length), (16, .v (.i .i64 x16)), (17, .v (.i .i64 x17)), (29, .own 3 (List.map e9 x29).length), (30, .v (.i .i64 x30)), (31, .v (.i .i64 x31))] ∧ h = [.arr 5 138 false (List.map e138 x4), .box 146 [.v (.i .i64 x343000), .v (.i .i64 x343001), .v (.i .i64 x343002), .v (.i .i64 x343003)], .arr 1 9 false (List.map e9 x15), .arr 1 9 false (List.map e9 x29)]) [] [] [] (bsp 68 0 [0, 4, 7, 10, 15, 16, 17, 29, 30, 31]) _ (by (conv => whnf); refine ⟨_, _, _, _, _, _, _, _, _, _, _, _, _, H, rfl, rfl⟩) ?_; rintro n s h hn ⟨x0, x4, x7, x15, x16, x17, x29, x30, x31, x343000, x343001, x343002, x343003, H, rfl, rfl⟩)); all_goals (obtain _ | kf := n; (· first | (cases H; done) | (simp only [impl_ParseConf.l0, impl_ParseConf.l1] at H; cases H; done)); simp only [impl_ParseConf.l0, impl_ParseConf.l1, Option.bind_some, List.nil_append, if_true, if_false, Bool.false_eq_true, nilB, nilE] at H))
   | ((with_reducible refine nextid_ ?_); (first
    | (refine nextK_ (P := fun m => impl_ParseConf.l0 m _ _ _ _ _ = some _) H (bsp 68 0 [0, 4, 15, 16, 17]) ?_ ?_ ?_)
    | (refine nextK_ (P := fun m => impl_ParseConf.l1 m _ _ _ _ _ _ _ _ _ _ _ _ _ = some _) H (bsp 68 0 [0, 4, 7, 10, 15, 16, 17, 29, 30, 31]) ?_ ?_ ?_)); (conv => whnf); (first | refine ⟨_, _, _, _, _, H, ?_, rfl⟩ | refine ⟨_, _, _, _, _, H, ?_, ?_⟩ | refine ⟨_, _, _, _, _, _, _, _, _, _, _, _, _, H, ?_, rfl⟩ | refine ⟨_, _, _, _, _, _, _, _, _, _, _, _, _, H, ?_, ?_⟩); all_goals first | omega | rfl | (repeat' (first | rfl | refine own_eq ?_ | refine box_eq ?_ | refine cons_eq ?_ ?_ | refine vi_eq ?_ | simp only [List.length_map, List.length_set, wm_])))
   | ((with_reducible refine finid_ ?_); refine finK_ [] ?_; (conv => whnf); replace H := Option.some.inj H; subst H; (conv => whnf); exact feq_ rfl))
end Go.Proofs.YthkepmicdpgbbaaGreatDoor.E
