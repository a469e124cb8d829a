/- Texts of this seat's claims, put together: PkYEi1 -/
import Derived.Test.YthkepmicdpgbbaaGreatDoorPkYzB7
/- What the functions' codes come to. -/
namespace Go.Proofs.YthkepmicdpgbbaaGreatDoor.E
open Go Go.RowKit Go.Proofs.YthkepmicdpgbbaaGreatDoorW.PrintWords Go.Proofs.YthkepmicdpgbbaaGreatDoor.P
set_option linter.unusedVariables false
set_option linter.unusedSimpArgs false
set_option maxHeartbeats 0
set_option maxRecDepth 100000
theorem gYi1 : (∀ {a0 a1 a2 r}, impl_isIn.f a0 a1 a2 = some r → Spec Tryz.prog 61 [.v (.i .i64 a0), .v (.i .i64 a1), .v (.i .i64 a2)] [] (.v (.b r)) []) ∧
  (∀ {a0 r}, impl_NumText.f a0 = some r → Spec Tryz.prog 143 [.v (.i .i64 a0)] [] (.v (.s r)) []) ∧
  (∀ {l0 a1 r}, impl_PutWord.f l0 a1 = some r → Spec Tryz.prog 45 [.v (.row (List.map e5 l0)), .v (.i .i64 a1)] [] (.own 0 (List.map e5 r).length) [.arr 1 5 false (List.map e5 r)]) ∧
  (∀ {kf a0 r}, impl_TextOk.f kf a0 = some r → Spec Tryz.prog 99 [.v (.s a0)] [] (.v (.b r)) []) ∧
  (∀ {kf l0 r}, impl_Sum.f kf l0 = some r → Spec Tryz.prog 47 [.v (.row (List.map e5 l0))] [] (.v (.i .i64 r)) []) ∧
  (∀ {l0 l1 r}, bytes_Equal.f l0 l1 = some r → Spec Tryz.prog 57 [.v (.row (List.map e5 l0)), .v (.row (List.map e5 l1))] [] (.v (.b r)) []) ∧
  (∀ {a0 a1 r}, impl_sectorOf.f a0 a1 = some r → Spec Tryz.prog 73 [.v (.i .i64 a0), .v (.i .i64 a1)] [] (.v (.i .i64 r)) []) ∧
  (∀ {kf l0_0 l0_1 a0_2 a0_3 r}, impl_diskCopy.f kf l0_0 l0_1 a0_2 a0_3 = some r → Spec Tryz.prog 82 [.agg [.v (.row (List.map e22 l0_0)), .v (.row (List.map e109 l0_1)), .v (.i .i64 a0_2), .v (.b a0_3)]] [] (.agg [.own 0 (List.map e22 r.1).length, .own 1 (List.map e109 r.2.1).length, .v (.i .i64 r.2.2.1), .v (.b r.2.2.2)]) [.arr 1 22 false (List.map e22 r.1), .arr 2 109 false (List.map e109 r.2.1)]) ∧
  (∀ {l0_0 l0_1 a0_2 a0_3 r}, impl_powered.f l0_0 l0_1 a0_2 a0_3 = some r → Spec Tryz.prog 118 [.agg [.v (.row (List.map e22 l0_0)), .v (.row (List.map e109 l0_1)), .v (.i .i64 a0_2), .v (.b a0_3)]] [] (.tup [.agg [.v (.row (List.map e22 r.1)), .v (.row (List.map e109 r.2.1)), .v (.i .i64 r.2.2.1), .v (.b r.2.2.2.1)], .v (.b r.2.2.2.2)]) []) := by
  refine ⟨@fun a0 a1 a2 r H => fn_okF (E := env) Tryz.func61 (by rfl) rfl (n := 12) (by rfl) ?_,
   @fun a0 r H => fn_okF (E := env) Tryz.func143 (by rfl) rfl (n := 4) (by rfl) ?_,
   @fun l0 a1 r H => fn_okF (E := env) Tryz.func45 (by rfl) rfl (n := 12) (by rfl) ?_,
   @fun kf a0 r H => fn_okF (E := env) Tryz.func99 (by rfl) rfl (n := 22) (by rfl) ?_,
   @fun kf l0 r H => fn_okF (E := env) Tryz.func47 (by rfl) rfl (n := 28) (by rfl) ?_,
   @fun l0 l1 r H => fn_okF (E := env) Tryz.func57 (by rfl) rfl (n := 8) (by rfl) ?_,
   @fun a0 a1 r H => fn_okF (E := env) Tryz.func73 (by rfl) rfl (n := 9) (by rfl) ?_,
   @fun kf l0_0 l0_1 a0_2 a0_3 r H => fn_okF (E := env) Tryz.func82 (by rfl) rfl (n := 47) (by rfl) ?_,
   @fun l0_0 l0_1 a0_2 a0_3 r H => fn_okF (E := env) Tryz.func118 (by rfl) rfl (n := 19) (by rfl) ?_⟩
  all_goals simp only [impl_isIn.f, impl_NumText.f, impl_PutWord.f, impl_TextOk.f, impl_Sum.f, bytes_Equal.f, impl_sectorOf.f, impl_diskCopy.f, impl_powered.f, Option.bind_some, List.nil_append, if_true, if_false, Bool.false_eq_true, nilB, nilE] at H
  all_goals repeat' ((conv => whnf); first
   | ((with_reducible have hp := peel_ H); clear H; obtain ⟨_, H⟩ := hp)
   | ((with_reducible have hp := peeln_ H); clear H; obtain ⟨_, H⟩ := hp)
   | (with_reducible replace H := itet_ H)
   | (with_reducible replace H := itef_ H)
   | ((with_reducible refine sideid_ ?_); refine side_ ?_)
   | ((with_reducible refine seqid_ ?_); refine sgo_ ?_)
   | ((with_reducible refine brid_ ?_); first
    | (with_reducible refine brct_ ?_)
    | (with_reducible refine brcf_ ?_)
    | (with_reducible refine brt_ ?_)
    | (with_reducible refine brf_ ?_)
    | (refine bra_ H (fun _ H => ?_) (fun _ H => ?_))
    | (refine brna_ H (fun _ H => ?_) (fun _ H => ?_))
    | (refine brt_ ?_)
    | (refine brf_ ?_)
    | (refine bre_ H (fun _ H => ?_) (fun _ H => ?_))
    | (refine brne_ H (fun _ H => ?_) (fun _ H => ?_)))
   | ((with_reducible refine br2id_ ?_); first
    | (refine br2t_ ?_)
    | (refine br2f_ ?_))
   | ((with_reducible refine blkid_ ?_); refine bgo_ ?_)
   | ((with_reducible refine normid_ ?_); first
    | (refine norm_nilapp ?_)
    | (refine norm_appnil ?_)
    | (refine norm_app ?_)
    | (refine norm_t ?_)
    | (refine norm_d ?_)
    | (refine norm_td ?_)
    | (refine norm_set (e := 5) (f := e5) _ rfl ?_)
    | (refine norm_rep (e := 5) (f := e5) _ rfl ?_)
    | (refine norm_set (e := 22) (f := e22) _ rfl ?_)
    | (refine norm_rep (e := 22) (f := e22) _ rfl ?_)
    | (refine norm_rep (e := 22) (f := e22) [] rfl ?_)
    | (refine norm_set (e := 22) (f := e22) [] rfl ?_)
    | (refine norm_lit (e := 22) (n := 0) (f := e22) [] rfl ?_)
    | (refine norm_lit (e := 22) (n := 1) (f := e22) [_] rfl ?_)
    | (refine norm_set (e := 109) (f := e109) ⟨_, _⟩ rfl ?_)
    | (refine norm_rep (e := 109) (f := e109) ⟨_, _⟩ rfl ?_)
    | (refine norm_rep (e := 109) (f := e109) ⟨_, []⟩ rfl ?_)
    | (refine norm_set (e := 109) (f := e109) ⟨_, []⟩ rfl ?_)
    | (refine norm_lit (e := 109) (n := 0) (f := e109) [] rfl ?_)
    | (refine lit109 _ _ rfl ?_)
    | (refine lit109 _ [] rfl ?_)
    | (refine norm_lit (e := 109) (n := 1) (f := e109) [⟨_, _⟩] rfl ?_)
    | (refine norm_lit (e := 5) (n := 2) (f := e5) [_, _] rfl ?_))
   | ((with_reducible refine elemid_ ?_); first
    | (refine elema_ (f := e5) 0 (rd _ _) rfl ?_)
    | (refine elema_ (f := e22) [] (rd_L6 _ _) rfl ?_)
    | (refine elema_ (f := e109) z109 (rd_T109 _ _) rfl ?_))
   | ((with_reducible refine lenid_ ?_); refine lenm_ ?_)
   | ((with_reducible refine strid_ ?_); first
    | (refine stre_ ?_)
    | (refine stre0_ ?_))
   | ((with_reducible refine callid_ ?_); (first | with_reducible have hp := bnd_ H | have hp := tl_ H); clear H; obtain ⟨_, ht, H⟩ := hp; (first
    | (with_reducible have ht := slices_Clone_byte_byte_ev ht)
    | (with_reducible have ht := strconv_Itoa_152_ev ht)); refine call_ ht rfl rfl ?_)
   | ((with_reducible refine handid_ ?_); refine handa_ ?_)
   | ((with_reducible refine mkid_ ?_); refine mka_ ?_)
   | ((with_reducible refine loopid_ ?_); (first
    | ((with_reducible have hk := idH_ (F := fun k => impl_diskCopy.l0 k _ _ _ _ _ _ _ _ _) H); clear hk; refine loopK_ (fun n s h => ∃ x3 x4 x12 x13 x14 x1307000 x1307001 x1307002 x1307003, impl_diskCopy.l0 n x3 x4 x12 x13 x14 x1307000 x1307001 x1307002 x1307003 = some r ∧ s = spr 48 0 [(1, .ptr 0 0), (2, .ptr 1 0), (3, .own 2 (List.map e22 x3).length), (4, .own 3 (List.map e109 x4).length), (12, .v (.row (List.map e22 x12))), (13, .v (.i .i64 x13)), (14, .v (.i .i64 x14))] ∧ h = [.box 46 [.v (.row (List.map e22 x1307000)), .v (.row (List.map e109 x1307001)), .v (.i .i64 x1307002), .v (.b x1307003)], .box 46 [.nil, .nil, .v (.i .i64 0), .v (.b false)], .arr 1 22 false (List.map e22 x3), .arr 2 109 false (List.map e109 x4)]) [] [] [] (bsp 48 0 [1, 2, 3, 4, 12, 13, 14]) _ (by (conv => whnf); refine ⟨_, _, _, _, _, _, _, _, _, H, rfl, rfl⟩) ?_; rintro n s h hn ⟨x3, x4, x12, x13, x14, x1307000, x1307001, x1307002, x1307003, H, rfl, rfl⟩)
    | ((with_reducible have hk := idH_ (F := fun k => impl_diskCopy.l1 k _ _ _ _ _ _ _ _ _) H); clear hk; refine loopK_ (fun n s h => ∃ x3 x4 x25 x26 x27 x1307000 x1307001 x1307002 x1307003, impl_diskCopy.l1 n x3 x4 x25 x26 x27 x1307000 x1307001 x1307002 x1307003 = some r ∧ s = spr 48 0 [(1, .ptr 0 0), (2, .ptr 1 0), (3, .own 2 (List.map e22 x3).length), (4, .own 3 (List.map e109 x4).length), (25, .v (.row (List.map e109 x25))), (26, .v (.i .i64 x26)), (27, .v (.i .i64 x27))] ∧ h = [.box 46 [.v (.row (List.map e22 x1307000)), .v (.row (List.map e109 x1307001)), .v (.i .i64 x1307002), .v (.b x1307003)], .box 46 [.nil, .nil, .v (.i .i64 0), .v (.b false)], .arr 1 22 false (List.map e22 x3), .arr 2 109 false (List.map e109 x4)]) [] [] [] (bsp 48 0 [1, 2, 3, 4, 25, 26, 27]) _ (by (conv => whnf); refine ⟨_, _, _, _, _, _, _, _, _, H, rfl, rfl⟩) ?_; rintro n s h hn ⟨x3, x4, x25, x26, x27, x1307000, x1307001, x1307002, x1307003, H, rfl, rfl⟩)
    | ((with_reducible have hk := idH_ (F := fun k => impl_Sum.l0 k _ _ _ _) H); clear hk; refine loopK_ (fun n s h => ∃ x3 x6 x7 x8, impl_Sum.l0 n x3 x6 x7 x8 = some r ∧ s = spr 29 0 [(3, .v (.i .i64 x3)), (6, .v (.row (List.map e5 x6))), (7, .v (.i .i64 x7)), (8, .v (.i .i64 x8))] ∧ h = []) [] [] [] (bsp 29 0 [3, 6, 7, 8]) _ (by (conv => whnf); refine ⟨_, _, _, _, H, rfl, rfl⟩) ?_; rintro n s h hn ⟨x3, x6, x7, x8, H, rfl, rfl⟩)
    | ((with_reducible have hk := idH_ (F := fun k => impl_Sum.l1 k _ _ _ _ _) H); clear hk; refine loopK_ (fun n s h => ∃ x3 x6 x7 x8 x17, impl_Sum.l1 n x3 x6 x7 x8 x17 = some r ∧ s = spr 29 0 [(3, .v (.i .i64 x3)), (6, .v (.row (List.map e5 x6))), (7, .v (.i .i64 x7)), (8, .v (.i .i64 x8)), (17, .v (.i .i64 x17))] ∧ h = []) [] [] [] (bsp 29 0 [3, 6, 7, 8, 17]) _ (by (conv => whnf); refine ⟨_, _, _, _, _, H, rfl, rfl⟩) ?_; rintro n s h hn ⟨x3, x6, x7, x8, x17, H, rfl, rfl⟩)
    | ((with_reducible have hk := idH_ (F := fun k => impl_TextOk.l0 k _ _ _) H); clear hk; refine loopK_ (fun n s h => ∃ x0 x5 x6, impl_TextOk.l0 n x0 x5 x6 = some r ∧ s = spr 23 0 [(0, .v (.s x0)), (5, .v (.i .i64 x5)), (6, .v (.i .i64 x6))] ∧ h = []) [] [] [] (bsp 23 0 [0, 5, 6]) _ (by (conv => whnf); refine ⟨_, _, _, H, rfl, rfl⟩) ?_; rintro n s h hn ⟨x0, x5, x6, H, rfl, rfl⟩)); all_goals (obtain _ | kf := n; (· first | (cases H; done) | (simp only [impl_Sum.l0, impl_Sum.l1, impl_TextOk.l0, impl_diskCopy.l0, impl_diskCopy.l1] at H; cases H; done)); simp only [impl_Sum.l0, impl_Sum.l1, impl_TextOk.l0, impl_diskCopy.l0, impl_diskCopy.l1, Option.bind_some, List.nil_append, if_true, if_false, Bool.false_eq_true, nilB, nilE] at H))
   | ((with_reducible refine nextid_ ?_); (first
    | (refine nextK_ (P := fun m => impl_diskCopy.l0 m _ _ _ _ _ _ _ _ _ = some _) H (bsp 48 0 [1, 2, 3, 4, 12, 13, 14]) ?_ ?_ ?_)
    | (refine nextK_ (P := fun m => impl_diskCopy.l1 m _ _ _ _ _ _ _ _ _ = some _) H (bsp 48 0 [1, 2, 3, 4, 25, 26, 27]) ?_ ?_ ?_)
    | (refine nextK_ (P := fun m => impl_Sum.l0 m _ _ _ _ = some _) H (bsp 29 0 [3, 6, 7, 8]) ?_ ?_ ?_)
    | (refine nextK_ (P := fun m => impl_Sum.l1 m _ _ _ _ _ = some _) H (bsp 29 0 [3, 6, 7, 8, 17]) ?_ ?_ ?_)
    | (refine nextK_ (P := fun m => impl_TextOk.l0 m _ _ _ = some _) H (bsp 23 0 [0, 5, 6]) ?_ ?_ ?_)); (conv => whnf); (first | refine ⟨_, _, _, H, ?_, rfl⟩ | refine ⟨_, _, _, H, ?_, ?_⟩ | refine ⟨_, _, _, _, H, ?_, rfl⟩ | refine ⟨_, _, _, _, H, ?_, ?_⟩ | refine ⟨_, _, _, _, _, H, ?_, rfl⟩ | refine ⟨_, _, _, _, _, H, ?_, ?_⟩ | refine ⟨_, _, _, _, _, _, _, _, _, H, ?_, rfl⟩ | refine ⟨_, _, _, _, _, _, _, _, _, H, ?_, ?_⟩); all_goals first | omega | rfl | (repeat' (first | rfl | refine own_eq ?_ | refine box_eq ?_ | refine cons_eq ?_ ?_ | refine vi_eq ?_ | simp only [List.length_map, List.length_set, wm_])))
   | ((with_reducible refine finid_ ?_); refine finK_ [] ?_; (conv => whnf); replace H := Option.some.inj H; subst H; (conv => whnf); exact feq_ rfl))
end Go.Proofs.YthkepmicdpgbbaaGreatDoor.E
