/- Texts of this seat's claims, put together: PkYEi3 -/
import Derived.Test.YthkepmicdpgbbaaGreatDoorPkYzEi2
/- What the functions' codes come to. -/
namespace Go.Proofs.YthkepmicdpgbbaaGreatDoor.E
open Go Go.RowKit Go.Proofs.YthkepmicdpgbbaaGreatDoorW.PrintWords Go.Proofs.YthkepmicdpgbbaaGreatDoor.P
set_option linter.unusedVariables false
set_option linter.unusedSimpArgs false
set_option maxHeartbeats 0
set_option maxRecDepth 100000
theorem gYi3 : (∀ {kf l0 r}, impl_ConfOk.f kf l0 = some r → Spec Tryz.prog 142 [.v (.row (List.map e138 l0))] [] (.v (.b r)) []) ∧
  (∀ {kf l0_0 l0_1 a0_2 a0_3 a1 r}, impl_ReadSec.f kf l0_0 l0_1 a0_2 a0_3 a1 = some r → Spec Tryz.prog 72 [.agg [.v (.row (List.map e22 l0_0)), .v (.row (List.map e109 l0_1)), .v (.i .i64 a0_2), .v (.b a0_3)], .v (.i .i64 a1)] [] (.own 0 (List.map e5 r).length) [.arr 1 5 false (List.map e5 r)]) ∧
  (∀ {kf a0 a1 r}, impl_HeadOf.f kf a0 a1 = some r → Spec Tryz.prog 86 [.v (.i .i64 a0), .v (.i .i64 a1)] [] (.own 0 (List.map e5 r).length) [.arr 1 5 false (List.map e5 r)]) ∧
  (∀ {l0_0 l0_1 a0_2 a0_3 r}, impl_powered.f l0_0 l0_1 a0_2 a0_3 = some r → Spec Tryz.prog 118 [.agg [.own 0 (List.map e22 l0_0).length, .own 1 (List.map e109 l0_1).length, .v (.i .i64 a0_2), .v (.b a0_3)]] [.arr 1 22 false (List.map e22 l0_0), .arr 2 109 false (List.map e109 l0_1)] (.tup [.agg [.own 0 (List.map e22 r.1).length, .own 1 (List.map e109 r.2.1).length, .v (.i .i64 r.2.2.1), .v (.b r.2.2.2.1)], .v (.b r.2.2.2.2)]) [.arr 1 22 false (List.map e22 r.1), .arr 2 109 false (List.map e109 r.2.1)]) ∧
  (∀ {kf l0_0 l0_1 a0_2 a0_3 r}, impl_diskCopy.f kf l0_0 l0_1 a0_2 a0_3 = some r → Spec Tryz.prog 82 [.agg [.v (.row (List.map e22 l0_0)), .v (.row (List.map e109 l0_1)), .v (.i .i64 a0_2), .v (.b a0_3)]] [] (.agg [.own 0 (List.map e22 r.1).length, .own 1 (List.map e109 r.2.1).length, .v (.i .i64 r.2.2.1), .v (.b r.2.2.2)]) [.tree 1 22 5 (List.map e22 r.1), .tree 2 109 5 (List.map e109 r.2.1)]) ∧
  (∀ {a0 r}, impl_DiskNew.f a0 = some r → Spec Tryz.prog 96 [.v (.i .i64 a0)] [] (.agg [.own 0 (List.map e22 r.1).length, .own 1 (List.map e109 r.2.1).length, .v (.i .i64 r.2.2.1), .v (.b r.2.2.2)]) [.arr 1 22 false (List.map e22 r.1), .arr 2 109 false (List.map e109 r.2.1)]) := by
  refine ⟨@fun kf l0 r H => fn_okF (E := env) Tryz.func142 (by rfl) rfl (n := 51) (by rfl) ?_,
   @fun kf l0_0 l0_1 a0_2 a0_3 a1 r72 H => fn_okF (E := env) Tryz.func72 (by rfl) rfl (n := 46) (by rfl) ?_,
   @fun kf a0 a1 r86 H => fn_okF (E := env) Tryz.func86 (by rfl) rfl (n := 21) (by rfl) ?_,
   @fun l0_0 l0_1 a0_2 a0_3 r H => fn_okF (E := env) Tryz.func118 (by rfl) rfl (n := 19) (by rfl) ?_,
   @fun kf l0_0 l0_1 a0_2 a0_3 r H => fn_okF (E := env) Tryz.func82 (by rfl) rfl (n := 47) (by rfl) ?_,
   @fun a0 r H => fn_okF (E := env) Tryz.func96 (by rfl) rfl (n := 9) (by rfl) ?_⟩
  all_goals simp only [impl_ConfOk.f, impl_ReadSec.f, impl_HeadOf.f, impl_powered.f, impl_diskCopy.f, impl_DiskNew.f, Option.bind_some, List.nil_append, if_true, if_false, Bool.false_eq_true, nilB, nilE] at H
  all_goals repeat' ((conv => whnf); first
   | ((with_reducible have hp := peel_ H); clear H; obtain ⟨_, H⟩ := hp)
   | ((with_reducible have hp := peeln_ H); clear H; obtain ⟨_, H⟩ := hp)
   | (with_reducible replace H := itet_ H)
   | (with_reducible replace H := itef_ H)
   | ((with_reducible refine sideid_ ?_); refine side_ ?_)
   | ((with_reducible refine seqid_ ?_); first
    | ((with_reducible refine scg_ 1 ?_); refine scut_ 1 (fun s h => ∃ x0 x1 x13, impl_HeadOf.j0 kf x0 x1 x13 = some r86 ∧ s = spr 23 0 [(0, .v (.i .i64 x0)), (1, .v (.i .i64 x1)), (13, .v (.b x13))] ∧ h = []) ?_ ?_)
    | ((with_reducible refine scg_ 1 ?_); refine scut_ 1 (fun s h => ∃ x1 x17 x876000 x876001 x876002 x876003, impl_ReadSec.j0 kf x1 x17 x876000 x876001 x876002 x876003 = some r72 ∧ s = spr 48 0 [(1, .v (.i .i64 x1)), (2, .ptr 0 0), (17, .v (.b x17))] ∧ h = [.box 46 [.v (.row (List.map e22 x876000)), .v (.row (List.map e109 x876001)), .v (.i .i64 x876002), .v (.b x876003)]]) ?_ ?_)
    | (refine sgo_ ?_))
   | ((with_reducible refine brid_ ?_); first
    | (with_reducible refine brct_ ?_)
    | (with_reducible refine brcf_ ?_)
    | (with_reducible refine brt_ ?_)
    | (with_reducible refine brf_ ?_)
    | (refine bra_ H (fun _ H => ?_) (fun _ H => ?_))
    | (refine brna_ H (fun _ H => ?_) (fun _ H => ?_))
    | (refine brt_ ?_)
    | (refine brf_ ?_)
    | (refine bre_ H (fun _ H => ?_) (fun _ H => ?_))
    | (refine brne_ H (fun _ H => ?_) (fun _ H => ?_)))
   | ((with_reducible refine br2id_ ?_); first
    | (refine br2t_ ?_)
    | (refine br2f_ ?_))
   | ((with_reducible refine blkid_ ?_); refine bgo_ ?_)
   | ((with_reducible refine normid_ ?_); first
    | (refine norm_nilapp ?_)
    | (refine norm_appnil ?_)
    | (refine norm_app ?_)
    | (refine norm_t ?_)
    | (refine norm_d ?_)
    | (refine norm_td ?_)
    | (refine norm_set (e := 5) (f := e5) _ rfl ?_)
    | (refine norm_rep (e := 5) (f := e5) _ rfl ?_)
    | (refine norm_lit (e := 5) (n := 0) (f := e5) [] rfl ?_)
    | (refine norm_set (e := 22) (f := e22) _ rfl ?_)
    | (refine norm_rep (e := 22) (f := e22) _ rfl ?_)
    | (refine norm_rep (e := 22) (f := e22) [] rfl ?_)
    | (refine norm_set (e := 22) (f := e22) [] rfl ?_)
    | (refine norm_lit (e := 22) (n := 0) (f := e22) [] rfl ?_)
    | (refine norm_lit (e := 22) (n := 1) (f := e22) [_] rfl ?_)
    | (refine norm_set (e := 109) (f := e109) ⟨_, _⟩ rfl ?_)
    | (refine norm_rep (e := 109) (f := e109) ⟨_, _⟩ rfl ?_)
    | (refine norm_rep (e := 109) (f := e109) ⟨_, []⟩ rfl ?_)
    | (refine norm_set (e := 109) (f := e109) ⟨_, []⟩ rfl ?_)
    | (refine norm_lit (e := 109) (n := 0) (f := e109) [] rfl ?_)
    | (refine lit109 _ _ rfl ?_)
    | (refine lit109 _ [] rfl ?_)
    | (refine norm_lit (e := 109) (n := 1) (f := e109) [⟨_, _⟩] rfl ?_)
    | (refine norm_set (e := 138) (f := e138) ⟨_, _, _, _, _⟩ rfl ?_)
    | (refine norm_rep (e := 138) (f := e138) ⟨_, _, _, _, _⟩ rfl ?_))
   | ((with_reducible refine elemid_ ?_); first
    | (refine elema_ (f := e5) 0 (rd _ _) rfl ?_)
    | (refine elema_ (f := e22) [] (rd_L6 _ _) rfl ?_)
    | (refine elema_ (f := e109) z109 (rd_T109 _ _) rfl ?_)
    | (refine elema_ (f := e138) z138 (rd_T138 _ _) rfl ?_))
   | ((with_reducible refine lenid_ ?_); refine lenm_ ?_)
   | ((with_reducible refine strid_ ?_); first
    | (refine stre_ ?_)
    | (refine stre0_ ?_))
   | ((with_reducible refine callid_ ?_); (first | with_reducible have hp := bnd_ H | have hp := tl_ H); clear H; obtain ⟨_, ht, H⟩ := hp; (first
    | (with_reducible have ht := gYi1.2.2.1 ht)
    | (with_reducible have ht := gYi1.2.2.2.2.1 ht)
    | (with_reducible have ht := gYi1.1 ht)
    | (with_reducible have ht := gYi2.2.2.2.2.2.2.1 ht)
    | (with_reducible have ht := slices_Clone_byte_byte_ev ht)
    | (with_reducible have ht := gYi2.2.1 ht)
    | (with_reducible have ht := impl_dbPlace_ev ht)); refine call_ ht rfl rfl ?_)
   | ((with_reducible refine handid_ ?_); refine handa_ ?_)
   | ((with_reducible refine mkid_ ?_); first
    | (with_reducible refine mkbs_ 35 5 ?_)
    | (with_reducible refine mkbs_ 44 5 ?_)
    | (refine mka_ ?_))
   | ((with_reducible refine loopid_ ?_); (first
    | ((with_reducible have hk := idH_ (F := fun k => impl_diskCopy.l0 k _ _ _ _ _ _ _ _ _) H); clear hk; refine loopK_ (fun n s h => ∃ x3 x4 x12 x13 x14 x1307000 x1307001 x1307002 x1307003, impl_diskCopy.l0 n x3 x4 x12 x13 x14 x1307000 x1307001 x1307002 x1307003 = some r ∧ s = spr 48 0 [(1, .ptr 0 0), (2, .ptr 1 0), (3, .own 2 (List.map e22 x3).length), (4, .own 3 (List.map e109 x4).length), (12, .v (.row (List.map e22 x12))), (13, .v (.i .i64 x13)), (14, .v (.i .i64 x14))] ∧ h = [.box 46 [.v (.row (List.map e22 x1307000)), .v (.row (List.map e109 x1307001)), .v (.i .i64 x1307002), .v (.b x1307003)], .box 46 [.nil, .nil, .v (.i .i64 0), .v (.b false)], .tree 1 22 5 (List.map e22 x3), .tree 2 109 5 (List.map e109 x4)]) [] [] [] (bsp 48 0 [1, 2, 3, 4, 12, 13, 14]) _ (by (conv => whnf); refine ⟨_, _, _, _, _, _, _, _, _, H, rfl, rfl⟩) ?_; rintro n s h hn ⟨x3, x4, x12, x13, x14, x1307000, x1307001, x1307002, x1307003, H, rfl, rfl⟩)
    | ((with_reducible have hk := idH_ (F := fun k => impl_diskCopy.l1 k _ _ _ _ _ _ _ _ _) H); clear hk; refine loopK_ (fun n s h => ∃ x3 x4 x25 x26 x27 x1307000 x1307001 x1307002 x1307003, impl_diskCopy.l1 n x3 x4 x25 x26 x27 x1307000 x1307001 x1307002 x1307003 = some r ∧ s = spr 48 0 [(1, .ptr 0 0), (2, .ptr 1 0), (3, .own 2 (List.map e22 x3).length), (4, .own 3 (List.map e109 x4).length), (25, .v (.row (List.map e109 x25))), (26, .v (.i .i64 x26)), (27, .v (.i .i64 x27))] ∧ h = [.box 46 [.v (.row (List.map e22 x1307000)), .v (.row (List.map e109 x1307001)), .v (.i .i64 x1307002), .v (.b x1307003)], .box 46 [.nil, .nil, .v (.i .i64 0), .v (.b false)], .tree 1 22 5 (List.map e22 x3), .tree 2 109 5 (List.map e109 x4)]) [] [] [] (bsp 48 0 [1, 2, 3, 4, 25, 26, 27]) _ (by (conv => whnf); refine ⟨_, _, _, _, _, _, _, _, _, H, rfl, rfl⟩) ?_; rintro n s h hn ⟨x3, x4, x25, x26, x27, x1307000, x1307001, x1307002, x1307003, H, rfl, rfl⟩)
    | ((with_reducible have hk := idH_ (F := fun k => impl_ReadSec.l0 k _ _ _ _ _ _) H); clear hk; refine loopK_ (fun n s h => ∃ x1 x5 x876000 x876001 x876002 x876003, impl_ReadSec.l0 n x1 x5 x876000 x876001 x876002 x876003 = some r72 ∧ s = spr 48 0 [(1, .v (.i .i64 x1)), (2, .ptr 0 0), (5, .v (.i .i64 x5))] ∧ h = [.box 46 [.v (.row (List.map e22 x876000)), .v (.row (List.map e109 x876001)), .v (.i .i64 x876002), .v (.b x876003)]]) [] [] [] (bsp 48 0 [1, 2, 5]) _ (by (conv => whnf); refine ⟨_, _, _, _, _, _, H, rfl, rfl⟩) ?_; rintro n s h hn ⟨x1, x5, x876000, x876001, x876002, x876003, H, rfl, rfl⟩)
    | ((with_reducible have hk := idH_ (F := fun k => impl_ConfOk.l0 k _ _ _ _) H); clear hk; refine loopK_ (fun n s h => ∃ x0 x5 x6 x7, impl_ConfOk.l0 n x0 x5 x6 x7 = some r ∧ s = spr 52 0 [(0, .v (.row (List.map e138 x0))), (5, .v (.row (List.map e138 x5))), (6, .v (.i .i64 x6)), (7, .v (.i .i64 x7))] ∧ h = []) [] [] [] (bsp 52 0 [0, 5, 6, 7]) _ (by (conv => whnf); refine ⟨_, _, _, _, H, rfl, rfl⟩) ?_; rintro n s h hn ⟨x0, x5, x6, x7, H, rfl, rfl⟩)); all_goals (obtain _ | kf := n; (· first | (cases H; done) | (simp only [impl_ConfOk.l0, impl_ReadSec.l0, impl_diskCopy.l0, impl_diskCopy.l1] at H; cases H; done)); simp only [impl_ConfOk.l0, impl_ReadSec.l0, impl_diskCopy.l0, impl_diskCopy.l1, Option.bind_some, List.nil_append, if_true, if_false, Bool.false_eq_true, nilB, nilE] at H))
   | ((with_reducible refine nextid_ ?_); (first
    | (refine nextK_ (P := fun m => impl_diskCopy.l0 m _ _ _ _ _ _ _ _ _ = some _) H (bsp 48 0 [1, 2, 3, 4, 12, 13, 14]) ?_ ?_ ?_)
    | (refine nextK_ (P := fun m => impl_diskCopy.l1 m _ _ _ _ _ _ _ _ _ = some _) H (bsp 48 0 [1, 2, 3, 4, 25, 26, 27]) ?_ ?_ ?_)
    | (refine nextK_ (P := fun m => impl_ReadSec.l0 m _ _ _ _ _ _ = some _) H (bsp 48 0 [1, 2, 5]) ?_ ?_ ?_)
    | (refine nextK_ (P := fun m => impl_ConfOk.l0 m _ _ _ _ = some _) H (bsp 52 0 [0, 5, 6, 7]) ?_ ?_ ?_)); (conv => whnf); (first | refine ⟨_, _, _, _, H, ?_, rfl⟩ | refine ⟨_, _, _, _, H, ?_, ?_⟩ | refine ⟨_, _, _, _, _, _, H, ?_, rfl⟩ | refine ⟨_, _, _, _, _, _, H, ?_, ?_⟩ | refine ⟨_, _, _, _, _, _, _, _, _, H, ?_, rfl⟩ | refine ⟨_, _, _, _, _, _, _, _, _, H, ?_, ?_⟩); all_goals first | omega | rfl | (repeat' (first | rfl | refine own_eq ?_ | refine box_eq ?_ | refine cons_eq ?_ ?_ | refine vi_eq ?_ | simp only [List.length_map, List.length_set, wm_])))
   | ((with_reducible refine exid_ ?_); first
    | (have hk := idH_ (F := fun k => impl_HeadOf.j0 k _ _ _) H; refine weakK_ (ex := []) (us := []) (bs := []) (ms := (bsp 23 0 [0, 1, 13])) ?_; (conv => whnf); refine ⟨_, _, _, hk, rfl, rfl⟩)
    | (have hk := idH_ (F := fun k => impl_ReadSec.j0 k _ _ _ _ _ _) H; refine weakK_ (ex := []) (us := []) (bs := []) (ms := (bsp 48 0 [1, 2, 17])) ?_; (conv => whnf); refine ⟨_, _, _, _, _, _, hk, rfl, rfl⟩))
   | ((with_reducible refine allid_ ?_); first
    | (intro s h hj; clear H; obtain ⟨x0, x1, x13, H, rfl, rfl⟩ := hj; have hk := suc_ (g := fun k => impl_HeadOf.j0 k _ _ _) H (by simp only [impl_HeadOf.j0]); obtain ⟨kf, hk⟩ := hk; subst hk; simp only [impl_HeadOf.j0, Option.bind_some, List.nil_append, if_true, if_false, Bool.false_eq_true, nilB, nilE] at H)
    | (intro s h hj; clear H; obtain ⟨x1, x17, x876000, x876001, x876002, x876003, H, rfl, rfl⟩ := hj; have hk := suc_ (g := fun k => impl_ReadSec.j0 k _ _ _ _ _ _) H (by simp only [impl_ReadSec.j0]); obtain ⟨kf, hk⟩ := hk; subst hk; simp only [impl_ReadSec.j0, Option.bind_some, List.nil_append, if_true, if_false, Bool.false_eq_true, nilB, nilE] at H))
   | ((with_reducible refine finid_ ?_); first
    | (refine finK_ [(1, 22), (2, 109)] ?_; (conv => whnf); replace H := Option.some.inj H; subst H; (conv => whnf); exact feq_ rfl)
    | (refine finK_ [(2, 109)] ?_; (conv => whnf); replace H := Option.some.inj H; subst H; (conv => whnf); exact feq_ rfl)
    | (refine finK_ [] ?_; (conv => whnf); replace H := Option.some.inj H; subst H; (conv => whnf); exact feq_ rfl)))
end Go.Proofs.YthkepmicdpgbbaaGreatDoor.E
