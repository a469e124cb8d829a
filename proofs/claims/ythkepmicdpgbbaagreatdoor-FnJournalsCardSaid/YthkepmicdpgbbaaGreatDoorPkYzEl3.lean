/- Texts of this seat's claims, put together: PkYEl3 -/
import Derived.Test.YthkepmicdpgbbaaGreatDoorPkYzEl2
/- What the functions' codes come to. -/
namespace Go.Proofs.YthkepmicdpgbbaaGreatDoor.E
open Go Go.RowKit Go.Proofs.YthkepmicdpgbbaaGreatDoorW.PrintWords Go.Proofs.YthkepmicdpgbbaaGreatDoor.P
set_option linter.unusedVariables false
set_option linter.unusedSimpArgs false
set_option maxHeartbeats 0
set_option maxRecDepth 100000
theorem gYl3 : (∀ {kf l0 a1 r}, laws_szWrS.f kf l0 a1 = some r → Spec Tryz.prog 66 [.v (.row (List.map e125 l0)), .v (.i .i64 a1)] [] (.v (.i .i64 r)) []) ∧
  (∀ {kf l0 r}, laws_toWrS.f kf l0 = some r → Spec Tryz.prog 71 [.v (.row (List.map e125 l0))] [] (.own 0 (List.map e109 r).length) [.arr 2 109 false (List.map e109 r)]) ∧
  (∀ {kf l0 l1 r}, laws_eqWrS.f kf l0 l1 = some r → Spec Tryz.prog 75 [.v (.row (List.map e109 l0)), .v (.row (List.map e109 l1))] [] (.v (.b r)) []) ∧
  (∀ {kf l0_0 l0_1 a0_2 a0_3 a1 r}, laws_heldDisk.f kf l0_0 l0_1 a0_2 a0_3 a1 = some r → Spec Tryz.prog 37 [.agg [.v (.row (List.map e22 l0_0)), .v (.row (List.map e109 l0_1)), .v (.i .i64 a0_2), .v (.b a0_3)], .v (.i .i64 a1)] [] (.v (.i .i64 r)) []) ∧
  (∀ {kf l0 r}, laws_toByteSS.f kf l0 = some r → Spec Tryz.prog 70 [.v (.row (List.map e22 l0))] [] (.own 0 (List.map e22 r).length) [.tree 1 22 5 (List.map e22 r)]) ∧
  (∀ {kf l0_0 l0_1 a0_2 a0_3 l1_0 l1_1 a1_2 a1_3 r}, laws_sameDisk.f kf l0_0 l0_1 a0_2 a0_3 l1_0 l1_1 a1_2 a1_3 = some r → Spec Tryz.prog 40 [.agg [.v (.row (List.map e22 l0_0)), .v (.row (List.map e109 l0_1)), .v (.i .i64 a0_2), .v (.b a0_3)], .agg [.v (.row (List.map e22 l1_0)), .v (.row (List.map e109 l1_1)), .v (.i .i64 a1_2), .v (.b a1_3)]] [] (.v (.b r)) []) := by
  refine ⟨@fun kf l0 a1 r H => fn_okF (E := env) Tryz.func66 (by rfl) rfl (n := 25) (by rfl) ?_,
   @fun kf l0 r H => fn_okF (E := env) Tryz.func71 (by rfl) rfl (n := 22) (by rfl) ?_,
   @fun kf l0 l1 r H => fn_okF (E := env) Tryz.func75 (by rfl) rfl (n := 25) (by rfl) ?_,
   @fun kf l0_0 l0_1 a0_2 a0_3 a1 r H => fn_okF (E := env) Tryz.func37 (by rfl) rfl (n := 16) (by rfl) ?_,
   @fun kf l0 r H => fn_okF (E := env) Tryz.func70 (by rfl) rfl (n := 22) (by rfl) ?_,
   @fun kf l0_0 l0_1 a0_2 a0_3 l1_0 l1_1 a1_2 a1_3 r40 H => fn_okF (E := env) Tryz.func40 (by rfl) rfl (n := 90) (by rfl) ?_⟩
  all_goals simp only [laws_szWrS.f, laws_toWrS.f, laws_eqWrS.f, laws_heldDisk.f, laws_toByteSS.f, laws_sameDisk.f, Option.bind_some, List.nil_append, if_true, if_false, Bool.false_eq_true, nilB, nilE] at H
  all_goals repeat' ((conv => whnf); first
   | ((with_reducible have hp := peel_ H); clear H; obtain ⟨_, H⟩ := hp)
   | ((with_reducible have hp := peeln_ H); clear H; obtain ⟨_, H⟩ := hp)
   | (with_reducible replace H := itet_ H)
   | (with_reducible replace H := itef_ H)
   | ((with_reducible refine sideid_ ?_); refine side_ ?_)
   | ((with_reducible refine seqid_ ?_); first
    | ((with_reducible refine scg_ 1 ?_); refine scut_ 1 (fun s h => ∃ x36 x1766000 x1766001 x1766002 x1766003 x1767000 x1767001 x1767002 x1767003, laws_sameDisk.j0 kf x36 x1766000 x1766001 x1766002 x1766003 x1767000 x1767001 x1767002 x1767003 = some r40 ∧ s = spr 92 0 [(2, .ptr 0 0), (3, .ptr 1 0), (36, .v (.b x36))] ∧ h = [.box 46 [.v (.row (List.map e22 x1766000)), .v (.row (List.map e109 x1766001)), .v (.i .i64 x1766002), .v (.b x1766003)], .box 46 [.v (.row (List.map e22 x1767000)), .v (.row (List.map e109 x1767001)), .v (.i .i64 x1767002), .v (.b x1767003)]]) ?_ ?_)
    | (refine sgo_ ?_))
   | ((with_reducible refine brid_ ?_); first
    | (with_reducible refine brct_ ?_)
    | (with_reducible refine brcf_ ?_)
    | (with_reducible refine brt_ ?_)
    | (with_reducible refine brf_ ?_)
    | (refine bra_ H (fun _ H => ?_) (fun _ H => ?_))
    | (refine brna_ H (fun _ H => ?_) (fun _ H => ?_))
    | (refine brt_ ?_)
    | (refine brf_ ?_)
    | (refine bre_ H (fun _ H => ?_) (fun _ H => ?_))
    | (refine brne_ H (fun _ H => ?_) (fun _ H => ?_)))
   | ((with_reducible refine br2id_ ?_); first
    | (refine br2t_ ?_)
    | (refine br2f_ ?_))
   | ((with_reducible refine blkid_ ?_); refine bgo_ ?_)
   | ((with_reducible refine normid_ ?_); first
    | (refine norm_nilapp ?_)
    | (refine norm_appnil ?_)
    | (refine norm_app ?_)
    | (refine norm_t ?_)
    | (refine norm_d ?_)
    | (refine norm_td ?_)
    | (refine norm_set (e := 5) (f := e5) _ rfl ?_)
    | (refine norm_rep (e := 5) (f := e5) _ rfl ?_)
    | (refine norm_set (e := 22) (f := e22) _ rfl ?_)
    | (refine norm_rep (e := 22) (f := e22) _ rfl ?_)
    | (refine norm_rep (e := 22) (f := e22) [] rfl ?_)
    | (refine norm_set (e := 22) (f := e22) [] rfl ?_)
    | (refine norm_set (e := 109) (f := e109) ⟨_, _⟩ rfl ?_)
    | (refine norm_rep (e := 109) (f := e109) ⟨_, _⟩ rfl ?_)
    | (refine norm_rep (e := 109) (f := e109) ⟨_, []⟩ rfl ?_)
    | (refine norm_set (e := 109) (f := e109) ⟨_, []⟩ rfl ?_)
    | (refine norm_set (e := 125) (f := e125) ⟨_, _⟩ rfl ?_)
    | (refine norm_rep (e := 125) (f := e125) ⟨_, _⟩ rfl ?_)
    | (refine norm_rep (e := 125) (f := e125) ⟨_, []⟩ rfl ?_)
    | (refine norm_set (e := 125) (f := e125) ⟨_, []⟩ rfl ?_))
   | ((with_reducible refine elemid_ ?_); first
    | (refine elema_ (f := e5) 0 (rd _ _) rfl ?_)
    | (refine elema_ (f := e22) [] (rd_L6 _ _) rfl ?_)
    | (refine elema_ (f := e109) z109 (rd_T109 _ _) rfl ?_)
    | (refine elema_ (f := e125) z125 (rd_T125 _ _) rfl ?_))
   | ((with_reducible refine lenid_ ?_); refine lenm_ ?_)
   | ((with_reducible refine strid_ ?_); first
    | (refine stre_ ?_)
    | (refine stre0_ ?_))
   | ((with_reducible refine callid_ ?_); (first | with_reducible have hp := bnd_ H | have hp := tl_ H); clear H; obtain ⟨_, ht, H⟩ := hp; (first
    | (with_reducible have ht := gYl1.2.2.2.2.2.2.2.2.1 ht)
    | (with_reducible have ht := gYl1.2.1 ht)
    | (with_reducible have ht := gYl2.2.2.2.2.2.2.1 ht)
    | (with_reducible have ht := gYl2.2.2.2.2.2.2.2 ht)
    | (with_reducible have ht := gYl2.2.2.2.2.2.1 ht)
    | (with_reducible have ht := gYl2.2.2.2.1 ht)
    | (with_reducible have ht := gYl2.2.1 ht)); refine call_ ht rfl rfl ?_)
   | ((with_reducible refine handid_ ?_); refine handa_ ?_)
   | ((with_reducible refine mkid_ ?_); first
    | (with_reducible refine mkbm_ 35 5 ?_)
    | (refine mka_ ?_))
   | ((with_reducible refine loopid_ ?_); (first
    | ((with_reducible have hk := idH_ (F := fun k => laws_sameDisk.l0 k _ _ _ _ _ _ _ _ _) H); clear hk; refine loopK_ (fun n s h => ∃ x5 x1766000 x1766001 x1766002 x1766003 x1767000 x1767001 x1767002 x1767003, laws_sameDisk.l0 n x5 x1766000 x1766001 x1766002 x1766003 x1767000 x1767001 x1767002 x1767003 = some r40 ∧ s = spr 92 0 [(2, .ptr 0 0), (3, .ptr 1 0), (5, .v (.i .i64 x5))] ∧ h = [.box 46 [.v (.row (List.map e22 x1766000)), .v (.row (List.map e109 x1766001)), .v (.i .i64 x1766002), .v (.b x1766003)], .box 46 [.v (.row (List.map e22 x1767000)), .v (.row (List.map e109 x1767001)), .v (.i .i64 x1767002), .v (.b x1767003)]]) [] [] [] (bsp 92 0 [2, 3, 5]) _ (by (conv => whnf); refine ⟨_, _, _, _, _, _, _, _, _, H, rfl, rfl⟩) ?_; rintro n s h hn ⟨x5, x1766000, x1766001, x1766002, x1766003, x1767000, x1767001, x1767002, x1767003, H, rfl, rfl⟩)
    | ((with_reducible have hk := idH_ (F := fun k => laws_sameDisk.l1 k _ _ _ _ _ _ _ _ _) H); clear hk; refine loopK_ (fun n s h => ∃ x6 x1766000 x1766001 x1766002 x1766003 x1767000 x1767001 x1767002 x1767003, laws_sameDisk.l1 n x6 x1766000 x1766001 x1766002 x1766003 x1767000 x1767001 x1767002 x1767003 = some r40 ∧ s = spr 92 0 [(2, .ptr 0 0), (3, .ptr 1 0), (6, .v (.i .i64 x6))] ∧ h = [.box 46 [.v (.row (List.map e22 x1766000)), .v (.row (List.map e109 x1766001)), .v (.i .i64 x1766002), .v (.b x1766003)], .box 46 [.v (.row (List.map e22 x1767000)), .v (.row (List.map e109 x1767001)), .v (.i .i64 x1767002), .v (.b x1767003)]]) [] [] [] (bsp 92 0 [2, 3, 6]) _ (by (conv => whnf); refine ⟨_, _, _, _, _, _, _, _, _, H, rfl, rfl⟩) ?_; rintro n s h hn ⟨x6, x1766000, x1766001, x1766002, x1766003, x1767000, x1767001, x1767002, x1767003, H, rfl, rfl⟩)
    | ((with_reducible have hk := idH_ (F := fun k => laws_toByteSS.l0 k _ _ _) H); clear hk; refine loopK_ (fun n s h => ∃ x0 x3 x4, laws_toByteSS.l0 n x0 x3 x4 = some r ∧ s = spr 23 0 [(0, .v (.row (List.map e22 x0))), (3, .own 0 (List.map e22 x3).length), (4, .v (.i .i64 x4))] ∧ h = [.tree 1 22 5 (List.map e22 x3)]) [] [] [] (bsp 23 0 [0, 3, 4]) _ (by (conv => whnf); refine ⟨_, _, _, H, rfl, rfl⟩) ?_; rintro n s h hn ⟨x0, x3, x4, H, rfl, rfl⟩)
    | ((with_reducible have hk := idH_ (F := fun k => laws_eqWrS.l0 k _ _ _) H); clear hk; refine loopK_ (fun n s h => ∃ x0 x1 x5, laws_eqWrS.l0 n x0 x1 x5 = some r ∧ s = spr 27 0 [(0, .v (.row (List.map e109 x0))), (1, .v (.row (List.map e109 x1))), (5, .v (.i .i64 x5))] ∧ h = []) [] [] [] (bsp 27 0 [0, 1, 5]) _ (by (conv => whnf); refine ⟨_, _, _, H, rfl, rfl⟩) ?_; rintro n s h hn ⟨x0, x1, x5, H, rfl, rfl⟩)
    | ((with_reducible have hk := idH_ (F := fun k => laws_toWrS.l0 k _ _ _) H); clear hk; refine loopK_ (fun n s h => ∃ x0 x3 x4, laws_toWrS.l0 n x0 x3 x4 = some r ∧ s = spr 23 0 [(0, .v (.row (List.map e125 x0))), (3, .own 0 (List.map e109 x3).length), (4, .v (.i .i64 x4))] ∧ h = [.arr 2 109 false (List.map e109 x3)]) [] [] [] (bsp 23 0 [0, 3, 4]) _ (by (conv => whnf); refine ⟨_, _, _, H, rfl, rfl⟩) ?_; rintro n s h hn ⟨x0, x3, x4, H, rfl, rfl⟩)
    | ((with_reducible have hk := idH_ (F := fun k => laws_szWrS.l0 k _ _ _) H); clear hk; refine loopK_ (fun n s h => ∃ x0 x1 x5, laws_szWrS.l0 n x0 x1 x5 = some r ∧ s = spr 27 0 [(0, .v (.row (List.map e125 x0))), (1, .v (.i .i64 x1)), (5, .v (.i .i64 x5))] ∧ h = []) [] [] [] (bsp 27 0 [0, 1, 5]) _ (by (conv => whnf); refine ⟨_, _, _, H, rfl, rfl⟩) ?_; rintro n s h hn ⟨x0, x1, x5, H, rfl, rfl⟩)); all_goals (obtain _ | kf := n; (· first | (cases H; done) | (simp only [laws_eqWrS.l0, laws_sameDisk.l0, laws_sameDisk.l1, laws_szWrS.l0, laws_toByteSS.l0, laws_toWrS.l0] at H; cases H; done)); simp only [laws_eqWrS.l0, laws_sameDisk.l0, laws_sameDisk.l1, laws_szWrS.l0, laws_toByteSS.l0, laws_toWrS.l0, Option.bind_some, List.nil_append, if_true, if_false, Bool.false_eq_true, nilB, nilE] at H))
   | ((with_reducible refine nextid_ ?_); (first
    | (refine nextK_ (P := fun m => laws_sameDisk.l0 m _ _ _ _ _ _ _ _ _ = some _) H (bsp 92 0 [2, 3, 5]) ?_ ?_ ?_)
    | (refine nextK_ (P := fun m => laws_sameDisk.l1 m _ _ _ _ _ _ _ _ _ = some _) H (bsp 92 0 [2, 3, 6]) ?_ ?_ ?_)
    | (refine nextK_ (P := fun m => laws_toByteSS.l0 m _ _ _ = some _) H (bsp 23 0 [0, 3, 4]) ?_ ?_ ?_)
    | (refine nextK_ (P := fun m => laws_eqWrS.l0 m _ _ _ = some _) H (bsp 27 0 [0, 1, 5]) ?_ ?_ ?_)
    | (refine nextK_ (P := fun m => laws_toWrS.l0 m _ _ _ = some _) H (bsp 23 0 [0, 3, 4]) ?_ ?_ ?_)
    | (refine nextK_ (P := fun m => laws_szWrS.l0 m _ _ _ = some _) H (bsp 27 0 [0, 1, 5]) ?_ ?_ ?_)); (conv => whnf); (first | refine ⟨_, _, _, H, ?_, rfl⟩ | refine ⟨_, _, _, H, ?_, ?_⟩ | refine ⟨_, _, _, _, _, _, _, _, _, H, ?_, rfl⟩ | refine ⟨_, _, _, _, _, _, _, _, _, H, ?_, ?_⟩); all_goals first | omega | rfl | (repeat' (first | rfl | refine own_eq ?_ | refine box_eq ?_ | refine cons_eq ?_ ?_ | refine vi_eq ?_ | simp only [List.length_map, List.length_set, wm_])))
   | ((with_reducible refine exid_ ?_); have hk := idH_ (F := fun k => laws_sameDisk.j0 k _ _ _ _ _ _ _ _ _) H; refine weakK_ (ex := []) (us := []) (bs := []) (ms := (bsp 92 0 [2, 3, 36])) ?_; (conv => whnf); refine ⟨_, _, _, _, _, _, _, _, _, hk, rfl, rfl⟩)
   | ((with_reducible refine allid_ ?_); intro s h hj; clear H; obtain ⟨x36, x1766000, x1766001, x1766002, x1766003, x1767000, x1767001, x1767002, x1767003, H, rfl, rfl⟩ := hj; have hk := suc_ (g := fun k => laws_sameDisk.j0 k _ _ _ _ _ _ _ _ _) H (by simp only [laws_sameDisk.j0]); obtain ⟨kf, hk⟩ := hk; subst hk; simp only [laws_sameDisk.j0, Option.bind_some, List.nil_append, if_true, if_false, Bool.false_eq_true, nilB, nilE] at H)
   | ((with_reducible refine finid_ ?_); refine finK_ [] ?_; (conv => whnf); replace H := Option.some.inj H; subst H; (conv => whnf); exact feq_ rfl))
end Go.Proofs.YthkepmicdpgbbaaGreatDoor.E
