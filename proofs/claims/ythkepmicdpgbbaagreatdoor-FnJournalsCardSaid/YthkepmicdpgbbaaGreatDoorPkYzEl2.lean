/- Texts of this seat's claims, put together: PkYEl2 -/
import Derived.Test.YthkepmicdpgbbaaGreatDoorPkYzEl1
/- What the functions' codes come to. -/
namespace Go.Proofs.YthkepmicdpgbbaaGreatDoor.E
open Go Go.RowKit Go.Proofs.YthkepmicdpgbbaaGreatDoorW.PrintWords Go.Proofs.YthkepmicdpgbbaaGreatDoor.P
set_option linter.unusedVariables false
set_option linter.unusedSimpArgs false
set_option maxHeartbeats 0
set_option maxRecDepth 100000
theorem gYl2 : (∀ {kf l0 a1 r}, laws_szByteSS.f kf l0 a1 = some r → Spec Tryz.prog 65 [.v (.row (List.map e22 l0)), .v (.i .i64 a1)] [] (.v (.i .i64 r)) []) ∧
  (∀ {a0_0 l0_1 a1 r}, laws_szWr.f a0_0 l0_1 a1 = some r → Spec Tryz.prog 109 [.agg [.v (.i .i64 a0_0), .v (.row (List.map e5 l0_1))], .v (.i .i64 a1)] [] (.v (.i .i64 r)) []) ∧
  (∀ {kf l0 r}, laws_toByteSS.f kf l0 = some r → Spec Tryz.prog 70 [.v (.row (List.map e22 l0))] [] (.own 0 (List.map e22 r).length) [.arr 1 22 false (List.map e22 r)]) ∧
  (∀ {kf a0_0 l0_1 r}, laws_toWr.f kf a0_0 l0_1 = some r → Spec Tryz.prog 112 [.agg [.v (.i .i64 a0_0), .v (.row (List.map e5 l0_1))]] [] (.agg [.v (.i .i64 r.1), .own 0 (List.map e5 r.2).length]) [.arr 1 5 false (List.map e5 r.2)]) ∧
  (∀ {kf l0 l1 r}, laws_eqByteSS.f kf l0 l1 = some r → Spec Tryz.prog 74 [.v (.row (List.map e22 l0)), .v (.row (List.map e22 l1))] [] (.v (.b r)) []) ∧
  (∀ {kf a0_0 l0_1 a1_0 l1_1 r}, laws_eqWr.f kf a0_0 l0_1 a1_0 l1_1 = some r → Spec Tryz.prog 114 [.agg [.v (.i .i64 a0_0), .v (.row (List.map e5 l0_1))], .agg [.v (.i .i64 a1_0), .v (.row (List.map e5 l1_1))]] [] (.v (.b r)) []) ∧
  (∀ {kf l0 a1 r}, laws_heldByteSS.f kf l0 a1 = some r → Spec Tryz.prog 93 [.v (.row (List.map e22 l0)), .v (.i .i64 a1)] [] (.v (.i .i64 r)) []) ∧
  (∀ {kf l0 a1 r}, laws_heldWrS.f kf l0 a1 = some r → Spec Tryz.prog 94 [.v (.row (List.map e109 l0)), .v (.i .i64 a1)] [] (.v (.i .i64 r)) []) := by
  refine ⟨@fun kf l0 a1 r H => fn_okF (E := env) Tryz.func65 (by rfl) rfl (n := 25) (by rfl) ?_,
   @fun a0_0 l0_1 a1 r H => fn_okF (E := env) Tryz.func109 (by rfl) rfl (n := 10) (by rfl) ?_,
   @fun kf l0 r H => fn_okF (E := env) Tryz.func70 (by rfl) rfl (n := 22) (by rfl) ?_,
   @fun kf a0_0 l0_1 r H => fn_okF (E := env) Tryz.func112 (by rfl) rfl (n := 11) (by rfl) ?_,
   @fun kf l0 l1 r H => fn_okF (E := env) Tryz.func74 (by rfl) rfl (n := 25) (by rfl) ?_,
   @fun kf a0_0 l0_1 a1_0 l1_1 r H => fn_okF (E := env) Tryz.func114 (by rfl) rfl (n := 14) (by rfl) ?_,
   @fun kf l0 a1 r H => fn_okF (E := env) Tryz.func93 (by rfl) rfl (n := 19) (by rfl) ?_,
   @fun kf l0 a1 r H => fn_okF (E := env) Tryz.func94 (by rfl) rfl (n := 29) (by rfl) ?_⟩
  all_goals simp only [laws_szByteSS.f, laws_szWr.f, laws_toByteSS.f, laws_toWr.f, laws_eqByteSS.f, laws_eqWr.f, laws_heldByteSS.f, laws_heldWrS.f, Option.bind_some, List.nil_append, if_true, if_false, Bool.false_eq_true, nilB, nilE] at H
  all_goals repeat' ((conv => whnf); first
   | ((with_reducible have hp := peel_ H); clear H; obtain ⟨_, H⟩ := hp)
   | ((with_reducible have hp := peeln_ H); clear H; obtain ⟨_, H⟩ := hp)
   | (with_reducible replace H := itet_ H)
   | (with_reducible replace H := itef_ H)
   | ((with_reducible refine sideid_ ?_); refine side_ ?_)
   | ((with_reducible refine seqid_ ?_); refine sgo_ ?_)
   | ((with_reducible refine brid_ ?_); first
    | (with_reducible refine brct_ ?_)
    | (with_reducible refine brcf_ ?_)
    | (with_reducible refine brt_ ?_)
    | (with_reducible refine brf_ ?_)
    | (refine bra_ H (fun _ H => ?_) (fun _ H => ?_))
    | (refine brna_ H (fun _ H => ?_) (fun _ H => ?_))
    | (refine brt_ ?_)
    | (refine brf_ ?_)
    | (refine bre_ H (fun _ H => ?_) (fun _ H => ?_))
    | (refine brne_ H (fun _ H => ?_) (fun _ H => ?_)))
   | ((with_reducible refine br2id_ ?_); first
    | (refine br2t_ ?_)
    | (refine br2f_ ?_))
   | ((with_reducible refine blkid_ ?_); refine bgo_ ?_)
   | ((with_reducible refine normid_ ?_); first
    | (refine norm_nilapp ?_)
    | (refine norm_appnil ?_)
    | (refine norm_app ?_)
    | (refine norm_t ?_)
    | (refine norm_d ?_)
    | (refine norm_td ?_)
    | (refine norm_set (e := 5) (f := e5) _ rfl ?_)
    | (refine norm_rep (e := 5) (f := e5) _ rfl ?_)
    | (refine norm_set (e := 109) (f := e109) ⟨_, _⟩ rfl ?_)
    | (refine norm_rep (e := 109) (f := e109) ⟨_, _⟩ rfl ?_)
    | (refine norm_rep (e := 109) (f := e109) ⟨_, []⟩ rfl ?_)
    | (refine norm_set (e := 109) (f := e109) ⟨_, []⟩ rfl ?_)
    | (refine norm_set (e := 22) (f := e22) _ rfl ?_)
    | (refine norm_rep (e := 22) (f := e22) _ rfl ?_)
    | (refine norm_rep (e := 22) (f := e22) [] rfl ?_)
    | (refine norm_set (e := 22) (f := e22) [] rfl ?_))
   | ((with_reducible refine elemid_ ?_); first
    | (refine elema_ (f := e5) 0 (rd _ _) rfl ?_)
    | (refine elema_ (f := e109) z109 (rd_T109 _ _) rfl ?_)
    | (refine elema_ (f := e22) [] (rd_L6 _ _) rfl ?_))
   | ((with_reducible refine lenid_ ?_); refine lenm_ ?_)
   | ((with_reducible refine strid_ ?_); first
    | (refine stre_ ?_)
    | (refine stre0_ ?_))
   | ((with_reducible refine callid_ ?_); (first | with_reducible have hp := bnd_ H | have hp := tl_ H); clear H; obtain ⟨_, ht, H⟩ := hp; (first
    | (with_reducible have ht := gYl1.2.2.2.2.2.2.1 ht)
    | (with_reducible have ht := gYl1.2.2.1 ht)
    | (with_reducible have ht := gYl1.2.1 ht)
    | (with_reducible have ht := gYl1.1 ht)); refine call_ ht rfl rfl ?_)
   | ((with_reducible refine handid_ ?_); refine handa_ ?_)
   | ((with_reducible refine mkid_ ?_); refine mka_ ?_)
   | ((with_reducible refine loopid_ ?_); (first
    | ((with_reducible have hk := idH_ (F := fun k => laws_heldWrS.l0 k _ _ _) H); clear hk; refine loopK_ (fun n s h => ∃ x0 x1 x5, laws_heldWrS.l0 n x0 x1 x5 = some r ∧ s = spr 31 0 [(0, .v (.row (List.map e109 x0))), (1, .v (.i .i64 x1)), (5, .v (.i .i64 x5))] ∧ h = []) [] [] [] (bsp 31 0 [0, 1, 5]) _ (by (conv => whnf); refine ⟨_, _, _, H, rfl, rfl⟩) ?_; rintro n s h hn ⟨x0, x1, x5, H, rfl, rfl⟩)
    | ((with_reducible have hk := idH_ (F := fun k => laws_heldByteSS.l0 k _ _ _) H); clear hk; refine loopK_ (fun n s h => ∃ x0 x1 x5, laws_heldByteSS.l0 n x0 x1 x5 = some r ∧ s = spr 21 0 [(0, .v (.row (List.map e22 x0))), (1, .v (.i .i64 x1)), (5, .v (.i .i64 x5))] ∧ h = []) [] [] [] (bsp 21 0 [0, 1, 5]) _ (by (conv => whnf); refine ⟨_, _, _, H, rfl, rfl⟩) ?_; rintro n s h hn ⟨x0, x1, x5, H, rfl, rfl⟩)
    | ((with_reducible have hk := idH_ (F := fun k => laws_eqByteSS.l0 k _ _ _) H); clear hk; refine loopK_ (fun n s h => ∃ x0 x1 x5, laws_eqByteSS.l0 n x0 x1 x5 = some r ∧ s = spr 27 0 [(0, .v (.row (List.map e22 x0))), (1, .v (.row (List.map e22 x1))), (5, .v (.i .i64 x5))] ∧ h = []) [] [] [] (bsp 27 0 [0, 1, 5]) _ (by (conv => whnf); refine ⟨_, _, _, H, rfl, rfl⟩) ?_; rintro n s h hn ⟨x0, x1, x5, H, rfl, rfl⟩)
    | ((with_reducible have hk := idH_ (F := fun k => laws_toByteSS.l0 k _ _ _) H); clear hk; refine loopK_ (fun n s h => ∃ x0 x3 x4, laws_toByteSS.l0 n x0 x3 x4 = some r ∧ s = spr 23 0 [(0, .v (.row (List.map e22 x0))), (3, .own 0 (List.map e22 x3).length), (4, .v (.i .i64 x4))] ∧ h = [.arr 1 22 false (List.map e22 x3)]) [] [] [] (bsp 23 0 [0, 3, 4]) _ (by (conv => whnf); refine ⟨_, _, _, H, rfl, rfl⟩) ?_; rintro n s h hn ⟨x0, x3, x4, H, rfl, rfl⟩)
    | ((with_reducible have hk := idH_ (F := fun k => laws_szByteSS.l0 k _ _ _) H); clear hk; refine loopK_ (fun n s h => ∃ x0 x1 x5, laws_szByteSS.l0 n x0 x1 x5 = some r ∧ s = spr 27 0 [(0, .v (.row (List.map e22 x0))), (1, .v (.i .i64 x1)), (5, .v (.i .i64 x5))] ∧ h = []) [] [] [] (bsp 27 0 [0, 1, 5]) _ (by (conv => whnf); refine ⟨_, _, _, H, rfl, rfl⟩) ?_; rintro n s h hn ⟨x0, x1, x5, H, rfl, rfl⟩)); all_goals (obtain _ | kf := n; (· first | (cases H; done) | (simp only [laws_eqByteSS.l0, laws_heldByteSS.l0, laws_heldWrS.l0, laws_szByteSS.l0, laws_toByteSS.l0] at H; cases H; done)); simp only [laws_eqByteSS.l0, laws_heldByteSS.l0, laws_heldWrS.l0, laws_szByteSS.l0, laws_toByteSS.l0, Option.bind_some, List.nil_append, if_true, if_false, Bool.false_eq_true, nilB, nilE] at H))
   | ((with_reducible refine nextid_ ?_); (first
    | (refine nextK_ (P := fun m => laws_heldWrS.l0 m _ _ _ = some _) H (bsp 31 0 [0, 1, 5]) ?_ ?_ ?_)
    | (refine nextK_ (P := fun m => laws_heldByteSS.l0 m _ _ _ = some _) H (bsp 21 0 [0, 1, 5]) ?_ ?_ ?_)
    | (refine nextK_ (P := fun m => laws_eqByteSS.l0 m _ _ _ = some _) H (bsp 27 0 [0, 1, 5]) ?_ ?_ ?_)
    | (refine nextK_ (P := fun m => laws_toByteSS.l0 m _ _ _ = some _) H (bsp 23 0 [0, 3, 4]) ?_ ?_ ?_)
    | (refine nextK_ (P := fun m => laws_szByteSS.l0 m _ _ _ = some _) H (bsp 27 0 [0, 1, 5]) ?_ ?_ ?_)); (conv => whnf); (first | refine ⟨_, _, _, H, ?_, rfl⟩ | refine ⟨_, _, _, H, ?_, ?_⟩); all_goals first | omega | rfl | (repeat' (first | rfl | refine own_eq ?_ | refine box_eq ?_ | refine cons_eq ?_ ?_ | refine vi_eq ?_ | simp only [List.length_map, List.length_set, wm_])))
   | ((with_reducible refine finid_ ?_); refine finK_ [] ?_; (conv => whnf); replace H := Option.some.inj H; subst H; (conv => whnf); exact feq_ rfl))
end Go.Proofs.YthkepmicdpgbbaaGreatDoor.E
