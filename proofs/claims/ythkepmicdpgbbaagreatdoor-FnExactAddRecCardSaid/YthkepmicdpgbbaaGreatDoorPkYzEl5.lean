/- Texts of this seat's claims, put together: PkYEl5 -/
import Derived.Test.YthkepmicdpgbbaaGreatDoorPkYzEl2
/- What the functions' codes come to. -/
namespace Go.Proofs.YthkepmicdpgbbaaGreatDoor.E
open Go Go.RowKit Go.Proofs.YthkepmicdpgbbaaGreatDoorW.PrintWords Go.Proofs.YthkepmicdpgbbaaGreatDoor.P
set_option linter.unusedVariables false
set_option linter.unusedSimpArgs false
set_option maxHeartbeats 0
set_option maxRecDepth 100000
theorem gYl5 : (∀ {kf l0 r}, laws_toWrS.f kf l0 = some r → Spec Tryz.prog 71 [.v (.row (List.map e125 l0))] [] (.own 0 (List.map e109 r).length) [.tree 2 109 5 (List.map e109 r)]) := by
  refine @fun kf l0 r H => fn_okF (E := env) Tryz.func71 (by rfl) rfl (n := 22) (by rfl) ?_
  all_goals simp only [laws_toWrS.f, Option.bind_some, List.nil_append, if_true, if_false, Bool.false_eq_true, nilB, nilE] at H
  all_goals repeat' ((conv => whnf); first
   | ((with_reducible have hp := peel_ H); clear H; obtain ⟨_, H⟩ := hp)
   | ((with_reducible have hp := peeln_ H); clear H; obtain ⟨_, H⟩ := hp)
   | (with_reducible replace H := itet_ H)
   | (with_reducible replace H := itef_ H)
   | ((with_reducible refine sideid_ ?_); refine side_ ?_)
   | ((with_reducible refine seqid_ ?_); refine sgo_ ?_)
   | ((with_reducible refine brid_ ?_); first
    | (with_reducible refine brct_ ?_)
    | (with_reducible refine brcf_ ?_)
    | (with_reducible refine brt_ ?_)
    | (with_reducible refine brf_ ?_)
    | (refine bra_ H (fun _ H => ?_) (fun _ H => ?_))
    | (refine brna_ H (fun _ H => ?_) (fun _ H => ?_))
    | (refine brt_ ?_)
    | (refine brf_ ?_)
    | (refine bre_ H (fun _ H => ?_) (fun _ H => ?_))
    | (refine brne_ H (fun _ H => ?_) (fun _ H => ?_)))
   | ((with_reducible refine br2id_ ?_); first
    | (refine br2t_ ?_)
    | (refine br2f_ ?_))
   | ((with_reducible refine blkid_ ?_); refine bgo_ ?_)
   | ((with_reducible refine normid_ ?_); first
    | (refine norm_nilapp ?_)
    | (refine norm_appnil ?_)
    | (refine norm_app ?_)
    | (refine norm_t ?_)
    | (refine norm_d ?_)
    | (refine norm_td ?_)
    | (refine norm_set (e := 109) (f := e109) ⟨_, _⟩ rfl ?_)
    | (refine norm_rep (e := 109) (f := e109) ⟨_, _⟩ rfl ?_)
    | (refine norm_rep (e := 109) (f := e109) ⟨_, []⟩ rfl ?_)
    | (refine norm_set (e := 109) (f := e109) ⟨_, []⟩ rfl ?_)
    | (refine norm_set (e := 125) (f := e125) ⟨_, _⟩ rfl ?_)
    | (refine norm_rep (e := 125) (f := e125) ⟨_, _⟩ rfl ?_)
    | (refine norm_rep (e := 125) (f := e125) ⟨_, []⟩ rfl ?_)
    | (refine norm_set (e := 125) (f := e125) ⟨_, []⟩ rfl ?_))
   | ((with_reducible refine elemid_ ?_); first
    | (refine elema_ (f := e109) z109 (rd_T109 _ _) rfl ?_)
    | (refine elema_ (f := e125) z125 (rd_T125 _ _) rfl ?_))
   | ((with_reducible refine lenid_ ?_); refine lenm_ ?_)
   | ((with_reducible refine strid_ ?_); first
    | (refine stre_ ?_)
    | (refine stre0_ ?_))
   | ((with_reducible refine callid_ ?_); (first | with_reducible have hp := bnd_ H | have hp := tl_ H); clear H; obtain ⟨_, ht, H⟩ := hp; (with_reducible have ht := gYl2.2.2.2.1 ht); refine call_ ht rfl rfl ?_)
   | ((with_reducible refine handid_ ?_); refine handa_ ?_)
   | ((with_reducible refine mkid_ ?_); first
    | (with_reducible refine mkbm_ 44 5 ?_)
    | (refine mka_ ?_))
   | ((with_reducible refine loopid_ ?_); ((with_reducible have hk := idH_ (F := fun k => laws_toWrS.l0 k _ _ _) H); clear hk; refine loopK_ (fun n s h => ∃ x0 x3 x4, laws_toWrS.l0 n x0 x3 x4 = some r ∧ s = spr 23 0 [(0, .v (.row (List.map e125 x0))), (3, .own 0 (List.map e109 x3).length), (4, .v (.i .i64 x4))] ∧ h = [.tree 2 109 5 (List.map e109 x3)]) [] [] [] (bsp 23 0 [0, 3, 4]) _ (by (conv => whnf); refine ⟨_, _, _, H, rfl, rfl⟩) ?_; rintro n s h hn ⟨x0, x3, x4, H, rfl, rfl⟩); all_goals (obtain _ | kf := n; (· first | (cases H; done) | (simp only [laws_toWrS.l0] at H; cases H; done)); simp only [laws_toWrS.l0, Option.bind_some, List.nil_append, if_true, if_false, Bool.false_eq_true, nilB, nilE] at H))
   | ((with_reducible refine nextid_ ?_); (refine nextK_ (P := fun m => laws_toWrS.l0 m _ _ _ = some _) H (bsp 23 0 [0, 3, 4]) ?_ ?_ ?_); (conv => whnf); (first | refine ⟨_, _, _, H, ?_, rfl⟩ | refine ⟨_, _, _, H, ?_, ?_⟩); all_goals first | omega | rfl | (repeat' (first | rfl | refine own_eq ?_ | refine box_eq ?_ | refine cons_eq ?_ ?_ | refine vi_eq ?_ | simp only [List.length_map, List.length_set, wm_])))
   | ((with_reducible refine finid_ ?_); refine finK_ [] ?_; (conv => whnf); replace H := Option.some.inj H; subst H; (conv => whnf); exact feq_ rfl))
end Go.Proofs.YthkepmicdpgbbaaGreatDoor.E
