/- Texts of this seat's claims, put together: PkYEs14 -/
import Derived.Test.YthkepmicdpgbbaaGreatDoorPkYzEs13
/- What the functions' codes come to. -/
namespace Go.Proofs.YthkepmicdpgbbaaGreatDoor.E
open Go Go.RowKit Go.Proofs.YthkepmicdpgbbaaGreatDoorW.PrintWords Go.Proofs.YthkepmicdpgbbaaGreatDoor.P
set_option linter.unusedVariables false
set_option linter.unusedSimpArgs false
set_option maxHeartbeats 0
set_option maxRecDepth 100000
theorem gYs14 : (∀ {kf l0 r}, spec_DrawJour.f kf l0 = some r → Spec Tryz.prog 28 [.v (.row (List.map e5 l0))] [] (.tup [.agg [.own 0 (List.map e22 r.1).length, .own 1 (List.map e109 r.2.1).length, .v (.i .i64 r.2.2.1), .v (.b r.2.2.2.1)], .agg [.v (.i .i64 r.2.2.2.2.1), .v (.i .i64 r.2.2.2.2.2.1), .v (.i .i64 r.2.2.2.2.2.2.1), .v (.s r.2.2.2.2.2.2.2.1)], .v (.i .i64 r.2.2.2.2.2.2.2.2)]) [.arr 1 22 false (List.map e22 r.1), .arr 2 109 false (List.map e109 r.2.1)]) ∧
  (∀ {kf s0_0 s0_1 s0_2 a1 r}, spec_l5Any.f kf s0_0 s0_1 s0_2 a1 = some r → Spec Tryz.prog 95 [.ptr 0 0, .v (.i .i64 a1)] [.box 115 [.v (.row (List.map e5 s0_0)), .v (.i .i64 s0_1), .v (.i .i64 s0_2)]] (.agg [.own 1 (List.map e22 r.1).length, .own 2 (List.map e109 r.2.1).length, .v (.i .i64 r.2.2.1), .v (.b r.2.2.2.1)]) [.box 115 [.v (.row (List.map e5 s0_0)), .v (.i .i64 r.2.2.2.2.1), .v (.i .i64 r.2.2.2.2.2)], .arr 1 22 false (List.map e22 r.1), .arr 2 109 false (List.map e109 r.2.1)]) := by
  refine ⟨@fun kf l0 r H => fn_okF (E := env) Tryz.func28 (by rfl) rfl (n := 55) (by rfl) ?_,
   @fun kf s0_0 s0_1 s0_2 a1 r H => fn_okF (E := env) Tryz.func95 (by rfl) rfl (n := 53) (by rfl) ?_⟩
  all_goals simp only [spec_DrawJour.f, spec_l5Any.f, Option.bind_some, List.nil_append, if_true, if_false, Bool.false_eq_true, nilB, nilE] at H
  all_goals repeat' ((conv => whnf); first
   | ((with_reducible have hp := peel_ H); clear H; obtain ⟨_, H⟩ := hp)
   | ((with_reducible have hp := peeln_ H); clear H; obtain ⟨_, H⟩ := hp)
   | (with_reducible replace H := itet_ H)
   | (with_reducible replace H := itef_ H)
   | ((with_reducible refine sideid_ ?_); refine side_ ?_)
   | ((with_reducible refine seqid_ ?_); refine sgo_ ?_)
   | ((with_reducible refine brid_ ?_); first
    | (with_reducible refine brct_ ?_)
    | (with_reducible refine brcf_ ?_)
    | (with_reducible refine brt_ ?_)
    | (with_reducible refine brf_ ?_)
    | (refine bra_ H (fun _ H => ?_) (fun _ H => ?_))
    | (refine brna_ H (fun _ H => ?_) (fun _ H => ?_))
    | (refine brt_ ?_)
    | (refine brf_ ?_)
    | (refine bre_ H (fun _ H => ?_) (fun _ H => ?_))
    | (refine brne_ H (fun _ H => ?_) (fun _ H => ?_)))
   | ((with_reducible refine br2id_ ?_); first
    | (refine br2t_ ?_)
    | (refine br2f_ ?_))
   | ((with_reducible refine blkid_ ?_); refine bgo_ ?_)
   | ((with_reducible refine normid_ ?_); first
    | (refine norm_nilapp ?_)
    | (refine norm_appnil ?_)
    | (refine norm_app ?_)
    | (refine norm_t ?_)
    | (refine norm_d ?_)
    | (refine norm_td ?_)
    | (refine norm_set (e := 3) (f := e3) _ rfl ?_)
    | (refine norm_rep (e := 3) (f := e3) _ rfl ?_)
    | (refine norm_lit (e := 3) (n := 5) (f := e3) [_, _, _, _, _] rfl ?_)
    | (refine norm_set (e := 22) (f := e22) _ rfl ?_)
    | (refine norm_rep (e := 22) (f := e22) _ rfl ?_)
    | (refine norm_rep (e := 22) (f := e22) [] rfl ?_)
    | (refine norm_set (e := 22) (f := e22) [] rfl ?_)
    | (refine norm_lit (e := 3) (n := 3) (f := e3) [_, _, _] rfl ?_)
    | (refine norm_set (e := 5) (f := e5) _ rfl ?_)
    | (refine norm_rep (e := 5) (f := e5) _ rfl ?_))
   | ((with_reducible refine elemid_ ?_); first
    | (refine elema_ (f := e3) 0 (rd _ _) rfl ?_)
    | (refine elema_ (f := e22) [] (rd_L6 _ _) rfl ?_)
    | (refine elema_ (f := e5) 0 (rd _ _) rfl ?_))
   | ((with_reducible refine lenid_ ?_); refine lenm_ ?_)
   | ((with_reducible refine strid_ ?_); first
    | (refine stre_ ?_)
    | (refine stre0_ ?_))
   | ((with_reducible refine callid_ ?_); (first | with_reducible have hp := bnd_ H | have hp := tl_ H); clear H; obtain ⟨_, ht, H⟩ := hp; (first
    | (with_reducible have ht := gYs11 ht)
    | (with_reducible have ht := gYs3.2.2.2.2.1 ht)
    | (with_reducible have ht := gYs5.2.1 ht)
    | (with_reducible have ht := gYs4.2.2.2.1 ht)
    | (with_reducible have ht := gYs8.2.2.1 ht)
    | (with_reducible have ht := gYs13 ht)
    | (with_reducible have ht := gYs2.2.2.2.2.2.2.1 ht)
    | (with_reducible have ht := gYs5.2.2.2.2.2.2 ht)
    | (with_reducible have ht := gYs7.2.2.2 ht)); refine call_ ht rfl rfl ?_)
   | ((with_reducible refine handid_ ?_); refine handa_ ?_)
   | ((with_reducible refine mkid_ ?_); refine mka_ ?_)
   | ((with_reducible refine finid_ ?_); refine finK_ [] ?_; (conv => whnf); replace H := Option.some.inj H; subst H; (conv => whnf); exact feq_ rfl))
end Go.Proofs.YthkepmicdpgbbaaGreatDoor.E
