/- Texts of this seat's claims, put together: PkYEi8 -/
import Derived.Test.YthkepmicdpgbbaaGreatDoorPkYzEi7
/- What the functions' codes come to. -/
namespace Go.Proofs.YthkepmicdpgbbaaGreatDoor.E
open Go Go.RowKit Go.Proofs.YthkepmicdpgbbaaGreatDoorW.PrintWords Go.Proofs.YthkepmicdpgbbaaGreatDoor.P
set_option linter.unusedVariables false
set_option linter.unusedSimpArgs false
set_option maxHeartbeats 0
set_option maxRecDepth 100000
theorem gYi8 : (∀ {kf a0 a1 a2_0 a2_1 a2_2 a2_3 r}, impl_PutRec.f kf a0 a1 a2_0 a2_1 a2_2 a2_3 = some r → Spec Tryz.prog 11 [.v (.i .i64 a0), .v (.i .i64 a1), .agg [.v (.i .i64 a2_0), .v (.i .i64 a2_1), .v (.i .i64 a2_2), .v (.s a2_3)]] [] (.own 0 (List.map e5 r).length) [.arr 1 5 false (List.map e5 r)]) ∧
  (∀ {kf a0_0 a0_1 a0_2 a0_3 a0_4 a0_5 r}, impl_KnownOk.f kf a0_0 a0_1 a0_2 a0_3 a0_4 a0_5 = some r → Spec Tryz.prog 81 [.agg [.v (.i .i64 a0_0), .v (.s a0_1), .v (.i .i64 a0_2), .v (.s a0_3), .v (.i .i64 a0_4), .v (.i .i64 a0_5)]] [] (.v (.b r)) []) := by
  refine ⟨@fun kf a0 a1 a2_0 a2_1 a2_2 a2_3 r11 H => fn_okF (E := env) Tryz.func11 (by rfl) rfl (n := 44) (by rfl) ?_,
   @fun kf a0_0 a0_1 a0_2 a0_3 a0_4 a0_5 r H => fn_okF (E := env) Tryz.func81 (by rfl) rfl (n := 46) (by rfl) ?_⟩
  all_goals simp only [impl_PutRec.f, impl_KnownOk.f, Option.bind_some, List.nil_append, if_true, if_false, Bool.false_eq_true, nilB, nilE] at H
  all_goals repeat' ((conv => whnf); first
   | ((with_reducible have hp := peel_ H); clear H; obtain ⟨_, H⟩ := hp)
   | ((with_reducible have hp := peeln_ H); clear H; obtain ⟨_, H⟩ := hp)
   | (with_reducible replace H := itet_ H)
   | (with_reducible replace H := itef_ H)
   | ((with_reducible refine sideid_ ?_); refine side_ ?_)
   | ((with_reducible refine seqid_ ?_); first
    | ((with_reducible refine scg_ 1 ?_); refine scut_ 1 (fun s h => ∃ x0 x1 x20 x388000 x388001 x388002 x388003, impl_PutRec.j0 kf x0 x1 x20 x388000 x388001 x388002 x388003 = some r11 ∧ s = spr 47 0 [(0, .v (.i .i64 x0)), (1, .v (.i .i64 x1)), (5, .ptr 0 0), (20, .v (.b x20))] ∧ h = [.box 25 [.v (.i .i64 x388000), .v (.i .i64 x388001), .v (.i .i64 x388002), .v (.s x388003)]]) ?_ ?_)
    | (refine sgo_ ?_))
   | ((with_reducible refine brid_ ?_); first
    | (with_reducible refine brct_ ?_)
    | (with_reducible refine brcf_ ?_)
    | (with_reducible refine brt_ ?_)
    | (with_reducible refine brf_ ?_)
    | (refine bra_ H (fun _ H => ?_) (fun _ H => ?_))
    | (refine brna_ H (fun _ H => ?_) (fun _ H => ?_))
    | (refine brt_ ?_)
    | (refine brf_ ?_)
    | (refine bre_ H (fun _ H => ?_) (fun _ H => ?_))
    | (refine brne_ H (fun _ H => ?_) (fun _ H => ?_)))
   | ((with_reducible refine br2id_ ?_); first
    | (refine br2t_ ?_)
    | (refine br2f_ ?_))
   | ((with_reducible refine blkid_ ?_); refine bgo_ ?_)
   | ((with_reducible refine normid_ ?_); first
    | (refine norm_nilapp ?_)
    | (refine norm_appnil ?_)
    | (refine norm_app ?_)
    | (refine norm_t ?_)
    | (refine norm_d ?_)
    | (refine norm_td ?_)
    | (refine norm_set (e := 5) (f := e5) _ rfl ?_)
    | (refine norm_rep (e := 5) (f := e5) _ rfl ?_)
    | (refine norm_lit (e := 5) (n := 0) (f := e5) [] rfl ?_)
    | (refine norm_lit (e := 5) (n := 1) (f := e5) [_] rfl ?_))
   | ((with_reducible refine elemid_ ?_); refine elema_ (f := e5) 0 (rd _ _) rfl ?_)
   | ((with_reducible refine lenid_ ?_); refine lenm_ ?_)
   | ((with_reducible refine strid_ ?_); first
    | (refine stre_ ?_)
    | (refine stre0_ ?_))
   | ((with_reducible refine callid_ ?_); (first | with_reducible have hp := bnd_ H | have hp := tl_ H); clear H; obtain ⟨_, ht, H⟩ := hp; (first
    | (with_reducible have ht := gYi1.1 ht)
    | (with_reducible have ht := gYi7.2 ht)
    | (with_reducible have ht := gYi7.1 ht)
    | (with_reducible have ht := gYi2.2.2.1 ht)
    | (with_reducible have ht := gYi1.2.2.1 ht)
    | (with_reducible have ht := gYi2.2.2.2.1 ht)
    | (with_reducible have ht := gYi1.2.2.2.2.1 ht)); refine call_ ht rfl rfl ?_)
   | ((with_reducible refine handid_ ?_); refine handa_ ?_)
   | ((with_reducible refine mkid_ ?_); refine mka_ ?_)
   | ((with_reducible refine exid_ ?_); have hk := idH_ (F := fun k => impl_PutRec.j0 k _ _ _ _ _ _ _) H; refine weakK_ (ex := []) (us := []) (bs := []) (ms := (bsp 47 0 [0, 1, 5, 20])) ?_; (conv => whnf); refine ⟨_, _, _, _, _, _, _, hk, rfl, rfl⟩)
   | ((with_reducible refine allid_ ?_); intro s h hj; clear H; obtain ⟨x0, x1, x20, x388000, x388001, x388002, x388003, H, rfl, rfl⟩ := hj; have hk := suc_ (g := fun k => impl_PutRec.j0 k _ _ _ _ _ _ _) H (by simp only [impl_PutRec.j0]); obtain ⟨kf, hk⟩ := hk; subst hk; simp only [impl_PutRec.j0, Option.bind_some, List.nil_append, if_true, if_false, Bool.false_eq_true, nilB, nilE] at H)
   | ((with_reducible refine finid_ ?_); refine finK_ [] ?_; (conv => whnf); replace H := Option.some.inj H; subst H; (conv => whnf); exact feq_ rfl))
end Go.Proofs.YthkepmicdpgbbaaGreatDoor.E
