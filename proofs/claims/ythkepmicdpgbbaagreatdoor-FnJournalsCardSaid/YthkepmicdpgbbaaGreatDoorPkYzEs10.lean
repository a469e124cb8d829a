/- Texts of this seat's claims, put together: PkYEs10 -/
import Derived.Test.YthkepmicdpgbbaaGreatDoorPkYzEs9
/- What the functions' codes come to. -/
namespace Go.Proofs.YthkepmicdpgbbaaGreatDoor.E
open Go Go.RowKit Go.Proofs.YthkepmicdpgbbaaGreatDoorW.PrintWords Go.Proofs.YthkepmicdpgbbaaGreatDoor.P
set_option linter.unusedVariables false
set_option linter.unusedSimpArgs false
set_option maxHeartbeats 0
set_option maxRecDepth 100000
theorem gYs10 : (∀ {kf l0_0 l0_1 a0_2 a0_3 a1 r}, spec_Replay.f kf l0_0 l0_1 a0_2 a0_3 a1 = some r → Spec Tryz.prog 20 [.agg [.v (.row (List.map e22 l0_0)), .v (.row (List.map e109 l0_1)), .v (.i .i64 a0_2), .v (.b a0_3)], .v (.i .i64 a1)] [] (.tup [.agg [.v (.i .i64 r.1), .v (.s r.2.1), .v (.i .i64 r.2.2.1), .v (.s r.2.2.2.1), .v (.i .i64 r.2.2.2.2.1), .v (.i .i64 r.2.2.2.2.2.1)], .v (.i .i64 r.2.2.2.2.2.2)]) []) := by
  refine @fun kf l0_0 l0_1 a0_2 a0_3 a1 r H => fn_okF (E := env) Tryz.func20 (by rfl) rfl (n := 58) (by rfl) ?_
  all_goals simp only [spec_Replay.f, Option.bind_some, List.nil_append, if_true, if_false, Bool.false_eq_true, nilB, nilE] at H
  all_goals repeat' ((conv => whnf); first
   | ((with_reducible have hp := peel_ H); clear H; obtain ⟨_, H⟩ := hp)
   | ((with_reducible have hp := peeln_ H); clear H; obtain ⟨_, H⟩ := hp)
   | (with_reducible replace H := itet_ H)
   | (with_reducible replace H := itef_ H)
   | ((with_reducible refine sideid_ ?_); refine side_ ?_)
   | ((with_reducible refine seqid_ ?_); first
    | ((with_reducible refine scg_ 8 ?_); refine scut_ 8 (fun s h => ∃ x1 x7 x45 x796000 x796001 x796002 x796003 x798000 x798001 x798002 x798003 x798004 x798005 x811000 x811001 x811002 x811003, spec_Replay.j1 kf x1 x7 x45 x796000 x796001 x796002 x796003 x798000 x798001 x798002 x798003 x798004 x798005 x811000 x811001 x811002 x811003 = some r ∧ s = spr 60 0 [(1, .v (.i .i64 x1)), (2, .ptr 0 0), (4, .ptr 1 0), (6, .ptr 2 0), (7, .v (.i .i64 x7)), (10, .ptr 3 0), (45, .v (.b x45))] ∧ h = [.box 46 [.v (.row (List.map e22 x796000)), .v (.row (List.map e109 x796001)), .v (.i .i64 x796002), .v (.b x796003)], .box 41 [.v (.i .i64 0), .v (.s (⟨#[]⟩ : ByteArray)), .v (.i .i64 0), .v (.s (⟨#[]⟩ : ByteArray)), .v (.i .i64 0), .v (.i .i64 0)], .box 41 [.v (.i .i64 x798000), .v (.s x798001), .v (.i .i64 x798002), .v (.s x798003), .v (.i .i64 x798004), .v (.i .i64 x798005)], .box 25 [.v (.i .i64 x811000), .v (.i .i64 x811001), .v (.i .i64 x811002), .v (.s x811003)]]) ?_ ?_)
    | (refine sgo_ ?_))
   | ((with_reducible refine brid_ ?_); first
    | (with_reducible refine brct_ ?_)
    | (with_reducible refine brcf_ ?_)
    | (with_reducible refine brt_ ?_)
    | (with_reducible refine brf_ ?_)
    | (refine bra_ H (fun _ H => ?_) (fun _ H => ?_))
    | (refine brna_ H (fun _ H => ?_) (fun _ H => ?_))
    | (refine brt_ ?_)
    | (refine brf_ ?_)
    | (refine bre_ H (fun _ H => ?_) (fun _ H => ?_))
    | (refine brne_ H (fun _ H => ?_) (fun _ H => ?_)))
   | ((with_reducible refine br2id_ ?_); first
    | (refine br2t_ ?_)
    | (refine br2f_ ?_))
   | ((with_reducible refine blkid_ ?_); refine bgo_ ?_)
   | ((with_reducible refine normid_ ?_); first
    | (refine norm_nilapp ?_)
    | (refine norm_appnil ?_)
    | (refine norm_app ?_)
    | (refine norm_t ?_)
    | (refine norm_d ?_)
    | (refine norm_td ?_)
    | (refine norm_set (e := 5) (f := e5) _ rfl ?_)
    | (refine norm_rep (e := 5) (f := e5) _ rfl ?_))
   | ((with_reducible refine elemid_ ?_); refine elema_ (f := e5) 0 (rd _ _) rfl ?_)
   | ((with_reducible refine lenid_ ?_); refine lenm_ ?_)
   | ((with_reducible refine strid_ ?_); first
    | (refine stre_ ?_)
    | (refine stre0_ ?_))
   | ((with_reducible refine callid_ ?_); (first | with_reducible have hp := bnd_ H | have hp := tl_ H); clear H; obtain ⟨_, ht, H⟩ := hp; (first
    | (with_reducible have ht := gYs9.1 ht)
    | (with_reducible have ht := gYs1.1 ht)
    | (with_reducible have ht := gYs3.2.1 ht)
    | (with_reducible have ht := gYs1.2.2.2.2.2.2.2.1 ht)
    | (with_reducible have ht := gYs8.2.1 ht)); refine call_ ht rfl rfl ?_)
   | ((with_reducible refine handid_ ?_); refine handa_ ?_)
   | ((with_reducible refine mkid_ ?_); refine mka_ ?_)
   | ((with_reducible refine loopid_ ?_); ((with_reducible have hk := idH_ (F := fun k => spec_Replay.l0 k _ _ _ _ _ _ _ _ _ _ _ _) H); clear hk; refine loopK_ (fun n s h => ∃ x1 x7 x796000 x796001 x796002 x796003 x798000 x798001 x798002 x798003 x798004 x798005, spec_Replay.l0 n x1 x7 x796000 x796001 x796002 x796003 x798000 x798001 x798002 x798003 x798004 x798005 = some r ∧ s = spr 60 0 [(1, .v (.i .i64 x1)), (2, .ptr 0 0), (4, .ptr 1 0), (6, .ptr 2 0), (7, .v (.i .i64 x7))] ∧ h = [.box 46 [.v (.row (List.map e22 x796000)), .v (.row (List.map e109 x796001)), .v (.i .i64 x796002), .v (.b x796003)], .box 41 [.v (.i .i64 0), .v (.s (⟨#[]⟩ : ByteArray)), .v (.i .i64 0), .v (.s (⟨#[]⟩ : ByteArray)), .v (.i .i64 0), .v (.i .i64 0)], .box 41 [.v (.i .i64 x798000), .v (.s x798001), .v (.i .i64 x798002), .v (.s x798003), .v (.i .i64 x798004), .v (.i .i64 x798005)]]) [] [] [] (bsp 60 0 [1, 2, 4, 6, 7]) _ (by (conv => whnf); refine ⟨_, _, _, _, _, _, _, _, _, _, _, _, H, rfl, rfl⟩) ?_; rintro n s h hn ⟨x1, x7, x796000, x796001, x796002, x796003, x798000, x798001, x798002, x798003, x798004, x798005, H, rfl, rfl⟩); all_goals (obtain _ | kf := n; (· first | (cases H; done) | (simp only [spec_Replay.l0] at H; cases H; done)); simp only [spec_Replay.l0, Option.bind_some, List.nil_append, if_true, if_false, Bool.false_eq_true, nilB, nilE] at H))
   | ((with_reducible refine nextid_ ?_); (refine nextK_ (P := fun m => spec_Replay.l0 m _ _ _ _ _ _ _ _ _ _ _ _ = some _) H (bsp 60 0 [1, 2, 4, 6, 7]) ?_ ?_ ?_); (conv => whnf); (first | refine ⟨_, _, _, _, _, _, _, _, _, _, _, _, H, ?_, rfl⟩ | refine ⟨_, _, _, _, _, _, _, _, _, _, _, _, H, ?_, ?_⟩); all_goals first | omega | rfl | (repeat' (first | rfl | refine own_eq ?_ | refine box_eq ?_ | refine cons_eq ?_ ?_ | refine vi_eq ?_ | simp only [List.length_map, List.length_set, wm_])))
   | ((with_reducible refine exid_ ?_); have hk := idH_ (F := fun k => spec_Replay.j1 k _ _ _ _ _ _ _ _ _ _ _ _ _ _ _ _ _) H; refine weakK_ (ex := []) (us := []) (bs := []) (ms := (bsp 60 0 [1, 2, 4, 6, 7, 10, 45])) ?_; (conv => whnf); refine ⟨_, _, _, _, _, _, _, _, _, _, _, _, _, _, _, _, _, hk, rfl, rfl⟩)
   | ((with_reducible refine allid_ ?_); intro s h hj; clear H; obtain ⟨x1, x7, x45, x796000, x796001, x796002, x796003, x798000, x798001, x798002, x798003, x798004, x798005, x811000, x811001, x811002, x811003, H, rfl, rfl⟩ := hj; have hk := suc_ (g := fun k => spec_Replay.j1 k _ _ _ _ _ _ _ _ _ _ _ _ _ _ _ _ _) H (by simp only [spec_Replay.j1]); obtain ⟨kf, hk⟩ := hk; subst hk; simp only [spec_Replay.j1, Option.bind_some, List.nil_append, if_true, if_false, Bool.false_eq_true, nilB, nilE] at H)
   | ((with_reducible refine finid_ ?_); refine finK_ [] ?_; (conv => whnf); replace H := Option.some.inj H; subst H; (conv => whnf); exact feq_ rfl))
end Go.Proofs.YthkepmicdpgbbaaGreatDoor.E
