/- Texts of this seat's claims, put together: PkYEs13 -/
import Derived.Test.YthkepmicdpgbbaaGreatDoorPkYzEs12
/- What the functions' codes come to. -/
namespace Go.Proofs.YthkepmicdpgbbaaGreatDoor.E
open Go Go.RowKit Go.Proofs.YthkepmicdpgbbaaGreatDoorW.PrintWords Go.Proofs.YthkepmicdpgbbaaGreatDoor.P
set_option linter.unusedVariables false
set_option linter.unusedSimpArgs false
set_option maxHeartbeats 0
set_option maxRecDepth 100000
theorem gYs13 : (∀ {kf s0_0 s0_1 s0_2 a1 r}, spec_l5Draw.f kf s0_0 s0_1 s0_2 a1 = some r → Spec Tryz.prog 80 [.ptr 0 0, .v (.i .i64 a1)] [.box 115 [.v (.row (List.map e5 s0_0)), .v (.i .i64 s0_1), .v (.i .i64 s0_2)]] (.agg [.own 1 (List.map e22 r.1).length, .own 2 (List.map e109 r.2.1).length, .v (.i .i64 r.2.2.1), .v (.b r.2.2.2.1)]) [.box 115 [.v (.row (List.map e5 s0_0)), .v (.i .i64 r.2.2.2.2.1), .v (.i .i64 r.2.2.2.2.2)], .arr 1 22 false (List.map e22 r.1), .arr 2 109 false (List.map e109 r.2.1)]) := by
  refine @fun kf s0_0 s0_1 s0_2 a1 r H => fn_okF (E := env) Tryz.func80 (by rfl) rfl (n := 51) (by rfl) ?_
  all_goals simp only [spec_l5Draw.f, Option.bind_some, List.nil_append, if_true, if_false, Bool.false_eq_true, nilB, nilE] at H
  all_goals repeat' ((conv => whnf); first
   | ((with_reducible have hp := peel_ H); clear H; obtain ⟨_, H⟩ := hp)
   | ((with_reducible have hp := peeln_ H); clear H; obtain ⟨_, H⟩ := hp)
   | (with_reducible replace H := itet_ H)
   | (with_reducible replace H := itef_ H)
   | ((with_reducible refine sideid_ ?_); refine side_ ?_)
   | ((with_reducible refine seqid_ ?_); refine sgo_ ?_)
   | ((with_reducible refine brid_ ?_); first
    | (with_reducible refine brct_ ?_)
    | (with_reducible refine brcf_ ?_)
    | (with_reducible refine brt_ ?_)
    | (with_reducible refine brf_ ?_)
    | (refine bra_ H (fun _ H => ?_) (fun _ H => ?_))
    | (refine brna_ H (fun _ H => ?_) (fun _ H => ?_))
    | (refine brt_ ?_)
    | (refine brf_ ?_)
    | (refine bre_ H (fun _ H => ?_) (fun _ H => ?_))
    | (refine brne_ H (fun _ H => ?_) (fun _ H => ?_)))
   | ((with_reducible refine br2id_ ?_); first
    | (refine br2t_ ?_)
    | (refine br2f_ ?_))
   | ((with_reducible refine blkid_ ?_); refine bgo_ ?_)
   | ((with_reducible refine lenid_ ?_); refine lenm_ ?_)
   | ((with_reducible refine strid_ ?_); first
    | (refine stre_ ?_)
    | (refine stre0_ ?_))
   | ((with_reducible refine callid_ ?_); (first | with_reducible have hp := bnd_ H | have hp := tl_ H); clear H; obtain ⟨_, ht, H⟩ := hp; (first
    | (with_reducible have ht := gYs11 ht)
    | (with_reducible have ht := gYs12 ht)
    | (with_reducible have ht := gYs4.2.2.2.1 ht)
    | (with_reducible have ht := gYs8.2.2.1 ht)
    | (with_reducible have ht := gYs5.2.2.2.2.1 ht)); refine call_ ht rfl rfl ?_)
   | ((with_reducible refine handid_ ?_); refine handa_ ?_)
   | ((with_reducible refine mkid_ ?_); refine mka_ ?_)
   | ((with_reducible refine loopid_ ?_); ((with_reducible have hk := idH_ (F := fun k => spec_l5Draw.l0 k _ _ _ _ _ _ _ _) H); clear hk; refine loopK_ (fun n s h => ∃ x6 x1001 x1002 x1207000 x1207001 x1207002 x1207003, spec_l5Draw.l0 n x6 s0_0 x1001 x1002 x1207000 x1207001 x1207002 x1207003 = some r ∧ s = spr 53 0 [(0, .ptr 0 0), (4, .ptr 1 0), (5, .ptr 2 0), (6, .v (.i .i64 x6))] ∧ h = [.box 115 [.v (.row (List.map e5 s0_0)), .v (.i .i64 x1001), .v (.i .i64 x1002)], .box 46 [.nil, .nil, .v (.i .i64 0), .v (.b false)], .box 46 [.own 3 (List.map e22 x1207000).length, .own 4 (List.map e109 x1207001).length, .v (.i .i64 x1207002), .v (.b x1207003)], .arr 1 22 false (List.map e22 x1207000), .arr 2 109 false (List.map e109 x1207001)]) [] [] [] (bsp 53 0 [0, 4, 5, 6]) _ (by (conv => whnf); refine ⟨_, _, _, _, _, _, _, H, rfl, rfl⟩) ?_; rintro n s h hn ⟨x6, x1001, x1002, x1207000, x1207001, x1207002, x1207003, H, rfl, rfl⟩); all_goals (obtain _ | kf := n; (· first | (cases H; done) | (simp only [spec_l5Draw.l0] at H; cases H; done)); simp only [spec_l5Draw.l0, Option.bind_some, List.nil_append, if_true, if_false, Bool.false_eq_true, nilB, nilE] at H))
   | ((with_reducible refine nextid_ ?_); (refine nextK_ (P := fun m => spec_l5Draw.l0 m _ _ _ _ _ _ _ _ = some _) H (bsp 53 0 [0, 4, 5, 6]) ?_ ?_ ?_); (conv => whnf); (first | refine ⟨_, _, _, _, _, _, _, H, ?_, rfl⟩ | refine ⟨_, _, _, _, _, _, _, H, ?_, ?_⟩); all_goals first | omega | rfl | (repeat' (first | rfl | refine own_eq ?_ | refine box_eq ?_ | refine cons_eq ?_ ?_ | refine vi_eq ?_ | simp only [List.length_map, List.length_set, wm_])))
   | ((with_reducible refine finid_ ?_); refine finK_ [] ?_; (conv => whnf); replace H := Option.some.inj H; subst H; (conv => whnf); exact feq_ rfl))
end Go.Proofs.YthkepmicdpgbbaaGreatDoor.E
