/- Texts of this seat's claims, put together: E_spec_l3Draw -/
import Derived.Test.YthkepmicdpgbbaaDoorPkCB5
import Derived.Test.YthkepmicdpgbbaaDoorPkCE17
import Derived.Test.YthkepmicdpgbbaaDoorPkCE18
import Derived.Test.YthkepmicdpgbbaaDoorPkCE19
import Derived.Test.YthkepmicdpgbbaaDoorPkCE20
import Derived.Test.YthkepmicdpgbbaaDoorPkCE21
import Derived.Test.YthkepmicdpgbbaaDoorPkCE22
/- What the functions' codes come to. -/
namespace Go.Proofs.YthkepmicdpgbbaaDoor.E
open Go Go.RowKit Go.Proofs.YthkepmicdpgbbaaDoorW.PrintWords Go.Proofs.YthkepmicdpgbbaaDoor.P
set_option linter.unusedVariables false
set_option linter.unusedSimpArgs false
set_option maxHeartbeats 0
set_option maxRecDepth 100000
theorem spec_l3Draw_ev {kf : Nat} {s0_0 : List Int} {s0_1 : Int} {s0_2 : Int} {r : (List (S55)) × Int × Int} (H : spec_l3Draw.f kf s0_0 s0_1 s0_2 = some r) : Spec Tryd.prog 93 [.ptr 0 0] [.box 105 [.v (.row (List.map e5 s0_0)), .v (.i .i64 s0_1), .v (.i .i64 s0_2)]] (.own 1 (List.map e55 r.1).length) [.box 105 [.v (.row (List.map e5 s0_0)), .v (.i .i64 r.2.1), .v (.i .i64 r.2.2)], .arr 5 55 false (List.map e55 r.1)] := by
  simp only [spec_l3Draw.f, Option.bind_some, List.nil_append, if_true, if_false, Bool.false_eq_true, nilB, nilE] at H
  refine fn_okF (E := env) Tryd.func93 (by rfl) rfl (n := 31) (by rfl) ?_
  repeat' ((conv => whnf); first
           | ((with_reducible have hp := peel_ H); clear H; obtain ⟨_, H⟩ := hp)
           | ((with_reducible have hp := peeln_ H); clear H; obtain ⟨_, H⟩ := hp)
           | (with_reducible replace H := itet_ H)
           | (with_reducible replace H := itef_ H)
           | ((with_reducible refine sideid_ ?_); refine side_ ?_)
           | ((with_reducible refine seqid_ ?_); refine sgo_ ?_)
           | ((with_reducible refine brid_ ?_); first
             | (with_reducible refine brct_ ?_)
             | (with_reducible refine brcf_ ?_)
             | (with_reducible refine brt_ ?_)
             | (with_reducible refine brf_ ?_)
             | (refine br_ H (by with_reducible first | rfl | exact bi_ _ _ | exact bd_ _ | exact bs_ _ _) (fun _ H => ?_) (fun _ H => ?_))
             | (refine brn_ H (by with_reducible first | rfl | exact bni_ _ _ | exact bin_ _ _ | exact bn_ _ | exact bs0_ _ _ | exact bnn_ _) (fun _ H => ?_) (fun _ H => ?_))
             | (refine brt_ ?_)
             | (refine brf_ ?_)
             | (refine br_ H (by exact Eq.refl _) (fun _ H => ?_) (fun _ H => ?_))
             | (refine brn_ H (by exact Eq.refl _) (fun _ H => ?_) (fun _ H => ?_)))
           | ((with_reducible refine br2id_ ?_); first
             | (refine br2t_ ?_)
             | (refine br2f_ ?_))
           | ((with_reducible refine normid_ ?_); first
             | (refine norm_nilapp ?_)
             | (refine norm_appnil ?_)
             | (refine norm_app ?_)
             | (refine norm_t ?_)
             | (refine norm_d ?_)
             | (refine norm_td ?_)
             | (refine norm_set (e := 55) (f := e55) ⟨_, _, _, _, _⟩ rfl ?_)
             | (refine norm_rep (e := 55) (f := e55) ⟨_, _, _, _, _⟩ rfl ?_)
             | (refine norm_lit (e := 55) (n := 0) (f := e55) [] rfl ?_)
             | (refine norm_lit (e := 55) (n := 1) (f := e55) [⟨_, _, _, _, _⟩] rfl ?_))
           | ((with_reducible refine elemid_ ?_); refine elem_ (f := e55) z55 (rd_T55 _ _) rfl ?_ (by first | assumption | decide | omega) (by first | assumption | omega))
           | ((with_reducible refine lenid_ ?_); refine lenm_ ?_)
           | ((with_reducible refine strid_ ?_); first
             | (refine stre_ ?_)
             | (refine stre0_ ?_))
           | ((with_reducible refine callid_ ?_); have hp := bnd_ H; clear H; obtain ⟨_, ht, H⟩ := hp; first
             | (refine call_ (spec_l1Below_ev ht) rfl rfl ?_)
             | (refine call_ (spec_l3One_ev ht) rfl rfl ?_)
             | (refine call_ (spec_DbAt_ev ht) rfl rfl ?_))
           | ((with_reducible refine handid_ ?_); refine handa_ ?_)
           | ((with_reducible refine loopid_ ?_); refine loopK_ (fun n s h => ∃ x3 x4 x1001 x1002, spec_l3Draw.l0 n x3 x4 s0_0 x1001 x1002 = some r ∧ s = spr 32 0 [(0, .ptr 0 0), (3, .own 1 (List.map e55 x3).length), (4, .v (.i .i64 x4))] ∧ h = [.box 105 [.v (.row (List.map e5 s0_0)), .v (.i .i64 x1001), .v (.i .i64 x1002)], .arr 5 55 false (List.map e55 x3)]) [] [] [] (bsp 32 0 [0, 3, 4]) _ (by (conv => whnf); refine ⟨_, _, _, _, H, rfl, rfl⟩) ?_; rintro n s h hn ⟨x3, x4, x1001, x1002, H, rfl, rfl⟩; have hk := suc_ (g := fun k => spec_l3Draw.l0 k _ _ _ _ _) H (by simp only [spec_l3Draw.l0]); obtain ⟨kf, hk⟩ := hk; subst hk; simp only [spec_l3Draw.l0, Option.bind_some, List.nil_append, if_true, if_false, Bool.false_eq_true, nilB, nilE] at H)
           | ((with_reducible refine nextid_ ?_); refine nextK_ (P := fun m => spec_l3Draw.l0 m _ _ _ _ _ = some _) H (bsp 32 0 [0, 3, 4]) ?_ ?_ ?_; (conv => whnf); refine ⟨_, _, _, _, H, ?_, rfl⟩; all_goals first | omega | rfl | (repeat' (first | rfl | refine own_eq ?_ | refine cons_eq ?_ ?_ | refine vi_eq ?_ | simp only [List.length_map, List.length_set, wm_])))
           | ((with_reducible refine finid_ ?_); refine finK_ [] ?_; (conv => whnf); replace H := Option.some.inj H; subst H; (conv => whnf); refine ⟨rfl, ?_⟩; first | rfl | (repeat' (first | rfl | refine own_eq ?_ | refine tup_eq ?_ | refine agg_eq ?_ | refine cons_eq ?_ ?_ | refine vi_eq ?_ | simp only [List.length_map, List.length_set, wm_]))))
end Go.Proofs.YthkepmicdpgbbaaDoor.E
