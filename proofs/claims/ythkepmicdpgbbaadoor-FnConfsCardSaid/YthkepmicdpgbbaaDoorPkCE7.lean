/- Texts of this seat's claims, put together: E_spec_ParseConf -/
import Derived.Test.YthkepmicdpgbbaaDoorPkCB5
import Derived.Test.YthkepmicdpgbbaaDoorPkCE1
import Derived.Test.YthkepmicdpgbbaaDoorPkCE2
import Derived.Test.YthkepmicdpgbbaaDoorPkCE3
import Derived.Test.YthkepmicdpgbbaaDoorPkCE4
import Derived.Test.YthkepmicdpgbbaaDoorPkCE5
import Derived.Test.YthkepmicdpgbbaaDoorPkCE6
/- What the functions' codes come to. -/
namespace Go.Proofs.YthkepmicdpgbbaaDoor.E
open Go Go.RowKit Go.Proofs.YthkepmicdpgbbaaDoorW.PrintWords Go.Proofs.YthkepmicdpgbbaaDoor.P
set_option linter.unusedVariables false
set_option linter.unusedSimpArgs false
set_option maxHeartbeats 0
set_option maxRecDepth 100000
theorem spec_ParseConf_ev {kf : Nat} {a0 : ByteArray} {r : (List (S55)) × Bool} (H : spec_ParseConf.f kf a0 = some r) : Spec Tryd.prog 9 [.v (.s a0)] [] (.tup [.own 0 (List.map e55 r.1).length, .v (.b r.2)]) [.arr 5 55 false (List.map e55 r.1)] := by
  simp only [spec_ParseConf.f, Option.bind_some, List.nil_append, if_true, if_false, Bool.false_eq_true, nilB, nilE] at H
  refine fn_okF (E := env) Tryd.func9 (by rfl) rfl (n := 86) (by rfl) ?_
  repeat' ((conv => whnf); first
           | ((with_reducible have hp := peel_ H); clear H; obtain ⟨_, H⟩ := hp)
           | ((with_reducible have hp := peeln_ H); clear H; obtain ⟨_, H⟩ := hp)
           | (with_reducible replace H := itet_ H)
           | (with_reducible replace H := itef_ H)
           | ((with_reducible refine sideid_ ?_); refine side_ ?_)
           | ((with_reducible refine seqid_ ?_); refine sgo_ ?_)
           | ((with_reducible refine brid_ ?_); first
             | (with_reducible refine brct_ ?_)
             | (with_reducible refine brcf_ ?_)
             | (with_reducible refine brt_ ?_)
             | (with_reducible refine brf_ ?_)
             | (refine br_ H (by with_reducible first | rfl | exact bi_ _ _ | exact bd_ _ | exact bs_ _ _) (fun _ H => ?_) (fun _ H => ?_))
             | (refine brn_ H (by with_reducible first | rfl | exact bni_ _ _ | exact bin_ _ _ | exact bn_ _ | exact bs0_ _ _ | exact bnn_ _) (fun _ H => ?_) (fun _ H => ?_))
             | (refine brt_ ?_)
             | (refine brf_ ?_)
             | (refine br_ H (by exact Eq.refl _) (fun _ H => ?_) (fun _ H => ?_))
             | (refine brn_ H (by exact Eq.refl _) (fun _ H => ?_) (fun _ H => ?_)))
           | ((with_reducible refine br2id_ ?_); first
             | (refine br2t_ ?_)
             | (refine br2f_ ?_))
           | ((with_reducible refine normid_ ?_); first
             | (refine norm_nilapp ?_)
             | (refine norm_appnil ?_)
             | (refine norm_app ?_)
             | (refine norm_t ?_)
             | (refine norm_d ?_)
             | (refine norm_td ?_)
             | (refine norm_set (e := 3) (f := e3) _ rfl ?_)
             | (refine norm_rep (e := 3) (f := e3) _ rfl ?_)
             | (refine norm_lit (e := 3) (n := 4) (f := e3) [_, _, _, _] rfl ?_)
             | (refine norm_set (e := 9) (f := e9) _ rfl ?_)
             | (refine norm_rep (e := 9) (f := e9) _ rfl ?_)
             | (refine norm_set (e := 55) (f := e55) ⟨_, _, _, _, _⟩ rfl ?_)
             | (refine norm_rep (e := 55) (f := e55) ⟨_, _, _, _, _⟩ rfl ?_)
             | (refine norm_lit (e := 55) (n := 0) (f := e55) [] rfl ?_)
             | (refine norm_lit (e := 55) (n := 1) (f := e55) [⟨_, _, _, _, _⟩] rfl ?_))
           | ((with_reducible refine elemid_ ?_); first
             | (refine elem_ (f := e3) 0 (rd _ _) rfl ?_ (by first | assumption | decide | omega) (by first | assumption | omega))
             | (refine elem_ (f := e9) ByteArray.empty (rdOf ByteArray.empty _ _) rfl ?_ (by first | assumption | decide | omega) (by first | assumption | omega))
             | (refine elem_ (f := e55) z55 (rd_T55 _ _) rfl ?_ (by first | assumption | decide | omega) (by first | assumption | omega)))
           | ((with_reducible refine lenid_ ?_); refine lenm_ ?_)
           | ((with_reducible refine strid_ ?_); first
             | (refine stre_ ?_)
             | (refine stre0_ ?_))
           | ((with_reducible refine callid_ ?_); have hp := bnd_ H; clear H; obtain ⟨_, ht, H⟩ := hp; first
             | (refine call_ (spec_ConfOk_ev ht) rfl rfl ?_)
             | (refine call_ (spec_l3Split_ev ht) rfl rfl ?_)
             | (refine call_ (spec_ParseNum_ev ht) rfl rfl ?_))
           | ((with_reducible refine handid_ ?_); refine handa_ ?_)
           | ((with_reducible refine loopid_ ?_); first
             | (refine loopK_ (fun n s h => ∃ x4 x5 x6, spec_ParseConf.l0 n x4 x5 x6 = some r ∧ s = spr 87 0 [(4, .own 0 (List.map e9 x4).length), (5, .own 1 (List.map e55 x5).length), (6, .v (.i .i64 x6))] ∧ h = [.arr 1 9 false (List.map e9 x4), .arr 5 55 false (List.map e55 x5)]) [] [] [] (bsp 87 0 [4, 5, 6]) _ (by (conv => whnf); refine ⟨_, _, _, H, rfl, rfl⟩) ?_; rintro n s h hn ⟨x4, x5, x6, H, rfl, rfl⟩; have hk := suc_ (g := fun k => spec_ParseConf.l0 k _ _ _) H (by simp only [spec_ParseConf.l0]); obtain ⟨kf, hk⟩ := hk; subst hk; simp only [spec_ParseConf.l0, Option.bind_some, List.nil_append, if_true, if_false, Bool.false_eq_true, nilB, nilE] at H)
             | (refine loopK_ (fun n s h => ∃ x4 x5 x6 x7 x8 x9 x10, spec_ParseConf.l1 n x4 x5 x6 x7 x8 x9 x10 = some r ∧ s = spr 87 0 [(4, .own 0 (List.map e9 x4).length), (5, .own 1 (List.map e55 x5).length), (6, .v (.i .i64 x6)), (7, .own 2 (List.map e9 x7).length), (8, .own 3 (List.map e9 x8).length), (9, .own 4 (List.map e3 x9).length), (10, .v (.i .i64 x10))] ∧ h = [.arr 1 9 false (List.map e9 x4), .arr 5 55 false (List.map e55 x5), .arr 1 9 false (List.map e9 x7), .arr 1 9 false (List.map e9 x8), .arr 1 3 false (List.map e3 x9)]) [] [] [] (bsp 87 0 [4, 5, 6, 7, 8, 9, 10]) _ (by (conv => whnf); refine ⟨_, _, _, _, _, _, _, H, rfl, rfl⟩) ?_; rintro n s h hn ⟨x4, x5, x6, x7, x8, x9, x10, H, rfl, rfl⟩; have hk := suc_ (g := fun k => spec_ParseConf.l1 k _ _ _ _ _ _ _) H (by simp only [spec_ParseConf.l1]); obtain ⟨kf, hk⟩ := hk; subst hk; simp only [spec_ParseConf.l1, Option.bind_some, List.nil_append, if_true, if_false, Bool.false_eq_true, nilB, nilE] at H))
           | ((with_reducible refine nextid_ ?_); first
             | (refine nextK_ (P := fun m => spec_ParseConf.l0 m _ _ _ = some _) H (bsp 87 0 [4, 5, 6]) ?_ ?_ ?_; (conv => whnf); refine ⟨_, _, _, H, ?_, rfl⟩; all_goals first | omega | rfl | (repeat' (first | rfl | refine own_eq ?_ | refine cons_eq ?_ ?_ | refine vi_eq ?_ | simp only [List.length_map, List.length_set, wm_])))
             | (refine nextK_ (P := fun m => spec_ParseConf.l1 m _ _ _ _ _ _ _ = some _) H (bsp 87 0 [4, 5, 6, 7, 8, 9, 10]) ?_ ?_ ?_; (conv => whnf); refine ⟨_, _, _, _, _, _, _, H, ?_, rfl⟩; all_goals first | omega | rfl | (repeat' (first | rfl | refine own_eq ?_ | refine cons_eq ?_ ?_ | refine vi_eq ?_ | simp only [List.length_map, List.length_set, wm_]))))
           | ((with_reducible refine finid_ ?_); refine finK_ [] ?_; (conv => whnf); replace H := Option.some.inj H; subst H; (conv => whnf); refine ⟨rfl, ?_⟩; first | rfl | (repeat' (first | rfl | refine own_eq ?_ | refine tup_eq ?_ | refine agg_eq ?_ | refine cons_eq ?_ ?_ | refine vi_eq ?_ | simp only [List.length_map, List.length_set, wm_]))))
end Go.Proofs.YthkepmicdpgbbaaDoor.E
