/- Texts of this seat's claims, put together: E_laws_FnConfs -/
import Derived.Test.YthkepmicdpgbbaaDoorPkCB5
import Derived.Test.YthkepmicdpgbbaaDoorPkCE1
import Derived.Test.YthkepmicdpgbbaaDoorPkCE10
import Derived.Test.YthkepmicdpgbbaaDoorPkCE11
import Derived.Test.YthkepmicdpgbbaaDoorPkCE12
import Derived.Test.YthkepmicdpgbbaaDoorPkCE13
import Derived.Test.YthkepmicdpgbbaaDoorPkCE14
import Derived.Test.YthkepmicdpgbbaaDoorPkCE15
import Derived.Test.YthkepmicdpgbbaaDoorPkCE16
import Derived.Test.YthkepmicdpgbbaaDoorPkCE17
import Derived.Test.YthkepmicdpgbbaaDoorPkCE18
import Derived.Test.YthkepmicdpgbbaaDoorPkCE19
import Derived.Test.YthkepmicdpgbbaaDoorPkCE2
import Derived.Test.YthkepmicdpgbbaaDoorPkCE20
import Derived.Test.YthkepmicdpgbbaaDoorPkCE21
import Derived.Test.YthkepmicdpgbbaaDoorPkCE22
import Derived.Test.YthkepmicdpgbbaaDoorPkCE23
import Derived.Test.YthkepmicdpgbbaaDoorPkCE24
import Derived.Test.YthkepmicdpgbbaaDoorPkCE25
import Derived.Test.YthkepmicdpgbbaaDoorPkCE26
import Derived.Test.YthkepmicdpgbbaaDoorPkCE27
import Derived.Test.YthkepmicdpgbbaaDoorPkCE28
import Derived.Test.YthkepmicdpgbbaaDoorPkCE29
import Derived.Test.YthkepmicdpgbbaaDoorPkCE3
import Derived.Test.YthkepmicdpgbbaaDoorPkCE30
import Derived.Test.YthkepmicdpgbbaaDoorPkCE31
import Derived.Test.YthkepmicdpgbbaaDoorPkCE32
import Derived.Test.YthkepmicdpgbbaaDoorPkCE33
import Derived.Test.YthkepmicdpgbbaaDoorPkCE34
import Derived.Test.YthkepmicdpgbbaaDoorPkCE35
import Derived.Test.YthkepmicdpgbbaaDoorPkCE36
import Derived.Test.YthkepmicdpgbbaaDoorPkCE4
import Derived.Test.YthkepmicdpgbbaaDoorPkCE5
import Derived.Test.YthkepmicdpgbbaaDoorPkCE6
import Derived.Test.YthkepmicdpgbbaaDoorPkCE7
import Derived.Test.YthkepmicdpgbbaaDoorPkCE8
import Derived.Test.YthkepmicdpgbbaaDoorPkCE9
/- What the functions' codes come to. -/
namespace Go.Proofs.YthkepmicdpgbbaaDoor.E
open Go Go.RowKit Go.Proofs.YthkepmicdpgbbaaDoorW.PrintWords Go.Proofs.YthkepmicdpgbbaaDoor.P
set_option linter.unusedVariables false
set_option linter.unusedSimpArgs false
set_option maxHeartbeats 0
set_option maxRecDepth 100000
theorem laws_FnConfs_ev {kf : Nat} {l0 : List Int} {r : Bool} (H : laws_FnConfs.f kf l0 = some r) : Spec Tryd.prog 6 [.v (.row (List.map e5 l0))] [] (.v (.b r)) [] := by
  simp only [laws_FnConfs.f, Option.bind_some, List.nil_append, if_true, if_false, Bool.false_eq_true, nilB, nilE] at H
  refine fn_okF (E := env) Tryd.func6 (by rfl) rfl (n := 113) (by rfl) ?_
  repeat' ((conv => whnf); first
           | ((with_reducible have hp := peel_ H); clear H; obtain ⟨_, H⟩ := hp)
           | ((with_reducible have hp := peeln_ H); clear H; obtain ⟨_, H⟩ := hp)
           | (with_reducible replace H := itet_ H)
           | (with_reducible replace H := itef_ H)
           | ((with_reducible refine sideid_ ?_); refine side_ ?_)
           | ((with_reducible refine seqid_ ?_); first
             | ((with_reducible refine scg_ 10 ?_); refine scut_ 10 (fun s h => ∃ x3 x4 x5 x6 x72, laws_FnConfs.j0 kf x3 x4 x5 x6 x72 = some r ∧ s = spr 114 0 [(3, .own 0 (List.map e55 x3).length), (4, .v (.s x4)), (5, .own 1 (List.map e55 x5).length), (6, .v (.b x6)), (72, .v (.b x72))] ∧ h = [.arr 5 55 false (List.map e55 x3), .arr 5 55 false (List.map e55 x5)]) ?_ ?_)
             | (refine sgo_ ?_))
           | ((with_reducible refine brid_ ?_); first
             | (with_reducible refine brct_ ?_)
             | (with_reducible refine brcf_ ?_)
             | (with_reducible refine brt_ ?_)
             | (with_reducible refine brf_ ?_)
             | (refine br_ H (by with_reducible first | rfl | exact bi_ _ _ | exact bd_ _ | exact bs_ _ _) (fun _ H => ?_) (fun _ H => ?_))
             | (refine brn_ H (by with_reducible first | rfl | exact bni_ _ _ | exact bin_ _ _ | exact bn_ _ | exact bs0_ _ _ | exact bnn_ _) (fun _ H => ?_) (fun _ H => ?_))
             | (refine brt_ ?_)
             | (refine brf_ ?_)
             | (refine br_ H (by exact Eq.refl _) (fun _ H => ?_) (fun _ H => ?_))
             | (refine brn_ H (by exact Eq.refl _) (fun _ H => ?_) (fun _ H => ?_)))
           | ((with_reducible refine br2id_ ?_); first
             | (refine br2t_ ?_)
             | (refine br2f_ ?_))
           | ((with_reducible refine normid_ ?_); first
             | (refine norm_nilapp ?_)
             | (refine norm_appnil ?_)
             | (refine norm_app ?_)
             | (refine norm_t ?_)
             | (refine norm_d ?_)
             | (refine norm_td ?_)
             | (refine norm_set (e := 5) (f := e5) _ rfl ?_)
             | (refine norm_rep (e := 5) (f := e5) _ rfl ?_)
             | (refine norm_set (e := 55) (f := e55) ⟨_, _, _, _, _⟩ rfl ?_)
             | (refine norm_rep (e := 55) (f := e55) ⟨_, _, _, _, _⟩ rfl ?_))
           | ((with_reducible refine elemid_ ?_); first
             | (refine elem_ (f := e5) 0 (rd _ _) rfl ?_ (by first | assumption | decide | omega) (by first | assumption | omega))
             | (refine elem_ (f := e55) z55 (rd_T55 _ _) rfl ?_ (by first | assumption | decide | omega) (by first | assumption | omega)))
           | ((with_reducible refine lenid_ ?_); refine lenm_ ?_)
           | ((with_reducible refine strid_ ?_); first
             | (refine stre_ ?_)
             | (refine stre0_ ?_))
           | ((with_reducible refine callid_ ?_); have hp := bnd_ H; clear H; obtain ⟨_, ht, H⟩ := hp; first
             | (refine call_ (spec_ParseConf_ev ht) rfl rfl ?_)
             | (refine call_ (impl_ParseConf_ev ht) rfl rfl ?_)
             | (refine call_ (laws_big_ev ht) rfl rfl ?_)
             | (refine call_ (spec_DrawConfText_ev ht) rfl rfl ?_)
             | (refine call_ (impl_ConfText_ev ht) rfl rfl ?_)
             | (refine call_ (spec_DrawParseConf_ev ht) rfl rfl ?_)
             | (refine call_ (spec_DrawSameConf_ev ht) rfl rfl ?_)
             | (refine call_ (impl_ConfOk_ev ht) rfl rfl ?_)
             | (refine call_ (spec_ConfOk_ev ht) rfl rfl ?_)
             | (refine call_ (impl_SameConf_ev ht) rfl rfl ?_)
             | (refine call_ (spec_SameConf_ev ht) rfl rfl ?_)
             | (refine call_ (impl_DbAt_ev ht) rfl rfl ?_))
           | ((with_reducible refine handid_ ?_); refine handa_ ?_)
           | ((with_reducible refine loopid_ ?_); refine loopK_ (fun n s h => ∃ x3 x5 x6 x14, laws_FnConfs.l0 n x3 x5 x6 x14 = some r ∧ s = spr 114 0 [(3, .own 0 (List.map e55 x3).length), (5, .own 1 (List.map e55 x5).length), (6, .v (.b x6)), (14, .v (.i .i64 x14))] ∧ h = [.arr 5 55 false (List.map e55 x3), .arr 5 55 false (List.map e55 x5)]) [] [] [] (bsp 114 0 [3, 5, 6, 14]) _ (by (conv => whnf); refine ⟨_, _, _, _, H, rfl, rfl⟩) ?_; rintro n s h hn ⟨x3, x5, x6, x14, H, rfl, rfl⟩; have hk := suc_ (g := fun k => laws_FnConfs.l0 k _ _ _ _) H (by simp only [laws_FnConfs.l0]); obtain ⟨kf, hk⟩ := hk; subst hk; simp only [laws_FnConfs.l0, Option.bind_some, List.nil_append, if_true, if_false, Bool.false_eq_true, nilB, nilE] at H)
           | ((with_reducible refine nextid_ ?_); refine nextK_ (P := fun m => laws_FnConfs.l0 m _ _ _ _ = some _) H (bsp 114 0 [3, 5, 6, 14]) ?_ ?_ ?_; (conv => whnf); refine ⟨_, _, _, _, H, ?_, rfl⟩; all_goals first | omega | rfl | (repeat' (first | rfl | refine own_eq ?_ | refine cons_eq ?_ ?_ | refine vi_eq ?_ | simp only [List.length_map, List.length_set, wm_])))
           | ((with_reducible refine exid_ ?_); have hk := idH_ (F := fun k => laws_FnConfs.j0 k _ _ _ _ _) H; refine weakK_ (ex := []) (us := []) (bs := []) (ms := (bsp 114 0 [3, 4, 5, 6, 72])) ?_; (conv => whnf); refine ⟨_, _, _, _, _, hk, rfl, rfl⟩)
           | ((with_reducible refine allid_ ?_); intro s h hj; clear H; obtain ⟨x3, x4, x5, x6, x72, H, rfl, rfl⟩ := hj; have hk := suc_ (g := fun k => laws_FnConfs.j0 k _ _ _ _ _) H (by simp only [laws_FnConfs.j0]); obtain ⟨kf, hk⟩ := hk; subst hk; simp only [laws_FnConfs.j0, Option.bind_some, List.nil_append, if_true, if_false, Bool.false_eq_true, nilB, nilE] at H)
           | ((with_reducible refine finid_ ?_); refine finK_ [] ?_; (conv => whnf); replace H := Option.some.inj H; subst H; (conv => whnf); refine ⟨rfl, ?_⟩; first | rfl | (repeat' (first | rfl | refine own_eq ?_ | refine tup_eq ?_ | refine agg_eq ?_ | refine cons_eq ?_ ?_ | refine vi_eq ?_ | simp only [List.length_map, List.length_set, wm_]))))
end Go.Proofs.YthkepmicdpgbbaaDoor.E
