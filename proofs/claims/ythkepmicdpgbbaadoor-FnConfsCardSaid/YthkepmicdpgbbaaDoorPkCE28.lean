/- Texts of this seat's claims, put together: E_spec_ConfText -/
import Derived.Test.YthkepmicdpgbbaaDoorPkCB5
import Derived.Test.YthkepmicdpgbbaaDoorPkCE1
import Derived.Test.YthkepmicdpgbbaaDoorPkCE2
import Derived.Test.YthkepmicdpgbbaaDoorPkCE27
import Derived.Test.YthkepmicdpgbbaaDoorPkCE3
import Derived.Test.YthkepmicdpgbbaaDoorPkCE4
/- What the functions' codes come to. -/
namespace Go.Proofs.YthkepmicdpgbbaaDoor.E
open Go Go.RowKit Go.Proofs.YthkepmicdpgbbaaDoorW.PrintWords Go.Proofs.YthkepmicdpgbbaaDoor.P
set_option linter.unusedVariables false
set_option linter.unusedSimpArgs false
set_option maxHeartbeats 0
set_option maxRecDepth 100000
theorem spec_ConfText_ev {kf : Nat} {l0 : List (S55)} {r : ByteArray} (H : spec_ConfText.f kf l0 = some r) : Spec Tryd.prog 101 [.v (.row (List.map e55 l0))] [] (.v (.s r)) [] := by
  simp only [spec_ConfText.f, Option.bind_some, List.nil_append, if_true, if_false, Bool.false_eq_true, nilB, nilE] at H
  refine fn_okF (E := env) Tryd.func101 (by rfl) rfl (n := 58) (by rfl) ?_
  repeat' ((conv => whnf); first
           | ((with_reducible have hp := peel_ H); clear H; obtain ⟨_, H⟩ := hp)
           | ((with_reducible have hp := peeln_ H); clear H; obtain ⟨_, H⟩ := hp)
           | (with_reducible replace H := itet_ H)
           | (with_reducible replace H := itef_ H)
           | (have hk := suc_ (g := fun k => spec_ConfText.j2 k _ _ _) H (by simp only [spec_ConfText.j2]); obtain ⟨kf, hk⟩ := hk; subst hk; simp only [spec_ConfText.j2, Option.bind_some, List.nil_append, if_true, if_false, Bool.false_eq_true, nilB, nilE] at H)
           | ((with_reducible refine sideid_ ?_); refine side_ ?_)
           | ((with_reducible refine seqid_ ?_); first
             | ((with_reducible refine scg_ 3 ?_); refine scut_ 3 (fun s h => ∃ x0 x3 x4 x12, spec_ConfText.j1 kf x0 x3 x4 x12 = some r ∧ s = spr 59 0 [(0, .v (.row (List.map e55 x0))), (3, .v (.s x3)), (4, .v (.i .i64 x4)), (12, .v (.b x12))] ∧ h = []) ?_ ?_)
             | (refine sgo_ ?_))
           | ((with_reducible refine brid_ ?_); first
             | (with_reducible refine brct_ ?_)
             | (with_reducible refine brcf_ ?_)
             | (with_reducible refine brt_ ?_)
             | (with_reducible refine brf_ ?_)
             | (refine br_ H (by with_reducible first | rfl | exact bi_ _ _ | exact bd_ _ | exact bs_ _ _) (fun _ H => ?_) (fun _ H => ?_))
             | (refine brn_ H (by with_reducible first | rfl | exact bni_ _ _ | exact bin_ _ _ | exact bn_ _ | exact bs0_ _ _ | exact bnn_ _) (fun _ H => ?_) (fun _ H => ?_))
             | (refine brt_ ?_)
             | (refine brf_ ?_)
             | (refine br_ H (by exact Eq.refl _) (fun _ H => ?_) (fun _ H => ?_))
             | (refine brn_ H (by exact Eq.refl _) (fun _ H => ?_) (fun _ H => ?_)))
           | ((with_reducible refine br2id_ ?_); first
             | (refine br2t_ ?_)
             | (refine br2f_ ?_))
           | ((with_reducible refine normid_ ?_); first
             | (refine norm_nilapp ?_)
             | (refine norm_appnil ?_)
             | (refine norm_app ?_)
             | (refine norm_t ?_)
             | (refine norm_d ?_)
             | (refine norm_td ?_)
             | (refine norm_set (e := 55) (f := e55) ⟨_, _, _, _, _⟩ rfl ?_)
             | (refine norm_rep (e := 55) (f := e55) ⟨_, _, _, _, _⟩ rfl ?_))
           | ((with_reducible refine elemid_ ?_); refine elem_ (f := e55) z55 (rd_T55 _ _) rfl ?_ (by first | assumption | decide | omega) (by first | assumption | omega))
           | ((with_reducible refine lenid_ ?_); refine lenm_ ?_)
           | ((with_reducible refine strid_ ?_); first
             | (refine stre_ ?_)
             | (refine stre0_ ?_))
           | ((with_reducible refine callid_ ?_); have hp := bnd_ H; clear H; obtain ⟨_, ht, H⟩ := hp; first
             | (refine call_ (spec_ConfOk_ev ht) rfl rfl ?_)
             | (refine call_ (spec_NumText_ev ht) rfl rfl ?_))
           | ((with_reducible refine handid_ ?_); refine handa_ ?_)
           | ((with_reducible refine loopid_ ?_); refine loopK_ (fun n s h => ∃ x0 x3 x4, spec_ConfText.l0 n x0 x3 x4 = some r ∧ s = spr 59 0 [(0, .v (.row (List.map e55 x0))), (3, .v (.s x3)), (4, .v (.i .i64 x4))] ∧ h = []) [] [] [] (bsp 59 0 [0, 3, 4]) _ (by (conv => whnf); refine ⟨_, _, _, H, rfl, rfl⟩) ?_; rintro n s h hn ⟨x0, x3, x4, H, rfl, rfl⟩; have hk := suc_ (g := fun k => spec_ConfText.l0 k _ _ _) H (by simp only [spec_ConfText.l0]); obtain ⟨kf, hk⟩ := hk; subst hk; simp only [spec_ConfText.l0, Option.bind_some, List.nil_append, if_true, if_false, Bool.false_eq_true, nilB, nilE] at H)
           | ((with_reducible refine nextid_ ?_); refine nextK_ (P := fun m => spec_ConfText.l0 m _ _ _ = some _) H (bsp 59 0 [0, 3, 4]) ?_ ?_ ?_; (conv => whnf); refine ⟨_, _, _, H, ?_, rfl⟩; all_goals first | omega | rfl | (repeat' (first | rfl | refine own_eq ?_ | refine cons_eq ?_ ?_ | refine vi_eq ?_ | simp only [List.length_map, List.length_set, wm_])))
           | ((with_reducible refine exid_ ?_); have hk := idH_ (F := fun k => spec_ConfText.j1 k _ _ _ _) H; refine weakK_ (ex := []) (us := []) (bs := []) (ms := (bsp 59 0 [0, 3, 4, 12])) ?_; (conv => whnf); refine ⟨_, _, _, _, hk, rfl, rfl⟩)
           | ((with_reducible refine allid_ ?_); intro s h hj; clear H; obtain ⟨x0, x3, x4, x12, H, rfl, rfl⟩ := hj; have hk := suc_ (g := fun k => spec_ConfText.j1 k _ _ _ _) H (by simp only [spec_ConfText.j1]); obtain ⟨kf, hk⟩ := hk; subst hk; simp only [spec_ConfText.j1, Option.bind_some, List.nil_append, if_true, if_false, Bool.false_eq_true, nilB, nilE] at H)
           | ((with_reducible refine finid_ ?_); refine finK_ [] ?_; (conv => whnf); replace H := Option.some.inj H; subst H; (conv => whnf); refine ⟨rfl, ?_⟩; first | rfl | (repeat' (first | rfl | refine own_eq ?_ | refine tup_eq ?_ | refine agg_eq ?_ | refine cons_eq ?_ ?_ | refine vi_eq ?_ | simp only [List.length_map, List.length_set, wm_]))))
end Go.Proofs.YthkepmicdpgbbaaDoor.E
