/- Texts of this seat's claims, put together: E_spec_ParseNum -/
import Derived.Test.YthkepmicdpgbbaaDoorPkCB5
import Derived.Test.YthkepmicdpgbbaaDoorPkCE1
/- What the functions' codes come to. -/
namespace Go.Proofs.YthkepmicdpgbbaaDoor.E
open Go Go.RowKit Go.Proofs.YthkepmicdpgbbaaDoorW.PrintWords Go.Proofs.YthkepmicdpgbbaaDoor.P
set_option linter.unusedVariables false
set_option linter.unusedSimpArgs false
set_option maxHeartbeats 0
set_option maxRecDepth 100000
theorem spec_ParseNum_ev {kf : Nat} {a0 : ByteArray} {a1 : Int} {r : Int × Bool} (H : spec_ParseNum.f kf a0 a1 = some r) : Spec Tryd.prog 47 [.v (.s a0), .v (.i .i64 a1)] [] (.tup [.v (.i .i64 r.1), .v (.b r.2)]) [] := by
  simp only [spec_ParseNum.f, Option.bind_some, List.nil_append, if_true, if_false, Bool.false_eq_true, nilB, nilE] at H
  refine fn_okF (E := env) Tryd.func47 (by rfl) rfl (n := 52) (by rfl) ?_
  repeat' ((conv => whnf); first
           | ((with_reducible have hp := peel_ H); clear H; obtain ⟨_, H⟩ := hp)
           | ((with_reducible have hp := peeln_ H); clear H; obtain ⟨_, H⟩ := hp)
           | (with_reducible replace H := itet_ H)
           | (with_reducible replace H := itef_ H)
           | ((with_reducible refine sideid_ ?_); refine side_ ?_)
           | ((with_reducible refine seqid_ ?_); first
             | ((with_reducible refine scg_ 1 ?_); refine scut_ 1 (fun s h => ∃ x0 x1 x29, spec_ParseNum.j0 kf x0 x1 x29 = some r ∧ s = spr 54 0 [(0, .v (.s x0)), (1, .v (.i .i64 x1)), (29, .v (.b x29))] ∧ h = []) ?_ ?_)
             | (refine sgo_ ?_))
           | ((with_reducible refine brid_ ?_); first
             | (with_reducible refine brct_ ?_)
             | (with_reducible refine brcf_ ?_)
             | (with_reducible refine brt_ ?_)
             | (with_reducible refine brf_ ?_)
             | (refine br_ H (by with_reducible first | rfl | exact bi_ _ _ | exact bd_ _ | exact bs_ _ _) (fun _ H => ?_) (fun _ H => ?_))
             | (refine brn_ H (by with_reducible first | rfl | exact bni_ _ _ | exact bin_ _ _ | exact bn_ _ | exact bs0_ _ _ | exact bnn_ _) (fun _ H => ?_) (fun _ H => ?_))
             | (refine brt_ ?_)
             | (refine brf_ ?_)
             | (refine br_ H (by exact Eq.refl _) (fun _ H => ?_) (fun _ H => ?_))
             | (refine brn_ H (by exact Eq.refl _) (fun _ H => ?_) (fun _ H => ?_)))
           | ((with_reducible refine br2id_ ?_); first
             | (refine br2t_ ?_)
             | (refine br2f_ ?_))
           | ((with_reducible refine normid_ ?_); first
             | (refine norm_nilapp ?_)
             | (refine norm_appnil ?_)
             | (refine norm_app ?_)
             | (refine norm_t ?_)
             | (refine norm_d ?_)
             | (refine norm_td ?_))
           | ((with_reducible refine lenid_ ?_); refine lenm_ ?_)
           | ((with_reducible refine strid_ ?_); first
             | (refine stre_ ?_)
             | (refine stre0_ ?_))
           | ((with_reducible refine callid_ ?_); have hp := bnd_ H; clear H; obtain ⟨_, ht, H⟩ := hp; refine call_ (spec_l1In_ev ht) rfl rfl ?_)
           | ((with_reducible refine handid_ ?_); refine handa_ ?_)
           | ((with_reducible refine loopid_ ?_); refine loopK_ (fun n s h => ∃ x0 x1 x6 x7, spec_ParseNum.l0 n x0 x1 x6 x7 = some r ∧ s = spr 54 0 [(0, .v (.s x0)), (1, .v (.i .i64 x1)), (6, .v (.i .i64 x6)), (7, .v (.i .i64 x7))] ∧ h = []) [] [] [] (bsp 54 0 [0, 1, 6, 7]) _ (by (conv => whnf); refine ⟨_, _, _, _, H, rfl, rfl⟩) ?_; rintro n s h hn ⟨x0, x1, x6, x7, H, rfl, rfl⟩; have hk := suc_ (g := fun k => spec_ParseNum.l0 k _ _ _ _) H (by simp only [spec_ParseNum.l0]); obtain ⟨kf, hk⟩ := hk; subst hk; simp only [spec_ParseNum.l0, Option.bind_some, List.nil_append, if_true, if_false, Bool.false_eq_true, nilB, nilE] at H)
           | ((with_reducible refine nextid_ ?_); refine nextK_ (P := fun m => spec_ParseNum.l0 m _ _ _ _ = some _) H (bsp 54 0 [0, 1, 6, 7]) ?_ ?_ ?_; (conv => whnf); refine ⟨_, _, _, _, H, ?_, rfl⟩; all_goals first | omega | rfl | (repeat' (first | rfl | refine own_eq ?_ | refine cons_eq ?_ ?_ | refine vi_eq ?_ | simp only [List.length_map, List.length_set, wm_])))
           | ((with_reducible refine exid_ ?_); have hk := idH_ (F := fun k => spec_ParseNum.j0 k _ _ _) H; refine weakK_ (ex := []) (us := []) (bs := []) (ms := (bsp 54 0 [0, 1, 29])) ?_; (conv => whnf); refine ⟨_, _, _, hk, rfl, rfl⟩)
           | ((with_reducible refine allid_ ?_); intro s h hj; clear H; obtain ⟨x0, x1, x29, H, rfl, rfl⟩ := hj; have hk := suc_ (g := fun k => spec_ParseNum.j0 k _ _ _) H (by simp only [spec_ParseNum.j0]); obtain ⟨kf, hk⟩ := hk; subst hk; simp only [spec_ParseNum.j0, Option.bind_some, List.nil_append, if_true, if_false, Bool.false_eq_true, nilB, nilE] at H)
           | ((with_reducible refine finid_ ?_); refine finK_ [] ?_; (conv => whnf); replace H := Option.some.inj H; subst H; (conv => whnf); refine ⟨rfl, ?_⟩; first | rfl | (repeat' (first | rfl | refine own_eq ?_ | refine tup_eq ?_ | refine agg_eq ?_ | refine cons_eq ?_ ?_ | refine vi_eq ?_ | simp only [List.length_map, List.length_set, wm_]))))
end Go.Proofs.YthkepmicdpgbbaaDoor.E
