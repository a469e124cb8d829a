/- Texts of this seat's claims, put together: E_spec_DiskNew -/
import Derived.Laws.StructEq
import Derived.Test.YtkpcieenikmbmaaPkXB5
import Derived.Test.YtkpcieenikmbmaaPkXE5
/- What the functions' codes come to. -/
namespace Go.Proofs.Ytkpcieenikmbmaa.E
open Go Go.RowKit Go.Proofs.YtkpcieenikmbmaaW.PrintWords Go.Proofs.Ytkpcieenikmbmaa.P
set_option linter.unusedVariables false
set_option linter.unusedSimpArgs false
set_option maxHeartbeats 0
set_option maxRecDepth 100000
theorem spec_DiskNew_ev {kf : Nat} {a0 : Int} {r : (List (List Int)) × (List (S54)) × Int × Bool} (H : spec_DiskNew.f kf a0 = some r) : Spec Try.prog 60 [.v (.i .i64 a0)] [] (.agg [.own 0 (List.map e27 r.1).length, .own 1 (List.map e54 r.2.1).length, .v (.i .i64 r.2.2.1), .v (.b r.2.2.2)]) [.arr 1 27 false (List.map e27 r.1), .arr 2 54 false (List.map e54 r.2.1)] := by
  simp only [spec_DiskNew.f, Option.bind_some, List.nil_append, if_true, if_false, Bool.false_eq_true, nilB, nilE] at H
  refine fn_okF (E := env) Try.func60 (by rfl) rfl (n := 21) (by rfl) ?_
  repeat' ((conv => whnf); first
           | ((with_reducible have hp := peel_ H); clear H; obtain ⟨_, H⟩ := hp)
           | ((with_reducible have hp := peeln_ H); clear H; obtain ⟨_, H⟩ := hp)
           | (with_reducible replace H := itet_ H)
           | (with_reducible replace H := itef_ H)
           | ((with_reducible refine sideid_ ?_); refine side_ ?_)
           | ((with_reducible refine seqid_ ?_); refine sgo_ ?_)
           | ((with_reducible refine brid_ ?_); first
             | (with_reducible refine brct_ ?_)
             | (with_reducible refine brcf_ ?_)
             | (with_reducible refine brt_ ?_)
             | (with_reducible refine brf_ ?_)
             | (refine br_ H (by with_reducible first | rfl | exact bi_ _ _ | exact bd_ _ | exact bs_ _ _) (fun _ H => ?_) (fun _ H => ?_))
             | (refine brn_ H (by with_reducible first | rfl | exact bni_ _ _ | exact bin_ _ _ | exact bn_ _ | exact bs0_ _ _ | exact bnn_ _) (fun _ H => ?_) (fun _ H => ?_))
             | (refine brt_ ?_)
             | (refine brf_ ?_)
             | (refine br_ H (by exact Eq.refl _) (fun _ H => ?_) (fun _ H => ?_))
             | (refine brn_ H (by exact Eq.refl _) (fun _ H => ?_) (fun _ H => ?_)))
           | ((with_reducible refine br2id_ ?_); first
             | (refine br2t_ ?_)
             | (refine br2f_ ?_))
           | ((with_reducible refine blkid_ ?_); refine bgo_ ?_)
           | ((with_reducible refine normid_ ?_); first
             | (refine norm_nilapp ?_)
             | (refine norm_appnil ?_)
             | (refine norm_app ?_)
             | (refine norm_t ?_)
             | (refine norm_d ?_)
             | (refine norm_td ?_)
             | (refine norm_set (e := 5) (f := e5) _ rfl ?_)
             | (refine norm_rep (e := 5) (f := e5) _ rfl ?_)
             | (refine norm_lit (e := 5) (n := 0) (f := e5) [] rfl ?_)
             | (refine norm_set (e := 27) (f := e27) _ rfl ?_)
             | (refine norm_rep (e := 27) (f := e27) _ rfl ?_)
             | (refine norm_rep (e := 27) (f := e27) [] rfl ?_)
             | (refine norm_set (e := 27) (f := e27) [] rfl ?_)
             | (refine norm_lit (e := 27) (n := 1) (f := e27) [_] rfl ?_))
           | ((with_reducible refine elemid_ ?_); first
             | (refine elem_ (f := e5) 0 (rd _ _) rfl ?_ (by first | assumption | decide | omega) (by first | assumption | omega))
             | (refine elem_ (f := e27) [] (rd_L1 _ _) rfl ?_ (by first | assumption | decide | omega) (by first | assumption | omega)))
           | ((with_reducible refine lenid_ ?_); refine lenm_ ?_)
           | ((with_reducible refine strid_ ?_); first
             | (refine stre_ ?_)
             | (refine stre0_ ?_))
           | ((with_reducible refine callid_ ?_); (first | (with_reducible have hp := bnd_ H); clear H; obtain ⟨_, ht, H⟩ := hp | have hp := tl_ H; clear H; obtain ⟨_, ht, H⟩ := hp); refine call_ (spec_l1In_ev ht) rfl rfl ?_)
           | ((with_reducible refine handid_ ?_); refine handa_ ?_)
           | ((with_reducible refine mkid_ ?_); refine mka_ ?_)
           | ((with_reducible refine loopid_ ?_); refine loopK_ (fun n s h => ∃ x0 x4 x306000 x306002 x306003, spec_DiskNew.l0 n x0 x4 x306000 x306002 x306003 = some r ∧ s = spr 22 0 [(0, .v (.i .i64 x0)), (2, .ptr 0 0), (3, .ptr 1 0), (4, .v (.i .i64 x4))] ∧ h = [.box 31 [.nil, .nil, .v (.i .i64 0), .v (.b false)], .box 31 [.own 2 (List.map e27 x306000).length, .nil, .v (.i .i64 x306002), .v (.b x306003)], .arr 1 27 false (List.map e27 x306000)]) [(1, 27)] [] [[], [some 2, none, none, none]] (bsp 22 0 [0, 2, 3, 4]) _ (by (conv => whnf); refine ⟨_, _, _, _, _, H, rfl, rfl⟩) ?_; rintro n s h hn ⟨x0, x4, x306000, x306002, x306003, H, rfl, rfl⟩; have hk := suc_ (g := fun k => spec_DiskNew.l0 k _ _ _ _ _) H (by simp only [spec_DiskNew.l0]); obtain ⟨kf, hk⟩ := hk; subst hk; simp only [spec_DiskNew.l0, Option.bind_some, List.nil_append, if_true, if_false, Bool.false_eq_true, nilB, nilE] at H)
           | ((with_reducible refine nextid_ ?_); refine nextK_ (P := fun m => spec_DiskNew.l0 m _ _ _ _ _ = some _) H (bsp 22 0 [0, 2, 3, 4]) ?_ ?_ ?_; (conv => whnf); (first | refine ⟨_, _, _, _, _, H, ?_, rfl⟩ | refine ⟨_, _, _, _, _, H, ?_, ?_⟩); all_goals first | omega | rfl | (repeat' (first | rfl | refine own_eq ?_ | refine box_eq ?_ | refine cons_eq ?_ ?_ | refine vi_eq ?_ | simp only [List.length_map, List.length_set, wm_])))
           | ((with_reducible refine finid_ ?_); first
             | (refine finK_ [(1, 27), (2, 54)] ?_; (conv => whnf); replace H := Option.some.inj H; subst H; (conv => whnf); refine ⟨rfl, ?_⟩; first | rfl | (repeat' (first | rfl | refine own_eq ?_ | refine tup_eq ?_ | refine agg_eq ?_ | refine cons_eq ?_ ?_ | refine vi_eq ?_ | simp only [List.length_map, List.length_set, wm_])))
             | (refine finK_ [(2, 54)] ?_; (conv => whnf); replace H := Option.some.inj H; subst H; (conv => whnf); refine ⟨rfl, ?_⟩; first | rfl | (repeat' (first | rfl | refine own_eq ?_ | refine tup_eq ?_ | refine agg_eq ?_ | refine cons_eq ?_ ?_ | refine vi_eq ?_ | simp only [List.length_map, List.length_set, wm_])))))
end Go.Proofs.Ytkpcieenikmbmaa.E
