/- Texts of this seat's claims, put together: E_spec_l2Copy -/
import Derived.Laws.StructEq
import Derived.Test.YtkpcieenikmbmaaPkXB5
/- What the functions' codes come to. -/
namespace Go.Proofs.Ytkpcieenikmbmaa.E
open Go Go.RowKit Go.Proofs.YtkpcieenikmbmaaW.PrintWords Go.Proofs.Ytkpcieenikmbmaa.P
set_option linter.unusedVariables false
set_option linter.unusedSimpArgs false
set_option maxHeartbeats 0
set_option maxRecDepth 100000
theorem spec_l2Copy_ev {kf : Nat} {l0_0 : List (List Int)} {l0_1 : List (S54)} {a0_2 : Int} {a0_3 : Bool} {r : (List (List Int)) × (List (S54)) × Int × Bool} (H : spec_l2Copy.f kf l0_0 l0_1 a0_2 a0_3 = some r) : Spec Try.prog 56 [.agg [.v (.row (List.map e27 l0_0)), .v (.row (List.map e54 l0_1)), .v (.i .i64 a0_2), .v (.b a0_3)]] [] (.agg [.own 0 (List.map e27 r.1).length, .own 1 (List.map e54 r.2.1).length, .v (.i .i64 r.2.2.1), .v (.b r.2.2.2)]) [.arr 1 27 false (List.map e27 r.1), .arr 2 54 false (List.map e54 r.2.1)] := by
  simp only [spec_l2Copy.f, Option.bind_some, List.nil_append, if_true, if_false, Bool.false_eq_true, nilB, nilE] at H
  refine fn_okF (E := env) Try.func56 (by rfl) rfl (n := 57) (by rfl) ?_
  repeat' ((conv => whnf); first
           | ((with_reducible have hp := peel_ H); clear H; obtain ⟨_, H⟩ := hp)
           | ((with_reducible have hp := peeln_ H); clear H; obtain ⟨_, H⟩ := hp)
           | (with_reducible replace H := itet_ H)
           | (with_reducible replace H := itef_ H)
           | ((with_reducible refine sideid_ ?_); refine side_ ?_)
           | ((with_reducible refine seqid_ ?_); refine sgo_ ?_)
           | ((with_reducible refine brid_ ?_); first
             | (with_reducible refine brct_ ?_)
             | (with_reducible refine brcf_ ?_)
             | (with_reducible refine brt_ ?_)
             | (with_reducible refine brf_ ?_)
             | (refine br_ H (by with_reducible first | rfl | exact bi_ _ _ | exact bd_ _ | exact bs_ _ _) (fun _ H => ?_) (fun _ H => ?_))
             | (refine brn_ H (by with_reducible first | rfl | exact bni_ _ _ | exact bin_ _ _ | exact bn_ _ | exact bs0_ _ _ | exact bnn_ _) (fun _ H => ?_) (fun _ H => ?_))
             | (refine brt_ ?_)
             | (refine brf_ ?_)
             | (refine br_ H (by exact Eq.refl _) (fun _ H => ?_) (fun _ H => ?_))
             | (refine brn_ H (by exact Eq.refl _) (fun _ H => ?_) (fun _ H => ?_)))
           | ((with_reducible refine br2id_ ?_); first
             | (refine br2t_ ?_)
             | (refine br2f_ ?_))
           | ((with_reducible refine blkid_ ?_); refine bgo_ ?_)
           | ((with_reducible refine normid_ ?_); first
             | (refine norm_nilapp ?_)
             | (refine norm_appnil ?_)
             | (refine norm_app ?_)
             | (refine norm_t ?_)
             | (refine norm_d ?_)
             | (refine norm_td ?_)
             | (refine norm_set (e := 5) (f := e5) _ rfl ?_)
             | (refine norm_rep (e := 5) (f := e5) _ rfl ?_)
             | (refine norm_lit (e := 5) (n := 0) (f := e5) [] rfl ?_)
             | (refine norm_set (e := 27) (f := e27) _ rfl ?_)
             | (refine norm_rep (e := 27) (f := e27) _ rfl ?_)
             | (refine norm_rep (e := 27) (f := e27) [] rfl ?_)
             | (refine norm_set (e := 27) (f := e27) [] rfl ?_)
             | (refine norm_lit (e := 27) (n := 1) (f := e27) [_] rfl ?_)
             | (refine set54 _ _ rfl ?_)
             | (refine norm_set (e := 54) (f := e54) ⟨_, _⟩ rfl ?_)
             | (refine norm_rep (e := 54) (f := e54) ⟨_, _⟩ rfl ?_)
             | (refine norm_rep (e := 54) (f := e54) ⟨_, []⟩ rfl ?_)
             | (refine norm_set (e := 54) (f := e54) ⟨_, []⟩ rfl ?_)
             | (refine lit54 _ _ rfl ?_)
             | (refine lit54 _ [] rfl ?_)
             | (refine norm_lit (e := 54) (n := 1) (f := e54) [⟨_, _⟩] rfl ?_))
           | ((with_reducible refine elemid_ ?_); first
             | (refine elem_ (f := e5) 0 (rd _ _) rfl ?_ (by first | assumption | decide | omega) (by first | assumption | omega))
             | (refine elem_ (f := e27) [] (rd_L1 _ _) rfl ?_ (by first | assumption | decide | omega) (by first | assumption | omega))
             | (refine elem_ (f := e54) z54 (rd_T54 _ _) rfl ?_ (by first | assumption | decide | omega) (by first | assumption | omega)))
           | ((with_reducible refine lenid_ ?_); refine lenm_ ?_)
           | ((with_reducible refine strid_ ?_); first
             | (refine stre_ ?_)
             | (refine stre0_ ?_))
           | ((with_reducible refine handid_ ?_); refine handa_ ?_)
           | ((with_reducible refine mkid_ ?_); refine mka_ ?_)
           | ((with_reducible refine loopid_ ?_); first
             | (refine loopK_ (fun n s h => ∃ x4 x281000 x281001 x281002 x281003 x283000 x283002 x283003, spec_l2Copy.l0 n x4 x281000 x281001 x281002 x281003 x283000 x283002 x283003 = some r ∧ s = spr 58 0 [(1, .ptr 0 0), (2, .ptr 1 0), (3, .ptr 2 0), (4, .v (.i .i64 x4))] ∧ h = [.box 31 [.v (.row (List.map e27 x281000)), .v (.row (List.map e54 x281001)), .v (.i .i64 x281002), .v (.b x281003)], .box 31 [.nil, .nil, .v (.i .i64 0), .v (.b false)], .box 31 [.own 3 (List.map e27 x283000).length, .nil, .v (.i .i64 x283002), .v (.b x283003)], .arr 1 27 false (List.map e27 x283000)]) [(1, 27)] [] [[], [], [some 3, none, none, none]] (bsp 58 0 [1, 2, 3, 4]) _ (by (conv => whnf); refine ⟨_, _, _, _, _, _, _, _, H, rfl, rfl⟩) ?_; rintro n s h hn ⟨x4, x281000, x281001, x281002, x281003, x283000, x283002, x283003, H, rfl, rfl⟩; have hk := suc_ (g := fun k => spec_l2Copy.l0 k _ _ _ _ _ _ _ _) H (by simp only [spec_l2Copy.l0]); obtain ⟨kf, hk⟩ := hk; subst hk; simp only [spec_l2Copy.l0, Option.bind_some, List.nil_append, if_true, if_false, Bool.false_eq_true, nilB, nilE] at H)
             | (refine loopK_ (fun n s h => ∃ x5 x281000 x281001 x281002 x281003 x283000 x283001 x283002 x283003, spec_l2Copy.l1 n x5 x281000 x281001 x281002 x281003 x283000 x283001 x283002 x283003 = some r ∧ s = spr 58 0 [(1, .ptr 0 0), (2, .ptr 1 0), (3, .ptr 2 0), (5, .v (.i .i64 x5))] ∧ h = [.box 31 [.v (.row (List.map e27 x281000)), .v (.row (List.map e54 x281001)), .v (.i .i64 x281002), .v (.b x281003)], .box 31 [.nil, .nil, .v (.i .i64 0), .v (.b false)], .box 31 [.own 3 (List.map e27 x283000).length, .own 4 (List.map e54 x283001).length, .v (.i .i64 x283002), .v (.b x283003)], .arr 1 27 false (List.map e27 x283000), .arr 2 54 false (List.map e54 x283001)]) [(2, 54)] [] [[], [], [none, some 4, none, none]] (bsp 58 0 [1, 2, 3, 5]) _ (by (conv => whnf); refine ⟨_, _, _, _, _, _, _, _, _, H, rfl, rfl⟩) ?_; rintro n s h hn ⟨x5, x281000, x281001, x281002, x281003, x283000, x283001, x283002, x283003, H, rfl, rfl⟩; have hk := suc_ (g := fun k => spec_l2Copy.l1 k _ _ _ _ _ _ _ _ _) H (by simp only [spec_l2Copy.l1]); obtain ⟨kf, hk⟩ := hk; subst hk; simp only [spec_l2Copy.l1, Option.bind_some, List.nil_append, if_true, if_false, Bool.false_eq_true, nilB, nilE] at H))
           | ((with_reducible refine nextid_ ?_); first
             | (refine nextK_ (P := fun m => spec_l2Copy.l0 m _ _ _ _ _ _ _ _ = some _) H (bsp 58 0 [1, 2, 3, 4]) ?_ ?_ ?_; (conv => whnf); (first | refine ⟨_, _, _, _, _, _, _, _, H, ?_, rfl⟩ | refine ⟨_, _, _, _, _, _, _, _, H, ?_, ?_⟩); all_goals first | omega | rfl | (repeat' (first | rfl | refine own_eq ?_ | refine box_eq ?_ | refine cons_eq ?_ ?_ | refine vi_eq ?_ | simp only [List.length_map, List.length_set, wm_])))
             | (refine nextK_ (P := fun m => spec_l2Copy.l1 m _ _ _ _ _ _ _ _ _ = some _) H (bsp 58 0 [1, 2, 3, 5]) ?_ ?_ ?_; (conv => whnf); (first | refine ⟨_, _, _, _, _, _, _, _, _, H, ?_, rfl⟩ | refine ⟨_, _, _, _, _, _, _, _, _, H, ?_, ?_⟩); all_goals first | omega | rfl | (repeat' (first | rfl | refine own_eq ?_ | refine box_eq ?_ | refine cons_eq ?_ ?_ | refine vi_eq ?_ | simp only [List.length_map, List.length_set, wm_]))))
           | ((with_reducible refine finid_ ?_); refine finK_ [] ?_; (conv => whnf); replace H := Option.some.inj H; subst H; (conv => whnf); refine ⟨rfl, ?_⟩; first | rfl | (repeat' (first | rfl | refine own_eq ?_ | refine tup_eq ?_ | refine agg_eq ?_ | refine cons_eq ?_ ?_ | refine vi_eq ?_ | simp only [List.length_map, List.length_set, wm_]))))
end Go.Proofs.Ytkpcieenikmbmaa.E
