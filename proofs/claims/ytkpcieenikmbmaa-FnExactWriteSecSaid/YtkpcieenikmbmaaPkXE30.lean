/- Texts of this seat's claims, put together: E_impl_diskCopy_t -/
import Derived.Laws.StructEq
import Derived.Test.YtkpcieenikmbmaaPkXB5
/- What the functions' codes come to. -/
namespace Go.Proofs.Ytkpcieenikmbmaa.E
open Go Go.RowKit Go.Proofs.YtkpcieenikmbmaaW.PrintWords Go.Proofs.Ytkpcieenikmbmaa.P
set_option linter.unusedVariables false
set_option linter.unusedSimpArgs false
set_option maxHeartbeats 0
set_option maxRecDepth 100000
theorem impl_diskCopy_evt {kf : Nat} {l0_0 : List (List Int)} {l0_1 : List (S54)} {a0_2 : Int} {a0_3 : Bool} {r : (List (List Int)) × (List (S54)) × Int × Bool} (H : impl_diskCopy.f kf l0_0 l0_1 a0_2 a0_3 = some r) : Spec Try.prog 54 [.agg [.v (.row (List.map e27 l0_0)), .v (.row (List.map e54 l0_1)), .v (.i .i64 a0_2), .v (.b a0_3)]] [] (.agg [.own 0 (List.map e27 r.1).length, .own 1 (List.map e54 r.2.1).length, .v (.i .i64 r.2.2.1), .v (.b r.2.2.2)]) [.tree 1 27 5 (List.map e27 r.1), .tree 2 54 5 (List.map e54 r.2.1)] := by
  simp only [impl_diskCopy.f, Option.bind_some, List.nil_append, if_true, if_false, Bool.false_eq_true, nilB, nilE] at H
  refine fn_okF (E := env) Try.func54 (by rfl) rfl (n := 47) (by rfl) ?_
  repeat' ((conv => whnf); first
           | ((with_reducible have hp := peel_ H); clear H; obtain ⟨_, H⟩ := hp)
           | ((with_reducible have hp := peeln_ H); clear H; obtain ⟨_, H⟩ := hp)
           | (with_reducible replace H := itet_ H)
           | (with_reducible replace H := itef_ H)
           | ((with_reducible refine sideid_ ?_); refine side_ ?_)
           | ((with_reducible refine seqid_ ?_); refine sgo_ ?_)
           | ((with_reducible refine brid_ ?_); first
             | (with_reducible refine brct_ ?_)
             | (with_reducible refine brcf_ ?_)
             | (with_reducible refine brt_ ?_)
             | (with_reducible refine brf_ ?_)
             | (refine br_ H (by with_reducible first | rfl | exact bi_ _ _ | exact bd_ _ | exact bs_ _ _) (fun _ H => ?_) (fun _ H => ?_))
             | (refine brn_ H (by with_reducible first | rfl | exact bni_ _ _ | exact bin_ _ _ | exact bn_ _ | exact bs0_ _ _ | exact bnn_ _) (fun _ H => ?_) (fun _ H => ?_))
             | (refine brt_ ?_)
             | (refine brf_ ?_)
             | (refine br_ H (by exact Eq.refl _) (fun _ H => ?_) (fun _ H => ?_))
             | (refine brn_ H (by exact Eq.refl _) (fun _ H => ?_) (fun _ H => ?_)))
           | ((with_reducible refine br2id_ ?_); first
             | (refine br2t_ ?_)
             | (refine br2f_ ?_))
           | ((with_reducible refine blkid_ ?_); refine bgo_ ?_)
           | ((with_reducible refine normid_ ?_); first
             | (refine norm_nilapp ?_)
             | (refine norm_appnil ?_)
             | (refine norm_app ?_)
             | (refine norm_t ?_)
             | (refine norm_d ?_)
             | (refine norm_td ?_)
             | (refine norm_set (e := 5) (f := e5) _ rfl ?_)
             | (refine norm_rep (e := 5) (f := e5) _ rfl ?_)
             | (refine norm_set (e := 27) (f := e27) _ rfl ?_)
             | (refine norm_rep (e := 27) (f := e27) _ rfl ?_)
             | (refine norm_rep (e := 27) (f := e27) [] rfl ?_)
             | (refine norm_set (e := 27) (f := e27) [] rfl ?_)
             | (refine norm_lit (e := 27) (n := 0) (f := e27) [] rfl ?_)
             | (refine norm_lit (e := 27) (n := 1) (f := e27) [_] rfl ?_)
             | (refine norm_set (e := 54) (f := e54) ⟨_, _⟩ rfl ?_)
             | (refine norm_rep (e := 54) (f := e54) ⟨_, _⟩ rfl ?_)
             | (refine norm_rep (e := 54) (f := e54) ⟨_, []⟩ rfl ?_)
             | (refine norm_set (e := 54) (f := e54) ⟨_, []⟩ rfl ?_)
             | (refine norm_lit (e := 54) (n := 0) (f := e54) [] rfl ?_)
             | (refine lit54 _ _ rfl ?_)
             | (refine lit54 _ [] rfl ?_)
             | (refine norm_lit (e := 54) (n := 1) (f := e54) [⟨_, _⟩] rfl ?_))
           | ((with_reducible refine elemid_ ?_); first
             | (refine elem_ (f := e5) 0 (rd _ _) rfl ?_ (by first | assumption | decide | omega) (by first | assumption | omega))
             | (refine elem_ (f := e27) [] (rd_L1 _ _) rfl ?_ (by first | assumption | decide | omega) (by first | assumption | omega))
             | (refine elem_ (f := e54) z54 (rd_T54 _ _) rfl ?_ (by first | assumption | decide | omega) (by first | assumption | omega)))
           | ((with_reducible refine lenid_ ?_); refine lenm_ ?_)
           | ((with_reducible refine strid_ ?_); first
             | (refine stre_ ?_)
             | (refine stre0_ ?_))
           | ((with_reducible refine callid_ ?_); (first | (with_reducible have hp := bnd_ H); clear H; obtain ⟨_, ht, H⟩ := hp | have hp := tl_ H; clear H; obtain ⟨_, ht, H⟩ := hp); refine call_ (slices_Clone_byte_byte_ev ht) rfl rfl ?_)
           | ((with_reducible refine handid_ ?_); refine handa_ ?_)
           | ((with_reducible refine mkid_ ?_); first
             | (with_reducible refine mkbs_ 22 5 ?_)
             | (with_reducible refine mkbs_ 29 5 ?_)
             | (refine mka_ ?_))
           | ((with_reducible refine loopid_ ?_); first
             | (refine loopK_ (fun n s h => ∃ x3 x4 x12 x13 x14 x453000 x453001 x453002 x453003, impl_diskCopy.l0 n x3 x4 x12 x13 x14 x453000 x453001 x453002 x453003 = some r ∧ s = spr 48 0 [(1, .ptr 0 0), (2, .ptr 1 0), (3, .own 2 (List.map e27 x3).length), (4, .own 3 (List.map e54 x4).length), (12, .v (.row (List.map e27 x12))), (13, .v (.i .i64 x13)), (14, .v (.i .i64 x14))] ∧ h = [.box 31 [.v (.row (List.map e27 x453000)), .v (.row (List.map e54 x453001)), .v (.i .i64 x453002), .v (.b x453003)], .box 31 [.nil, .nil, .v (.i .i64 0), .v (.b false)], .tree 1 27 5 (List.map e27 x3), .tree 2 54 5 (List.map e54 x4)]) [] [] [] (bsp 48 0 [1, 2, 3, 4, 12, 13, 14]) _ (by (conv => whnf); refine ⟨_, _, _, _, _, _, _, _, _, H, rfl, rfl⟩) ?_; rintro n s h hn ⟨x3, x4, x12, x13, x14, x453000, x453001, x453002, x453003, H, rfl, rfl⟩; have hk := suc_ (g := fun k => impl_diskCopy.l0 k _ _ _ _ _ _ _ _ _) H (by simp only [impl_diskCopy.l0]); obtain ⟨kf, hk⟩ := hk; subst hk; simp only [impl_diskCopy.l0, Option.bind_some, List.nil_append, if_true, if_false, Bool.false_eq_true, nilB, nilE] at H)
             | (refine loopK_ (fun n s h => ∃ x3 x4 x25 x26 x27 x453000 x453001 x453002 x453003, impl_diskCopy.l1 n x3 x4 x25 x26 x27 x453000 x453001 x453002 x453003 = some r ∧ s = spr 48 0 [(1, .ptr 0 0), (2, .ptr 1 0), (3, .own 2 (List.map e27 x3).length), (4, .own 3 (List.map e54 x4).length), (25, .v (.row (List.map e54 x25))), (26, .v (.i .i64 x26)), (27, .v (.i .i64 x27))] ∧ h = [.box 31 [.v (.row (List.map e27 x453000)), .v (.row (List.map e54 x453001)), .v (.i .i64 x453002), .v (.b x453003)], .box 31 [.nil, .nil, .v (.i .i64 0), .v (.b false)], .tree 1 27 5 (List.map e27 x3), .tree 2 54 5 (List.map e54 x4)]) [] [] [] (bsp 48 0 [1, 2, 3, 4, 25, 26, 27]) _ (by (conv => whnf); refine ⟨_, _, _, _, _, _, _, _, _, H, rfl, rfl⟩) ?_; rintro n s h hn ⟨x3, x4, x25, x26, x27, x453000, x453001, x453002, x453003, H, rfl, rfl⟩; have hk := suc_ (g := fun k => impl_diskCopy.l1 k _ _ _ _ _ _ _ _ _) H (by simp only [impl_diskCopy.l1]); obtain ⟨kf, hk⟩ := hk; subst hk; simp only [impl_diskCopy.l1, Option.bind_some, List.nil_append, if_true, if_false, Bool.false_eq_true, nilB, nilE] at H))
           | ((with_reducible refine nextid_ ?_); first
             | (refine nextK_ (P := fun m => impl_diskCopy.l0 m _ _ _ _ _ _ _ _ _ = some _) H (bsp 48 0 [1, 2, 3, 4, 12, 13, 14]) ?_ ?_ ?_; (conv => whnf); (first | refine ⟨_, _, _, _, _, _, _, _, _, H, ?_, rfl⟩ | refine ⟨_, _, _, _, _, _, _, _, _, H, ?_, ?_⟩); all_goals first | omega | rfl | (repeat' (first | rfl | refine own_eq ?_ | refine box_eq ?_ | refine cons_eq ?_ ?_ | refine vi_eq ?_ | simp only [List.length_map, List.length_set, wm_])))
             | (refine nextK_ (P := fun m => impl_diskCopy.l1 m _ _ _ _ _ _ _ _ _ = some _) H (bsp 48 0 [1, 2, 3, 4, 25, 26, 27]) ?_ ?_ ?_; (conv => whnf); (first | refine ⟨_, _, _, _, _, _, _, _, _, H, ?_, rfl⟩ | refine ⟨_, _, _, _, _, _, _, _, _, H, ?_, ?_⟩); all_goals first | omega | rfl | (repeat' (first | rfl | refine own_eq ?_ | refine box_eq ?_ | refine cons_eq ?_ ?_ | refine vi_eq ?_ | simp only [List.length_map, List.length_set, wm_]))))
           | ((with_reducible refine finid_ ?_); refine finK_ [] ?_; (conv => whnf); replace H := Option.some.inj H; subst H; (conv => whnf); refine ⟨rfl, ?_⟩; first | rfl | (repeat' (first | rfl | refine own_eq ?_ | refine tup_eq ?_ | refine agg_eq ?_ | refine cons_eq ?_ ?_ | refine vi_eq ?_ | simp only [List.length_map, List.length_set, wm_]))))
end Go.Proofs.Ytkpcieenikmbmaa.E
