/- Texts of this seat's claims, put together: E_impl_DiskOk -/
import Derived.Laws.StructEq
import Derived.Test.YtkpcieenikmbmaaPkXB5
import Derived.Test.YtkpcieenikmbmaaPkXE16
/- What the functions' codes come to. -/
namespace Go.Proofs.Ytkpcieenikmbmaa.E
open Go Go.RowKit Go.Proofs.YtkpcieenikmbmaaW.PrintWords Go.Proofs.Ytkpcieenikmbmaa.P
set_option linter.unusedVariables false
set_option linter.unusedSimpArgs false
set_option maxHeartbeats 0
set_option maxRecDepth 100000
theorem impl_DiskOk_ev {kf : Nat} {l0_0 : List (List Int)} {l0_1 : List (S54)} {a0_2 : Int} {a0_3 : Bool} {r : Bool} (H : impl_DiskOk.f kf l0_0 l0_1 a0_2 a0_3 = some r) : Spec Try.prog 22 [.agg [.v (.row (List.map e27 l0_0)), .v (.row (List.map e54 l0_1)), .v (.i .i64 a0_2), .v (.b a0_3)]] [] (.v (.b r)) [] := by
  simp only [impl_DiskOk.f, Option.bind_some, List.nil_append, if_true, if_false, Bool.false_eq_true, nilB, nilE] at H
  refine fn_okF (E := env) Try.func22 (by rfl) rfl (n := 56) (by rfl) ?_
  repeat' ((conv => whnf); first
           | ((with_reducible have hp := peel_ H); clear H; obtain ⟨_, H⟩ := hp)
           | ((with_reducible have hp := peeln_ H); clear H; obtain ⟨_, H⟩ := hp)
           | (with_reducible replace H := itet_ H)
           | (with_reducible replace H := itef_ H)
           | ((with_reducible refine sideid_ ?_); refine side_ ?_)
           | ((with_reducible refine seqid_ ?_); first
             | ((with_reducible refine scg_ 1 ?_); refine scut_ 1 (fun s h => ∃ x23 x170000 x170001 x170002 x170003, impl_DiskOk.j0 kf x23 x170000 x170001 x170002 x170003 = some r ∧ s = spr 57 0 [(1, .ptr 0 0), (23, .v (.b x23))] ∧ h = [.box 31 [.v (.row (List.map e27 x170000)), .v (.row (List.map e54 x170001)), .v (.i .i64 x170002), .v (.b x170003)]]) ?_ ?_)
             | (refine sgo_ ?_))
           | ((with_reducible refine brid_ ?_); first
             | (with_reducible refine brct_ ?_)
             | (with_reducible refine brcf_ ?_)
             | (with_reducible refine brt_ ?_)
             | (with_reducible refine brf_ ?_)
             | (refine br_ H (by with_reducible first | rfl | exact bi_ _ _ | exact bd_ _ | exact bs_ _ _) (fun _ H => ?_) (fun _ H => ?_))
             | (refine brn_ H (by with_reducible first | rfl | exact bni_ _ _ | exact bin_ _ _ | exact bn_ _ | exact bs0_ _ _ | exact bnn_ _) (fun _ H => ?_) (fun _ H => ?_))
             | (refine brt_ ?_)
             | (refine brf_ ?_)
             | (refine br_ H (by exact Eq.refl _) (fun _ H => ?_) (fun _ H => ?_))
             | (refine brn_ H (by exact Eq.refl _) (fun _ H => ?_) (fun _ H => ?_)))
           | ((with_reducible refine br2id_ ?_); first
             | (refine br2t_ ?_)
             | (refine br2f_ ?_))
           | ((with_reducible refine blkid_ ?_); refine bgo_ ?_)
           | ((with_reducible refine normid_ ?_); first
             | (refine norm_nilapp ?_)
             | (refine norm_appnil ?_)
             | (refine norm_app ?_)
             | (refine norm_t ?_)
             | (refine norm_d ?_)
             | (refine norm_td ?_)
             | (refine norm_set (e := 5) (f := e5) _ rfl ?_)
             | (refine norm_rep (e := 5) (f := e5) _ rfl ?_)
             | (refine norm_set (e := 27) (f := e27) _ rfl ?_)
             | (refine norm_rep (e := 27) (f := e27) _ rfl ?_)
             | (refine norm_rep (e := 27) (f := e27) [] rfl ?_)
             | (refine norm_set (e := 27) (f := e27) [] rfl ?_)
             | (refine norm_set (e := 54) (f := e54) ⟨_, _⟩ rfl ?_)
             | (refine norm_rep (e := 54) (f := e54) ⟨_, _⟩ rfl ?_)
             | (refine norm_rep (e := 54) (f := e54) ⟨_, []⟩ rfl ?_)
             | (refine norm_set (e := 54) (f := e54) ⟨_, []⟩ rfl ?_))
           | ((with_reducible refine elemid_ ?_); first
             | (refine elem_ (f := e5) 0 (rd _ _) rfl ?_ (by first | assumption | decide | omega) (by first | assumption | omega))
             | (refine elem_ (f := e27) [] (rd_L1 _ _) rfl ?_ (by first | assumption | decide | omega) (by first | assumption | omega))
             | (refine elem_ (f := e54) z54 (rd_T54 _ _) rfl ?_ (by first | assumption | decide | omega) (by first | assumption | omega)))
           | ((with_reducible refine lenid_ ?_); refine lenm_ ?_)
           | ((with_reducible refine strid_ ?_); first
             | (refine stre_ ?_)
             | (refine stre0_ ?_))
           | ((with_reducible refine callid_ ?_); (first | (with_reducible have hp := bnd_ H); clear H; obtain ⟨_, ht, H⟩ := hp | have hp := tl_ H; clear H; obtain ⟨_, ht, H⟩ := hp); refine call_ (impl_isIn_ev ht) rfl rfl ?_)
           | ((with_reducible refine handid_ ?_); refine handa_ ?_)
           | ((with_reducible refine mkid_ ?_); refine mka_ ?_)
           | ((with_reducible refine loopid_ ?_); first
             | (refine loopK_ (fun n s h => ∃ x25 x26 x27 x170000 x170001 x170002 x170003, impl_DiskOk.l0 n x25 x26 x27 x170000 x170001 x170002 x170003 = some r ∧ s = spr 57 0 [(1, .ptr 0 0), (25, .v (.row (List.map e27 x25))), (26, .v (.i .i64 x26)), (27, .v (.i .i64 x27))] ∧ h = [.box 31 [.v (.row (List.map e27 x170000)), .v (.row (List.map e54 x170001)), .v (.i .i64 x170002), .v (.b x170003)]]) [] [] [] (bsp 57 0 [1, 25, 26, 27]) _ (by (conv => whnf); refine ⟨_, _, _, _, _, _, _, H, rfl, rfl⟩) ?_; rintro n s h hn ⟨x25, x26, x27, x170000, x170001, x170002, x170003, H, rfl, rfl⟩; have hk := suc_ (g := fun k => impl_DiskOk.l0 k _ _ _ _ _ _ _) H (by simp only [impl_DiskOk.l0]); obtain ⟨kf, hk⟩ := hk; subst hk; simp only [impl_DiskOk.l0, Option.bind_some, List.nil_append, if_true, if_false, Bool.false_eq_true, nilB, nilE] at H)
             | (refine loopK_ (fun n s h => ∃ x36 x37 x38 x170000 x170001 x170002 x170003, impl_DiskOk.l1 n x36 x37 x38 x170000 x170001 x170002 x170003 = some r ∧ s = spr 57 0 [(1, .ptr 0 0), (36, .v (.row (List.map e54 x36))), (37, .v (.i .i64 x37)), (38, .v (.i .i64 x38))] ∧ h = [.box 31 [.v (.row (List.map e27 x170000)), .v (.row (List.map e54 x170001)), .v (.i .i64 x170002), .v (.b x170003)]]) [] [] [] (bsp 57 0 [1, 36, 37, 38]) _ (by (conv => whnf); refine ⟨_, _, _, _, _, _, _, H, rfl, rfl⟩) ?_; rintro n s h hn ⟨x36, x37, x38, x170000, x170001, x170002, x170003, H, rfl, rfl⟩; have hk := suc_ (g := fun k => impl_DiskOk.l1 k _ _ _ _ _ _ _) H (by simp only [impl_DiskOk.l1]); obtain ⟨kf, hk⟩ := hk; subst hk; simp only [impl_DiskOk.l1, Option.bind_some, List.nil_append, if_true, if_false, Bool.false_eq_true, nilB, nilE] at H))
           | ((with_reducible refine nextid_ ?_); first
             | (refine nextK_ (P := fun m => impl_DiskOk.l0 m _ _ _ _ _ _ _ = some _) H (bsp 57 0 [1, 25, 26, 27]) ?_ ?_ ?_; (conv => whnf); (first | refine ⟨_, _, _, _, _, _, _, H, ?_, rfl⟩ | refine ⟨_, _, _, _, _, _, _, H, ?_, ?_⟩); all_goals first | omega | rfl | (repeat' (first | rfl | refine own_eq ?_ | refine box_eq ?_ | refine cons_eq ?_ ?_ | refine vi_eq ?_ | simp only [List.length_map, List.length_set, wm_])))
             | (refine nextK_ (P := fun m => impl_DiskOk.l1 m _ _ _ _ _ _ _ = some _) H (bsp 57 0 [1, 36, 37, 38]) ?_ ?_ ?_; (conv => whnf); (first | refine ⟨_, _, _, _, _, _, _, H, ?_, rfl⟩ | refine ⟨_, _, _, _, _, _, _, H, ?_, ?_⟩); all_goals first | omega | rfl | (repeat' (first | rfl | refine own_eq ?_ | refine box_eq ?_ | refine cons_eq ?_ ?_ | refine vi_eq ?_ | simp only [List.length_map, List.length_set, wm_]))))
           | ((with_reducible refine exid_ ?_); have hk := idH_ (F := fun k => impl_DiskOk.j0 k _ _ _ _ _) H; refine weakK_ (ex := []) (us := []) (bs := []) (ms := (bsp 57 0 [1, 23])) ?_; (conv => whnf); refine ⟨_, _, _, _, _, hk, rfl, rfl⟩)
           | ((with_reducible refine allid_ ?_); intro s h hj; clear H; obtain ⟨x23, x170000, x170001, x170002, x170003, H, rfl, rfl⟩ := hj; have hk := suc_ (g := fun k => impl_DiskOk.j0 k _ _ _ _ _) H (by simp only [impl_DiskOk.j0]); obtain ⟨kf, hk⟩ := hk; subst hk; simp only [impl_DiskOk.j0, Option.bind_some, List.nil_append, if_true, if_false, Bool.false_eq_true, nilB, nilE] at H)
           | ((with_reducible refine finid_ ?_); refine finK_ [] ?_; (conv => whnf); replace H := Option.some.inj H; subst H; (conv => whnf); refine ⟨rfl, ?_⟩; first | rfl | (repeat' (first | rfl | refine own_eq ?_ | refine tup_eq ?_ | refine agg_eq ?_ | refine cons_eq ?_ ?_ | refine vi_eq ?_ | simp only [List.length_map, List.length_set, wm_]))))
end Go.Proofs.Ytkpcieenikmbmaa.E
