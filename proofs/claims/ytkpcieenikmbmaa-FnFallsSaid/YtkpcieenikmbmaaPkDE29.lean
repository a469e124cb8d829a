/- Texts of this seat's claims, put together: E_laws_FnFalls -/
import Derived.Laws.StructEq
import Derived.Test.YtkpcieenikmbmaaPkDB4
import Derived.Test.YtkpcieenikmbmaaPkDE1
import Derived.Test.YtkpcieenikmbmaaPkDE10
import Derived.Test.YtkpcieenikmbmaaPkDE11
import Derived.Test.YtkpcieenikmbmaaPkDE12
import Derived.Test.YtkpcieenikmbmaaPkDE13
import Derived.Test.YtkpcieenikmbmaaPkDE14
import Derived.Test.YtkpcieenikmbmaaPkDE15
import Derived.Test.YtkpcieenikmbmaaPkDE16
import Derived.Test.YtkpcieenikmbmaaPkDE18
import Derived.Test.YtkpcieenikmbmaaPkDE2
import Derived.Test.YtkpcieenikmbmaaPkDE21
import Derived.Test.YtkpcieenikmbmaaPkDE22
import Derived.Test.YtkpcieenikmbmaaPkDE23
import Derived.Test.YtkpcieenikmbmaaPkDE26
import Derived.Test.YtkpcieenikmbmaaPkDE27
import Derived.Test.YtkpcieenikmbmaaPkDE28
import Derived.Test.YtkpcieenikmbmaaPkDE4
import Derived.Test.YtkpcieenikmbmaaPkDE5
import Derived.Test.YtkpcieenikmbmaaPkDE6
import Derived.Test.YtkpcieenikmbmaaPkDE7
import Derived.Test.YtkpcieenikmbmaaPkDE8
import Derived.Test.YtkpcieenikmbmaaPkDE9
/- What the functions' codes come to. -/
namespace Go.Proofs.Ytkpcieenikmbmaa.E
open Go Go.RowKit Go.Proofs.YtkpcieenikmbmaaW.PrintWords Go.Proofs.Ytkpcieenikmbmaa.P
set_option linter.unusedVariables false
set_option linter.unusedSimpArgs false
set_option maxHeartbeats 0
set_option maxRecDepth 100000
theorem laws_FnFalls_ev {kf : Nat} {l0 : List Int} {r : Bool} (H : laws_FnFalls.f kf l0 = some r) : Spec Try.prog 9 [.v (.row (List.map e5 l0))] [] (.v (.b r)) [] := by
  simp only [laws_FnFalls.f, Option.bind_some, List.nil_append, if_true, if_false, Bool.false_eq_true, nilB, nilE] at H
  refine fn_okF (E := env) Try.func9 (by rfl) rfl (n := 107) (by rfl) ?_
  repeat' ((conv => whnf); first
           | ((with_reducible have hp := peel_ H); clear H; obtain ⟨_, H⟩ := hp)
           | ((with_reducible have hp := peeln_ H); clear H; obtain ⟨_, H⟩ := hp)
           | (with_reducible replace H := itet_ H)
           | (with_reducible replace H := itef_ H)
           | ((with_reducible refine sideid_ ?_); refine side_ ?_)
           | ((with_reducible refine seqid_ ?_); first
             | ((with_reducible refine scg_ 7 ?_); refine scut_ 7 (fun s h => ∃ x47 x907000 x907001 x907002 x907003 x917000 x917001 x917002 x917003, laws_FnFalls.j0 kf x47 x907000 x907001 x907002 x907003 x917000 x917001 x917002 x917003 = some r ∧ s = spr 108 0 [(3, .ptr 0 0), (5, .ptr 1 0), (47, .v (.b x47))] ∧ h = [.box 31 [.own 2 (List.map e27 x907000).length, .own 3 (List.map e54 x907001).length, .v (.i .i64 x907002), .v (.b x907003)], .box 31 [.own 4 (List.map e27 x917000).length, .own 5 (List.map e54 x917001).length, .v (.i .i64 x917002), .v (.b x917003)], .arr 1 27 true (List.map e27 x907000), .arr 2 54 true (List.map e54 x907001), .arr 1 27 false (List.map e27 x917000), .arr 2 54 false (List.map e54 x917001)]) ?_ ?_)
             | (refine sgo_ ?_))
           | ((with_reducible refine brid_ ?_); first
             | (with_reducible refine brct_ ?_)
             | (with_reducible refine brcf_ ?_)
             | (with_reducible refine brt_ ?_)
             | (with_reducible refine brf_ ?_)
             | (refine br_ H (by with_reducible first | rfl | exact bi_ _ _ | exact bd_ _ | exact bs_ _ _) (fun _ H => ?_) (fun _ H => ?_))
             | (refine brn_ H (by with_reducible first | rfl | exact bni_ _ _ | exact bin_ _ _ | exact bn_ _ | exact bs0_ _ _ | exact bnn_ _) (fun _ H => ?_) (fun _ H => ?_))
             | (refine brt_ ?_)
             | (refine brf_ ?_)
             | (refine br_ H (by exact Eq.refl _) (fun _ H => ?_) (fun _ H => ?_))
             | (refine brn_ H (by exact Eq.refl _) (fun _ H => ?_) (fun _ H => ?_)))
           | ((with_reducible refine br2id_ ?_); first
             | (refine br2t_ ?_)
             | (refine br2f_ ?_))
           | ((with_reducible refine normid_ ?_); first
             | (refine norm_nilapp ?_)
             | (refine norm_appnil ?_)
             | (refine norm_app ?_)
             | (refine norm_t ?_)
             | (refine norm_d ?_)
             | (refine norm_td ?_)
             | (refine norm_set (e := 5) (f := e5) _ rfl ?_)
             | (refine norm_rep (e := 5) (f := e5) _ rfl ?_)
             | (refine norm_set (e := 27) (f := e27) _ rfl ?_)
             | (refine norm_rep (e := 27) (f := e27) _ rfl ?_)
             | (refine norm_rep (e := 27) (f := e27) [] rfl ?_)
             | (refine norm_set (e := 27) (f := e27) [] rfl ?_)
             | (refine norm_set (e := 54) (f := e54) ⟨_, _⟩ rfl ?_)
             | (refine norm_rep (e := 54) (f := e54) ⟨_, _⟩ rfl ?_)
             | (refine norm_rep (e := 54) (f := e54) ⟨_, []⟩ rfl ?_)
             | (refine norm_set (e := 54) (f := e54) ⟨_, []⟩ rfl ?_))
           | ((with_reducible refine elemid_ ?_); first
             | (refine elem_ (f := e5) 0 (rd _ _) rfl ?_ (by first | assumption | decide | omega) (by first | assumption | omega))
             | (refine elem_ (f := e27) [] (rd_L1 _ _) rfl ?_ (by first | assumption | decide | omega) (by first | assumption | omega))
             | (refine elem_ (f := e54) z54 (rd_T54 _ _) rfl ?_ (by first | assumption | decide | omega) (by first | assumption | omega)))
           | ((with_reducible refine lenid_ ?_); refine lenm_ ?_)
           | ((with_reducible refine strid_ ?_); first
             | (refine stre_ ?_)
             | (refine stre0_ ?_))
           | ((with_reducible refine callid_ ?_); (first | (with_reducible have hp := bnd_ H); clear H; obtain ⟨_, ht, H⟩ := hp | have hp := tl_ H; clear H; obtain ⟨_, ht, H⟩ := hp); first
             | (refine call_ (laws_big_ev ht) rfl rfl ?_)
             | (refine call_ (impl_DiskOk_ev ht) rfl rfl ?_)
             | (refine call_ (laws_sameDisk_ev ht) rfl rfl ?_)
             | (refine call_ (laws_same_ev ht) rfl rfl ?_)
             | (refine call_ (impl_FallDisk_ev ht) rfl rfl ?_)
             | (refine call_ (spec_FallDisk_ev ht) rfl rfl ?_)
             | (refine call_ (spec_DrawDisk_ev ht) rfl rfl ?_)
             | (refine call_ (laws_at_ev ht) rfl rfl ?_)
             | (refine call_ (spec_DrawFallDisk_ev ht) rfl rfl ?_))
           | ((with_reducible refine handid_ ?_); refine handa_ ?_)
           | ((with_reducible refine loopid_ ?_); first
             | (refine loopK_ (fun n s h => ∃ x8 x907000 x907001 x907002 x907003 x917000 x917001 x917002 x917003, laws_FnFalls.l0 n x8 x907000 x907001 x907002 x907003 x917000 x917001 x917002 x917003 = some r ∧ s = spr 108 0 [(3, .ptr 0 0), (5, .ptr 1 0), (8, .v (.i .i64 x8))] ∧ h = [.box 31 [.own 2 (List.map e27 x907000).length, .own 3 (List.map e54 x907001).length, .v (.i .i64 x907002), .v (.b x907003)], .box 31 [.own 4 (List.map e27 x917000).length, .own 5 (List.map e54 x917001).length, .v (.i .i64 x917002), .v (.b x917003)], .arr 1 27 true (List.map e27 x907000), .arr 2 54 true (List.map e54 x907001), .arr 1 27 false (List.map e27 x917000), .arr 2 54 false (List.map e54 x917001)]) [] [] [] (bsp 108 0 [3, 5, 8]) _ (by (conv => whnf); refine ⟨_, _, _, _, _, _, _, _, _, H, rfl, rfl⟩) ?_; rintro n s h hn ⟨x8, x907000, x907001, x907002, x907003, x917000, x917001, x917002, x917003, H, rfl, rfl⟩; have hk := suc_ (g := fun k => laws_FnFalls.l0 k _ _ _ _ _ _ _ _ _) H (by simp only [laws_FnFalls.l0]); obtain ⟨kf, hk⟩ := hk; subst hk; simp only [laws_FnFalls.l0, Option.bind_some, List.nil_append, if_true, if_false, Bool.false_eq_true, nilB, nilE] at H)
             | (refine loopK_ (fun n s h => ∃ x8 x9 x10 x907000 x907001 x907002 x907003 x917000 x917001 x917002 x917003, laws_FnFalls.l1 n x8 x9 x10 x907000 x907001 x907002 x907003 x917000 x917001 x917002 x917003 = some r ∧ s = spr 108 0 [(3, .ptr 0 0), (5, .ptr 1 0), (8, .v (.i .i64 x8)), (9, .v (.b x9)), (10, .v (.i .i64 x10))] ∧ h = [.box 31 [.own 2 (List.map e27 x907000).length, .own 3 (List.map e54 x907001).length, .v (.i .i64 x907002), .v (.b x907003)], .box 31 [.own 4 (List.map e27 x917000).length, .own 5 (List.map e54 x917001).length, .v (.i .i64 x917002), .v (.b x917003)], .arr 1 27 true (List.map e27 x907000), .arr 2 54 true (List.map e54 x907001), .arr 1 27 false (List.map e27 x917000), .arr 2 54 false (List.map e54 x917001)]) [] [] [] (bsp 108 0 [3, 5, 8, 9, 10]) _ (by (conv => whnf); refine ⟨_, _, _, _, _, _, _, _, _, _, _, H, rfl, rfl⟩) ?_; rintro n s h hn ⟨x8, x9, x10, x907000, x907001, x907002, x907003, x917000, x917001, x917002, x917003, H, rfl, rfl⟩; have hk := suc_ (g := fun k => laws_FnFalls.l1 k _ _ _ _ _ _ _ _ _ _ _) H (by simp only [laws_FnFalls.l1]); obtain ⟨kf, hk⟩ := hk; subst hk; simp only [laws_FnFalls.l1, Option.bind_some, List.nil_append, if_true, if_false, Bool.false_eq_true, nilB, nilE] at H))
           | ((with_reducible refine nextid_ ?_); first
             | (refine nextK_ (P := fun m => laws_FnFalls.l0 m _ _ _ _ _ _ _ _ _ = some _) H (bsp 108 0 [3, 5, 8]) ?_ ?_ ?_; (conv => whnf); (first | refine ⟨_, _, _, _, _, _, _, _, _, H, ?_, rfl⟩ | refine ⟨_, _, _, _, _, _, _, _, _, H, ?_, ?_⟩); all_goals first | omega | rfl | (repeat' (first | rfl | refine own_eq ?_ | refine box_eq ?_ | refine cons_eq ?_ ?_ | refine vi_eq ?_ | simp only [List.length_map, List.length_set, wm_])))
             | (refine nextK_ (P := fun m => laws_FnFalls.l1 m _ _ _ _ _ _ _ _ _ _ _ = some _) H (bsp 108 0 [3, 5, 8, 9, 10]) ?_ ?_ ?_; (conv => whnf); (first | refine ⟨_, _, _, _, _, _, _, _, _, _, _, H, ?_, rfl⟩ | refine ⟨_, _, _, _, _, _, _, _, _, _, _, H, ?_, ?_⟩); all_goals first | omega | rfl | (repeat' (first | rfl | refine own_eq ?_ | refine box_eq ?_ | refine cons_eq ?_ ?_ | refine vi_eq ?_ | simp only [List.length_map, List.length_set, wm_]))))
           | ((with_reducible refine exid_ ?_); have hk := idH_ (F := fun k => laws_FnFalls.j0 k _ _ _ _ _ _ _ _ _) H; refine weakK_ (ex := []) (us := []) (bs := []) (ms := (bsp 108 0 [3, 5, 47])) ?_; (conv => whnf); refine ⟨_, _, _, _, _, _, _, _, _, hk, rfl, rfl⟩)
           | ((with_reducible refine allid_ ?_); intro s h hj; clear H; obtain ⟨x47, x907000, x907001, x907002, x907003, x917000, x917001, x917002, x917003, H, rfl, rfl⟩ := hj; have hk := suc_ (g := fun k => laws_FnFalls.j0 k _ _ _ _ _ _ _ _ _) H (by simp only [laws_FnFalls.j0]); obtain ⟨kf, hk⟩ := hk; subst hk; simp only [laws_FnFalls.j0, Option.bind_some, List.nil_append, if_true, if_false, Bool.false_eq_true, nilB, nilE] at H)
           | ((with_reducible refine finid_ ?_); refine finK_ [] ?_; (conv => whnf); replace H := Option.some.inj H; subst H; (conv => whnf); refine ⟨rfl, ?_⟩; first | rfl | (repeat' (first | rfl | refine own_eq ?_ | refine tup_eq ?_ | refine agg_eq ?_ | refine cons_eq ?_ ?_ | refine vi_eq ?_ | simp only [List.length_map, List.length_set, wm_]))))
end Go.Proofs.Ytkpcieenikmbmaa.E
