/- Texts of this seat's claims, put together: E_laws_FnDisks -/
import Derived.Laws.StructEq
import Derived.Test.YtkpcieenikmbmaaPkDB4
import Derived.Test.YtkpcieenikmbmaaPkDE1
import Derived.Test.YtkpcieenikmbmaaPkDE10
import Derived.Test.YtkpcieenikmbmaaPkDE11
import Derived.Test.YtkpcieenikmbmaaPkDE12
import Derived.Test.YtkpcieenikmbmaaPkDE13
import Derived.Test.YtkpcieenikmbmaaPkDE14
import Derived.Test.YtkpcieenikmbmaaPkDE15
import Derived.Test.YtkpcieenikmbmaaPkDE16
import Derived.Test.YtkpcieenikmbmaaPkDE17
import Derived.Test.YtkpcieenikmbmaaPkDE18
import Derived.Test.YtkpcieenikmbmaaPkDE19
import Derived.Test.YtkpcieenikmbmaaPkDE2
import Derived.Test.YtkpcieenikmbmaaPkDE20
import Derived.Test.YtkpcieenikmbmaaPkDE21
import Derived.Test.YtkpcieenikmbmaaPkDE22
import Derived.Test.YtkpcieenikmbmaaPkDE23
import Derived.Test.YtkpcieenikmbmaaPkDE24
import Derived.Test.YtkpcieenikmbmaaPkDE3
import Derived.Test.YtkpcieenikmbmaaPkDE4
import Derived.Test.YtkpcieenikmbmaaPkDE5
import Derived.Test.YtkpcieenikmbmaaPkDE6
import Derived.Test.YtkpcieenikmbmaaPkDE7
import Derived.Test.YtkpcieenikmbmaaPkDE8
import Derived.Test.YtkpcieenikmbmaaPkDE9
/- What the functions' codes come to. -/
namespace Go.Proofs.Ytkpcieenikmbmaa.E
open Go Go.RowKit Go.Proofs.YtkpcieenikmbmaaW.PrintWords Go.Proofs.Ytkpcieenikmbmaa.P
set_option linter.unusedVariables false
set_option linter.unusedSimpArgs false
set_option maxHeartbeats 0
set_option maxRecDepth 100000
theorem laws_FnDisks_ev {kf : Nat} {l0 : List Int} {r : Bool} (H : laws_FnDisks.f kf l0 = some r) : Spec Try.prog 4 [.v (.row (List.map e5 l0))] [] (.v (.b r)) [] := by
  simp only [laws_FnDisks.f, Option.bind_some, List.nil_append, if_true, if_false, Bool.false_eq_true, nilB, nilE] at H
  refine fn_okF (E := env) Try.func4 (by rfl) rfl (n := 124) (by rfl) ?_
  repeat' ((conv => whnf); first
           | ((with_reducible have hp := peel_ H); clear H; obtain ⟨_, H⟩ := hp)
           | ((with_reducible have hp := peeln_ H); clear H; obtain ⟨_, H⟩ := hp)
           | (with_reducible replace H := itet_ H)
           | (with_reducible replace H := itef_ H)
           | ((with_reducible refine sideid_ ?_); refine side_ ?_)
           | ((with_reducible refine seqid_ ?_); first
             | ((with_reducible refine scg_ 5 ?_); refine scut_ 5 (fun s h => ∃ x4 x5 x34 x501000 x501001 x501002 x501003 x510000 x510001 x510002 x510003, laws_FnDisks.j0 kf x4 x5 x34 x501000 x501001 x501002 x501003 x510000 x510001 x510002 x510003 = some r ∧ s = spr 125 0 [(3, .ptr 0 0), (4, .v (.i .i64 x4)), (5, .own 1 (List.map e5 x5).length), (6, .ptr 2 0), (34, .v (.b x34))] ∧ h = [.box 31 [.own 3 (List.map e27 x501000).length, .own 4 (List.map e54 x501001).length, .v (.i .i64 x501002), .v (.b x501003)], .arr 1 5 true (List.map e5 x5), .box 31 [.own 5 (List.map e27 x510000).length, .own 6 (List.map e54 x510001).length, .v (.i .i64 x510002), .v (.b x510003)], .arr 1 27 true (List.map e27 x501000), .arr 2 54 true (List.map e54 x501001), .arr 1 27 false (List.map e27 x510000), .arr 2 54 false (List.map e54 x510001)]) ?_ ?_)
             | ((with_reducible refine scg_ 7 ?_); refine scut_ 7 (fun s h => ∃ x4 x5 x63 x501000 x501001 x501002 x501003 x510000 x510001 x510002 x510003, laws_FnDisks.j1 kf x4 x5 x63 x501000 x501001 x501002 x501003 x510000 x510001 x510002 x510003 = some r ∧ s = spr 125 0 [(3, .ptr 0 0), (4, .v (.i .i64 x4)), (5, .own 1 (List.map e5 x5).length), (6, .ptr 2 0), (63, .v (.b x63))] ∧ h = [.box 31 [.own 3 (List.map e27 x501000).length, .own 4 (List.map e54 x501001).length, .v (.i .i64 x501002), .v (.b x501003)], .arr 1 5 true (List.map e5 x5), .box 31 [.own 5 (List.map e27 x510000).length, .own 6 (List.map e54 x510001).length, .v (.i .i64 x510002), .v (.b x510003)], .arr 1 27 true (List.map e27 x501000), .arr 2 54 true (List.map e54 x501001), .arr 1 27 false (List.map e27 x510000), .arr 2 54 false (List.map e54 x510001)]) ?_ ?_)
             | (refine sgo_ ?_))
           | ((with_reducible refine brid_ ?_); first
             | (with_reducible refine brct_ ?_)
             | (with_reducible refine brcf_ ?_)
             | (with_reducible refine brt_ ?_)
             | (with_reducible refine brf_ ?_)
             | (refine br_ H (by with_reducible first | rfl | exact bi_ _ _ | exact bd_ _ | exact bs_ _ _) (fun _ H => ?_) (fun _ H => ?_))
             | (refine brn_ H (by with_reducible first | rfl | exact bni_ _ _ | exact bin_ _ _ | exact bn_ _ | exact bs0_ _ _ | exact bnn_ _) (fun _ H => ?_) (fun _ H => ?_))
             | (refine brt_ ?_)
             | (refine brf_ ?_)
             | (refine br_ H (by exact Eq.refl _) (fun _ H => ?_) (fun _ H => ?_))
             | (refine brn_ H (by exact Eq.refl _) (fun _ H => ?_) (fun _ H => ?_)))
           | ((with_reducible refine br2id_ ?_); first
             | (refine br2t_ ?_)
             | (refine br2f_ ?_))
           | ((with_reducible refine normid_ ?_); first
             | (refine norm_nilapp ?_)
             | (refine norm_appnil ?_)
             | (refine norm_app ?_)
             | (refine norm_t ?_)
             | (refine norm_d ?_)
             | (refine norm_td ?_)
             | (refine norm_set (e := 5) (f := e5) _ rfl ?_)
             | (refine norm_rep (e := 5) (f := e5) _ rfl ?_)
             | (refine norm_set (e := 27) (f := e27) _ rfl ?_)
             | (refine norm_rep (e := 27) (f := e27) _ rfl ?_)
             | (refine norm_rep (e := 27) (f := e27) [] rfl ?_)
             | (refine norm_set (e := 27) (f := e27) [] rfl ?_)
             | (refine norm_set (e := 54) (f := e54) ⟨_, _⟩ rfl ?_)
             | (refine norm_rep (e := 54) (f := e54) ⟨_, _⟩ rfl ?_)
             | (refine norm_rep (e := 54) (f := e54) ⟨_, []⟩ rfl ?_)
             | (refine norm_set (e := 54) (f := e54) ⟨_, []⟩ rfl ?_))
           | ((with_reducible refine elemid_ ?_); first
             | (refine elem_ (f := e5) 0 (rd _ _) rfl ?_ (by first | assumption | decide | omega) (by first | assumption | omega))
             | (refine elem_ (f := e27) [] (rd_L1 _ _) rfl ?_ (by first | assumption | decide | omega) (by first | assumption | omega))
             | (refine elem_ (f := e54) z54 (rd_T54 _ _) rfl ?_ (by first | assumption | decide | omega) (by first | assumption | omega)))
           | ((with_reducible refine lenid_ ?_); refine lenm_ ?_)
           | ((with_reducible refine strid_ ?_); first
             | (refine stre_ ?_)
             | (refine stre0_ ?_))
           | ((with_reducible refine callid_ ?_); (first | (with_reducible have hp := bnd_ H); clear H; obtain ⟨_, ht, H⟩ := hp | have hp := tl_ H; clear H; obtain ⟨_, ht, H⟩ := hp); first
             | (refine call_ (impl_ReadSec_ev ht) rfl rfl ?_)
             | (refine call_ (laws_big_ev ht) rfl rfl ?_)
             | (refine call_ (spec_DrawWriteSec_ev ht) rfl rfl ?_)
             | (refine call_ (impl_WriteSec_ev ht) rfl rfl ?_)
             | (refine call_ (impl_DiskOk_ev ht) rfl rfl ?_)
             | (refine call_ (spec_DiskOk_ev ht) rfl rfl ?_)
             | (refine call_ (laws_sameDisk_ev ht) rfl rfl ?_)
             | (refine call_ (spec_WriteSec_ev ht) rfl rfl ?_)
             | (refine call_ (laws_same_ev ht) rfl rfl ?_)
             | (refine call_ (impl_FallDisk_ev ht) rfl rfl ?_)
             | (refine call_ (impl_SyncDisk_ev ht) rfl rfl ?_))
           | ((with_reducible refine handid_ ?_); refine handa_ ?_)
           | ((with_reducible refine loopid_ ?_); refine loopK_ (fun n s h => ∃ x4 x5 x8 x501000 x501001 x501002 x501003 x510000 x510001 x510002 x510003 x547000 x547001 x547002 x547003, laws_FnDisks.l0 n x4 x5 x8 x501000 x501001 x501002 x501003 x510000 x510001 x510002 x510003 x547000 x547001 x547002 x547003 = some r ∧ s = spr 125 0 [(3, .ptr 0 0), (4, .v (.i .i64 x4)), (5, .own 1 (List.map e5 x5).length), (6, .ptr 2 0), (7, .ptr 3 0), (8, .v (.i .i64 x8))] ∧ h = [.box 31 [.own 4 (List.map e27 x501000).length, .own 5 (List.map e54 x501001).length, .v (.i .i64 x501002), .v (.b x501003)], .arr 1 5 true (List.map e5 x5), .box 31 [.own 6 (List.map e27 x510000).length, .own 7 (List.map e54 x510001).length, .v (.i .i64 x510002), .v (.b x510003)], .box 31 [.own 8 (List.map e27 x547000).length, .own 9 (List.map e54 x547001).length, .v (.i .i64 x547002), .v (.b x547003)], .arr 1 27 true (List.map e27 x501000), .arr 2 54 true (List.map e54 x501001), .arr 1 27 true (List.map e27 x510000), .arr 2 54 true (List.map e54 x510001), .arr 1 27 false (List.map e27 x547000), .arr 2 54 false (List.map e54 x547001)]) [] [] [] (bsp 125 0 [3, 4, 5, 6, 7, 8]) _ (by (conv => whnf); refine ⟨_, _, _, _, _, _, _, _, _, _, _, _, _, _, _, H, rfl, rfl⟩) ?_; rintro n s h hn ⟨x4, x5, x8, x501000, x501001, x501002, x501003, x510000, x510001, x510002, x510003, x547000, x547001, x547002, x547003, H, rfl, rfl⟩; have hk := suc_ (g := fun k => laws_FnDisks.l0 k _ _ _ _ _ _ _ _ _ _ _ _ _ _ _) H (by simp only [laws_FnDisks.l0]); obtain ⟨kf, hk⟩ := hk; subst hk; simp only [laws_FnDisks.l0, Option.bind_some, List.nil_append, if_true, if_false, Bool.false_eq_true, nilB, nilE] at H)
           | ((with_reducible refine nextid_ ?_); refine nextK_ (P := fun m => laws_FnDisks.l0 m _ _ _ _ _ _ _ _ _ _ _ _ _ _ _ = some _) H (bsp 125 0 [3, 4, 5, 6, 7, 8]) ?_ ?_ ?_; (conv => whnf); (first | refine ⟨_, _, _, _, _, _, _, _, _, _, _, _, _, _, _, H, ?_, rfl⟩ | refine ⟨_, _, _, _, _, _, _, _, _, _, _, _, _, _, _, H, ?_, ?_⟩); all_goals first | omega | rfl | (repeat' (first | rfl | refine own_eq ?_ | refine box_eq ?_ | refine cons_eq ?_ ?_ | refine vi_eq ?_ | simp only [List.length_map, List.length_set, wm_])))
           | ((with_reducible refine exid_ ?_); first
             | (have hk := idH_ (F := fun k => laws_FnDisks.j0 k _ _ _ _ _ _ _ _ _ _ _) H; refine weakK_ (ex := []) (us := []) (bs := []) (ms := (bsp 125 0 [3, 4, 5, 6, 34])) ?_; (conv => whnf); refine ⟨_, _, _, _, _, _, _, _, _, _, _, hk, rfl, rfl⟩)
             | (have hk := idH_ (F := fun k => laws_FnDisks.j1 k _ _ _ _ _ _ _ _ _ _ _) H; refine weakK_ (ex := []) (us := []) (bs := []) (ms := (bsp 125 0 [3, 4, 5, 6, 63])) ?_; (conv => whnf); refine ⟨_, _, _, _, _, _, _, _, _, _, _, hk, rfl, rfl⟩))
           | ((with_reducible refine allid_ ?_); first
             | (intro s h hj; clear H; obtain ⟨x4, x5, x34, x501000, x501001, x501002, x501003, x510000, x510001, x510002, x510003, H, rfl, rfl⟩ := hj; have hk := suc_ (g := fun k => laws_FnDisks.j0 k _ _ _ _ _ _ _ _ _ _ _) H (by simp only [laws_FnDisks.j0]); obtain ⟨kf, hk⟩ := hk; subst hk; simp only [laws_FnDisks.j0, Option.bind_some, List.nil_append, if_true, if_false, Bool.false_eq_true, nilB, nilE] at H)
             | (intro s h hj; clear H; obtain ⟨x4, x5, x63, x501000, x501001, x501002, x501003, x510000, x510001, x510002, x510003, H, rfl, rfl⟩ := hj; have hk := suc_ (g := fun k => laws_FnDisks.j1 k _ _ _ _ _ _ _ _ _ _ _) H (by simp only [laws_FnDisks.j1]); obtain ⟨kf, hk⟩ := hk; subst hk; simp only [laws_FnDisks.j1, Option.bind_some, List.nil_append, if_true, if_false, Bool.false_eq_true, nilB, nilE] at H))
           | ((with_reducible refine finid_ ?_); refine finK_ [] ?_; (conv => whnf); replace H := Option.some.inj H; subst H; (conv => whnf); refine ⟨rfl, ?_⟩; first | rfl | (repeat' (first | rfl | refine own_eq ?_ | refine tup_eq ?_ | refine agg_eq ?_ | refine cons_eq ?_ ?_ | refine vi_eq ?_ | simp only [List.length_map, List.length_set, wm_]))))
end Go.Proofs.Ytkpcieenikmbmaa.E
