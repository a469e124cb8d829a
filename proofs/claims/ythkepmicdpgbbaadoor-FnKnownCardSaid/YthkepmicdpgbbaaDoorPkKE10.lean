/- Texts of this seat's claims, put together: E_laws_FnKnown -/
import Derived.Test.YthkepmicdpgbbaaDoorPkKB5
import Derived.Test.YthkepmicdpgbbaaDoorPkKE1
import Derived.Test.YthkepmicdpgbbaaDoorPkKE2
import Derived.Test.YthkepmicdpgbbaaDoorPkKE3
import Derived.Test.YthkepmicdpgbbaaDoorPkKE4
import Derived.Test.YthkepmicdpgbbaaDoorPkKE5
import Derived.Test.YthkepmicdpgbbaaDoorPkKE6
import Derived.Test.YthkepmicdpgbbaaDoorPkKE7
import Derived.Test.YthkepmicdpgbbaaDoorPkKE8
import Derived.Test.YthkepmicdpgbbaaDoorPkKE9
/- What the functions' codes come to. -/
namespace Go.Proofs.YthkepmicdpgbbaaDoor.E
open Go Go.RowKit Go.Proofs.YthkepmicdpgbbaaDoorW.PrintWords Go.Proofs.YthkepmicdpgbbaaDoor.P
set_option linter.unusedVariables false
set_option linter.unusedSimpArgs false
set_option maxHeartbeats 0
set_option maxRecDepth 100000
theorem brkt_ {x : Bool} {P Q : Prop} (h : x = true) (t : P) : Br x P Q := ⟨fun _ => t, fun e => by rw [h] at e; cases e⟩
theorem brkf_ {x : Bool} {P Q : Prop} (h : ¬x = true) (f : Q) : Br x P Q := ⟨fun e => absurd e h, fun _ => f⟩
theorem laws_FnKnown_ev {kf : Nat} {l0 : List Int} {r : Bool} (H : laws_FnKnown.f kf l0 = some r) : Spec Tryd.prog 8 [.v (.row (List.map e5 l0))] [] (.v (.b r)) [] := by
  simp only [laws_FnKnown.f, Option.bind_some, List.nil_append, if_true, if_false, Bool.false_eq_true, nilB, nilE] at H
  refine fn_okF (E := env) Tryd.func8 (by rfl) rfl (n := 140) (by rfl) ?_
  repeat' ((conv => whnf); first
           | ((with_reducible have hp := peel_ H); clear H; obtain ⟨_, H⟩ := hp)
           | ((with_reducible have hp := peeln_ H); clear H; obtain ⟨_, H⟩ := hp)
           | (with_reducible replace H := itet_ H)
           | (with_reducible replace H := itef_ H)
           | ((with_reducible refine sideid_ ?_); refine side_ ?_)
           | ((with_reducible refine seqid_ ?_); first
             | ((with_reducible refine scg_ 16 ?_); refine scut_ 16 (fun s h => ∃ x12 x72 x1077000 x1077001 x1077002 x1077003 x1077004 x1077005 x1081000 x1081001 x1081002 x1081003 x1081004 x1081005 x1103000 x1103001 x1103002 x1103003 x1103004 x1103005 x1104000 x1104001 x1104002 x1104003 x1112000 x1112001 x1112002 x1112003 x1112004 x1112005, laws_FnKnown.j1 kf x12 x72 x1077000 x1077001 x1077002 x1077003 x1077004 x1077005 x1081000 x1081001 x1081002 x1081003 x1081004 x1081005 x1103000 x1103001 x1103002 x1103003 x1103004 x1103005 x1104000 x1104001 x1104002 x1104003 x1112000 x1112001 x1112002 x1112003 x1112004 x1112005 = some r ∧ s = spr 141 0 [(3, .ptr 0 0), (5, .ptr 1 0), (9, .ptr 2 0), (10, .ptr 3 0), (11, .ptr 4 0), (12, .v (.b x12)), (72, .v (.b x72))] ∧ h = [.box 34 [.v (.i .i64 x1077000), .v (.s x1077001), .v (.i .i64 x1077002), .v (.s x1077003), .v (.i .i64 x1077004), .v (.i .i64 x1077005)], .box 34 [.v (.i .i64 x1081000), .v (.s x1081001), .v (.i .i64 x1081002), .v (.s x1081003), .v (.i .i64 x1081004), .v (.i .i64 x1081005)], .box 34 [.v (.i .i64 x1103000), .v (.s x1103001), .v (.i .i64 x1103002), .v (.s x1103003), .v (.i .i64 x1103004), .v (.i .i64 x1103005)], .box 38 [.v (.i .i64 x1104000), .v (.i .i64 x1104001), .v (.i .i64 x1104002), .v (.s x1104003)], .box 34 [.v (.i .i64 x1112000), .v (.s x1112001), .v (.i .i64 x1112002), .v (.s x1112003), .v (.i .i64 x1112004), .v (.i .i64 x1112005)]]) ?_ ?_)
             | (refine sgo_ ?_))
           | ((with_reducible refine brid_ ?_); first
             | (with_reducible refine brct_ ?_)
             | (with_reducible refine brcf_ ?_)
             | (with_reducible refine brt_ ?_)
             | (with_reducible refine brf_ ?_)
             | (refine br_ H (by with_reducible first | rfl | exact bi_ _ _ | exact bd_ _ | exact bs_ _ _) (fun _ H => ?_) (fun _ H => ?_))
             | (refine brn_ H (by with_reducible first | rfl | exact bni_ _ _ | exact bin_ _ _ | exact bn_ _ | exact bs0_ _ _ | exact bnn_ _) (fun _ H => ?_) (fun _ H => ?_))
             | (refine brkt_ (by with_reducible assumption) ?_)
             | (refine brkf_ (by with_reducible assumption) ?_)
             | (refine brt_ ?_)
             | (refine brf_ ?_)
             | (refine br_ H (by exact Eq.refl _) (fun _ H => ?_) (fun _ H => ?_))
             | (refine brn_ H (by exact Eq.refl _) (fun _ H => ?_) (fun _ H => ?_)))
           | ((with_reducible refine br2id_ ?_); first
             | (refine br2t_ ?_)
             | (refine br2f_ ?_))
           | ((with_reducible refine normid_ ?_); first
             | (refine norm_nilapp ?_)
             | (refine norm_appnil ?_)
             | (refine norm_app ?_)
             | (refine norm_t ?_)
             | (refine norm_d ?_)
             | (refine norm_td ?_)
             | (refine norm_set (e := 5) (f := e5) _ rfl ?_)
             | (refine norm_rep (e := 5) (f := e5) _ rfl ?_)
             | (refine norm_set (e := 38) (f := e38) ⟨_, _, _, _⟩ rfl ?_)
             | (refine norm_rep (e := 38) (f := e38) ⟨_, _, _, _⟩ rfl ?_))
           | ((with_reducible refine elemid_ ?_); first
             | (refine elem_ (f := e5) 0 (rd _ _) rfl ?_ (by first | assumption | decide | omega) (by first | assumption | omega))
             | (refine elem_ (f := e38) z38 (rd_T38 _ _) rfl ?_ (by first | assumption | decide | omega) (by first | assumption | omega)))
           | ((with_reducible refine lenid_ ?_); refine lenm_ ?_)
           | ((with_reducible refine strid_ ?_); first
             | (refine stre_ ?_)
             | (refine stre0_ ?_))
           | ((with_reducible refine callid_ ?_); have hp := bnd_ H; clear H; obtain ⟨_, ht, H⟩ := hp; first
             | (refine call_ (spec_Apply_ev ht) rfl rfl ?_)
             | (refine call_ (impl_Apply_ev ht) rfl rfl ?_)
             | (refine call_ (laws_big_ev ht) rfl rfl ?_)
             | (refine call_ (spec_DrawKnown_ev ht) rfl rfl ?_)
             | (refine call_ (impl_RecsOf_ev ht) rfl rfl ?_)
             | (refine call_ (impl_RecOk_ev ht) rfl rfl ?_)
             | (refine call_ (spec_DrawApply_ev ht) rfl rfl ?_)
             | (refine call_ (impl_KnownOk_ev ht) rfl rfl ?_)
             | (refine call_ (spec_KnownOk_ev ht) rfl rfl ?_))
           | ((with_reducible refine handid_ ?_); refine handa_ ?_)
           | ((with_reducible refine loopid_ ?_); refine loopK_ (fun n s h => ∃ x0 x4 x6 x1077000 x1077001 x1077002 x1077003 x1077004 x1077005 x1081000 x1081001 x1081002 x1081003 x1081004 x1081005, laws_FnKnown.l0 n x0 x4 x6 x1077000 x1077001 x1077002 x1077003 x1077004 x1077005 x1081000 x1081001 x1081002 x1081003 x1081004 x1081005 = some r ∧ s = spr 141 0 [(0, .v (.row (List.map e5 x0))), (3, .ptr 0 0), (4, .own 1 (List.map e38 x4).length), (5, .ptr 2 0), (6, .v (.i .i64 x6))] ∧ h = [.box 34 [.v (.i .i64 x1077000), .v (.s x1077001), .v (.i .i64 x1077002), .v (.s x1077003), .v (.i .i64 x1077004), .v (.i .i64 x1077005)], .arr 4 38 false (List.map e38 x4), .box 34 [.v (.i .i64 x1081000), .v (.s x1081001), .v (.i .i64 x1081002), .v (.s x1081003), .v (.i .i64 x1081004), .v (.i .i64 x1081005)]]) [] [] [] (bsp 141 0 [0, 3, 4, 5, 6]) _ (by (conv => whnf); refine ⟨_, _, _, _, _, _, _, _, _, _, _, _, _, _, _, H, rfl, rfl⟩) ?_; rintro n s h hn ⟨x0, x4, x6, x1077000, x1077001, x1077002, x1077003, x1077004, x1077005, x1081000, x1081001, x1081002, x1081003, x1081004, x1081005, H, rfl, rfl⟩; have hk := suc_ (g := fun k => laws_FnKnown.l0 k _ _ _ _ _ _ _ _ _ _ _ _ _ _ _) H (by simp only [laws_FnKnown.l0]); obtain ⟨kf, hk⟩ := hk; subst hk; simp only [laws_FnKnown.l0, Option.bind_some, List.nil_append, if_true, if_false, Bool.false_eq_true, nilB, nilE] at H)
           | ((with_reducible refine nextid_ ?_); refine nextK_ (P := fun m => laws_FnKnown.l0 m _ _ _ _ _ _ _ _ _ _ _ _ _ _ _ = some _) H (bsp 141 0 [0, 3, 4, 5, 6]) ?_ ?_ ?_; (conv => whnf); refine ⟨_, _, _, _, _, _, _, _, _, _, _, _, _, _, _, H, ?_, rfl⟩; all_goals first | omega | rfl | (repeat' (first | rfl | refine own_eq ?_ | refine cons_eq ?_ ?_ | refine vi_eq ?_ | simp only [List.length_map, List.length_set, wm_])))
           | ((with_reducible refine exid_ ?_); have hk := idH_ (F := fun k => laws_FnKnown.j1 k _ _ _ _ _ _ _ _ _ _ _ _ _ _ _ _ _ _ _ _ _ _ _ _ _ _ _ _ _ _) H; refine weakK_ (ex := []) (us := []) (bs := []) (ms := (bsp 141 0 [3, 5, 9, 10, 11, 12, 72])) ?_; (conv => whnf); refine ⟨_, _, _, _, _, _, _, _, _, _, _, _, _, _, _, _, _, _, _, _, _, _, _, _, _, _, _, _, _, _, hk, rfl, rfl⟩)
           | ((with_reducible refine allid_ ?_); intro s h hj; clear H; obtain ⟨x12, x72, x1077000, x1077001, x1077002, x1077003, x1077004, x1077005, x1081000, x1081001, x1081002, x1081003, x1081004, x1081005, x1103000, x1103001, x1103002, x1103003, x1103004, x1103005, x1104000, x1104001, x1104002, x1104003, x1112000, x1112001, x1112002, x1112003, x1112004, x1112005, H, rfl, rfl⟩ := hj; have hk := suc_ (g := fun k => laws_FnKnown.j1 k _ _ _ _ _ _ _ _ _ _ _ _ _ _ _ _ _ _ _ _ _ _ _ _ _ _ _ _ _ _) H (by simp only [laws_FnKnown.j1]); obtain ⟨kf, hk⟩ := hk; subst hk; simp only [laws_FnKnown.j1, Option.bind_some, List.nil_append, if_true, if_false, Bool.false_eq_true, nilB, nilE] at H)
           | ((with_reducible refine finid_ ?_); refine finK_ [] ?_; (conv => whnf); replace H := Option.some.inj H; subst H; (conv => whnf); refine ⟨rfl, ?_⟩; first | rfl | (repeat' (first | rfl | refine own_eq ?_ | refine tup_eq ?_ | refine agg_eq ?_ | refine cons_eq ?_ ?_ | refine vi_eq ?_ | simp only [List.length_map, List.length_set, wm_]))))
end Go.Proofs.YthkepmicdpgbbaaDoor.E
