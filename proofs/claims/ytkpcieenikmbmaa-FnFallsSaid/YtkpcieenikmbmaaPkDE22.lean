/- Texts of this seat's claims, put together: E_laws_sameDisk -/
import Derived.Laws.StructEq
import Derived.Test.YtkpcieenikmbmaaPkDB4
import Derived.Test.YtkpcieenikmbmaaPkDE21
/- What the functions' codes come to. -/
namespace Go.Proofs.Ytkpcieenikmbmaa.E
open Go Go.RowKit Go.Proofs.YtkpcieenikmbmaaW.PrintWords Go.Proofs.Ytkpcieenikmbmaa.P
set_option linter.unusedVariables false
set_option linter.unusedSimpArgs false
set_option maxHeartbeats 0
set_option maxRecDepth 100000
theorem laws_sameDisk_ev {kf : Nat} {l0_0 : List (List Int)} {l0_1 : List (S54)} {a0_2 : Int} {a0_3 : Bool} {l1_0 : List (List Int)} {l1_1 : List (S54)} {a1_2 : Int} {a1_3 : Bool} {r : Bool} (H : laws_sameDisk.f kf l0_0 l0_1 a0_2 a0_3 l1_0 l1_1 a1_2 a1_3 = some r) : Spec Try.prog 24 [.agg [.v (.row (List.map e27 l0_0)), .v (.row (List.map e54 l0_1)), .v (.i .i64 a0_2), .v (.b a0_3)], .agg [.v (.row (List.map e27 l1_0)), .v (.row (List.map e54 l1_1)), .v (.i .i64 a1_2), .v (.b a1_3)]] [] (.v (.b r)) [] := by
  simp only [laws_sameDisk.f, Option.bind_some, List.nil_append, if_true, if_false, Bool.false_eq_true, nilB, nilE] at H
  refine fn_okF (E := env) Try.func24 (by rfl) rfl (n := 90) (by rfl) ?_
  repeat' ((conv => whnf); first
           | ((with_reducible have hp := peel_ H); clear H; obtain ⟨_, H⟩ := hp)
           | ((with_reducible have hp := peeln_ H); clear H; obtain ⟨_, H⟩ := hp)
           | (with_reducible replace H := itet_ H)
           | (with_reducible replace H := itef_ H)
           | ((with_reducible refine sideid_ ?_); refine side_ ?_)
           | ((with_reducible refine seqid_ ?_); first
             | ((with_reducible refine scg_ 1 ?_); refine scut_ 1 (fun s h => ∃ x36 x478000 x478001 x478002 x478003 x479000 x479001 x479002 x479003, laws_sameDisk.j0 kf x36 x478000 x478001 x478002 x478003 x479000 x479001 x479002 x479003 = some r ∧ s = spr 92 0 [(2, .ptr 0 0), (3, .ptr 1 0), (36, .v (.b x36))] ∧ h = [.box 31 [.v (.row (List.map e27 x478000)), .v (.row (List.map e54 x478001)), .v (.i .i64 x478002), .v (.b x478003)], .box 31 [.v (.row (List.map e27 x479000)), .v (.row (List.map e54 x479001)), .v (.i .i64 x479002), .v (.b x479003)]]) ?_ ?_)
             | (refine sgo_ ?_))
           | ((with_reducible refine brid_ ?_); first
             | (with_reducible refine brct_ ?_)
             | (with_reducible refine brcf_ ?_)
             | (with_reducible refine brt_ ?_)
             | (with_reducible refine brf_ ?_)
             | (refine br_ H (by with_reducible first | rfl | exact bi_ _ _ | exact bd_ _ | exact bs_ _ _) (fun _ H => ?_) (fun _ H => ?_))
             | (refine brn_ H (by with_reducible first | rfl | exact bni_ _ _ | exact bin_ _ _ | exact bn_ _ | exact bs0_ _ _ | exact bnn_ _) (fun _ H => ?_) (fun _ H => ?_))
             | (refine brt_ ?_)
             | (refine brf_ ?_)
             | (refine br_ H (by exact Eq.refl _) (fun _ H => ?_) (fun _ H => ?_))
             | (refine brn_ H (by exact Eq.refl _) (fun _ H => ?_) (fun _ H => ?_)))
           | ((with_reducible refine br2id_ ?_); first
             | (refine br2t_ ?_)
             | (refine br2f_ ?_))
           | ((with_reducible refine normid_ ?_); first
             | (refine norm_nilapp ?_)
             | (refine norm_appnil ?_)
             | (refine norm_app ?_)
             | (refine norm_t ?_)
             | (refine norm_d ?_)
             | (refine norm_td ?_)
             | (refine norm_set (e := 5) (f := e5) _ rfl ?_)
             | (refine norm_rep (e := 5) (f := e5) _ rfl ?_)
             | (refine norm_set (e := 27) (f := e27) _ rfl ?_)
             | (refine norm_rep (e := 27) (f := e27) _ rfl ?_)
             | (refine norm_rep (e := 27) (f := e27) [] rfl ?_)
             | (refine norm_set (e := 27) (f := e27) [] rfl ?_)
             | (refine norm_set (e := 54) (f := e54) ⟨_, _⟩ rfl ?_)
             | (refine norm_rep (e := 54) (f := e54) ⟨_, _⟩ rfl ?_)
             | (refine norm_rep (e := 54) (f := e54) ⟨_, []⟩ rfl ?_)
             | (refine norm_set (e := 54) (f := e54) ⟨_, []⟩ rfl ?_))
           | ((with_reducible refine elemid_ ?_); first
             | (refine elem_ (f := e5) 0 (rd _ _) rfl ?_ (by first | assumption | decide | omega) (by first | assumption | omega))
             | (refine elem_ (f := e27) [] (rd_L1 _ _) rfl ?_ (by first | assumption | decide | omega) (by first | assumption | omega))
             | (refine elem_ (f := e54) z54 (rd_T54 _ _) rfl ?_ (by first | assumption | decide | omega) (by first | assumption | omega)))
           | ((with_reducible refine lenid_ ?_); refine lenm_ ?_)
           | ((with_reducible refine strid_ ?_); first
             | (refine stre_ ?_)
             | (refine stre0_ ?_))
           | ((with_reducible refine callid_ ?_); (first | (with_reducible have hp := bnd_ H); clear H; obtain ⟨_, ht, H⟩ := hp | have hp := tl_ H; clear H; obtain ⟨_, ht, H⟩ := hp); refine call_ (laws_same_ev ht) rfl rfl ?_)
           | ((with_reducible refine handid_ ?_); refine handa_ ?_)
           | ((with_reducible refine loopid_ ?_); first
             | (refine loopK_ (fun n s h => ∃ x5 x478000 x478001 x478002 x478003 x479000 x479001 x479002 x479003, laws_sameDisk.l0 n x5 x478000 x478001 x478002 x478003 x479000 x479001 x479002 x479003 = some r ∧ s = spr 92 0 [(2, .ptr 0 0), (3, .ptr 1 0), (5, .v (.i .i64 x5))] ∧ h = [.box 31 [.v (.row (List.map e27 x478000)), .v (.row (List.map e54 x478001)), .v (.i .i64 x478002), .v (.b x478003)], .box 31 [.v (.row (List.map e27 x479000)), .v (.row (List.map e54 x479001)), .v (.i .i64 x479002), .v (.b x479003)]]) [] [] [] (bsp 92 0 [2, 3, 5]) _ (by (conv => whnf); refine ⟨_, _, _, _, _, _, _, _, _, H, rfl, rfl⟩) ?_; rintro n s h hn ⟨x5, x478000, x478001, x478002, x478003, x479000, x479001, x479002, x479003, H, rfl, rfl⟩; have hk := suc_ (g := fun k => laws_sameDisk.l0 k _ _ _ _ _ _ _ _ _) H (by simp only [laws_sameDisk.l0]); obtain ⟨kf, hk⟩ := hk; subst hk; simp only [laws_sameDisk.l0, Option.bind_some, List.nil_append, if_true, if_false, Bool.false_eq_true, nilB, nilE] at H)
             | (refine loopK_ (fun n s h => ∃ x6 x478000 x478001 x478002 x478003 x479000 x479001 x479002 x479003, laws_sameDisk.l1 n x6 x478000 x478001 x478002 x478003 x479000 x479001 x479002 x479003 = some r ∧ s = spr 92 0 [(2, .ptr 0 0), (3, .ptr 1 0), (6, .v (.i .i64 x6))] ∧ h = [.box 31 [.v (.row (List.map e27 x478000)), .v (.row (List.map e54 x478001)), .v (.i .i64 x478002), .v (.b x478003)], .box 31 [.v (.row (List.map e27 x479000)), .v (.row (List.map e54 x479001)), .v (.i .i64 x479002), .v (.b x479003)]]) [] [] [] (bsp 92 0 [2, 3, 6]) _ (by (conv => whnf); refine ⟨_, _, _, _, _, _, _, _, _, H, rfl, rfl⟩) ?_; rintro n s h hn ⟨x6, x478000, x478001, x478002, x478003, x479000, x479001, x479002, x479003, H, rfl, rfl⟩; have hk := suc_ (g := fun k => laws_sameDisk.l1 k _ _ _ _ _ _ _ _ _) H (by simp only [laws_sameDisk.l1]); obtain ⟨kf, hk⟩ := hk; subst hk; simp only [laws_sameDisk.l1, Option.bind_some, List.nil_append, if_true, if_false, Bool.false_eq_true, nilB, nilE] at H))
           | ((with_reducible refine nextid_ ?_); first
             | (refine nextK_ (P := fun m => laws_sameDisk.l0 m _ _ _ _ _ _ _ _ _ = some _) H (bsp 92 0 [2, 3, 5]) ?_ ?_ ?_; (conv => whnf); (first | refine ⟨_, _, _, _, _, _, _, _, _, H, ?_, rfl⟩ | refine ⟨_, _, _, _, _, _, _, _, _, H, ?_, ?_⟩); all_goals first | omega | rfl | (repeat' (first | rfl | refine own_eq ?_ | refine box_eq ?_ | refine cons_eq ?_ ?_ | refine vi_eq ?_ | simp only [List.length_map, List.length_set, wm_])))
             | (refine nextK_ (P := fun m => laws_sameDisk.l1 m _ _ _ _ _ _ _ _ _ = some _) H (bsp 92 0 [2, 3, 6]) ?_ ?_ ?_; (conv => whnf); (first | refine ⟨_, _, _, _, _, _, _, _, _, H, ?_, rfl⟩ | refine ⟨_, _, _, _, _, _, _, _, _, H, ?_, ?_⟩); all_goals first | omega | rfl | (repeat' (first | rfl | refine own_eq ?_ | refine box_eq ?_ | refine cons_eq ?_ ?_ | refine vi_eq ?_ | simp only [List.length_map, List.length_set, wm_]))))
           | ((with_reducible refine exid_ ?_); have hk := idH_ (F := fun k => laws_sameDisk.j0 k _ _ _ _ _ _ _ _ _) H; refine weakK_ (ex := []) (us := []) (bs := []) (ms := (bsp 92 0 [2, 3, 36])) ?_; (conv => whnf); refine ⟨_, _, _, _, _, _, _, _, _, hk, rfl, rfl⟩)
           | ((with_reducible refine allid_ ?_); intro s h hj; clear H; obtain ⟨x36, x478000, x478001, x478002, x478003, x479000, x479001, x479002, x479003, H, rfl, rfl⟩ := hj; have hk := suc_ (g := fun k => laws_sameDisk.j0 k _ _ _ _ _ _ _ _ _) H (by simp only [laws_sameDisk.j0]); obtain ⟨kf, hk⟩ := hk; subst hk; simp only [laws_sameDisk.j0, Option.bind_some, List.nil_append, if_true, if_false, Bool.false_eq_true, nilB, nilE] at H)
           | ((with_reducible refine finid_ ?_); refine finK_ [] ?_; (conv => whnf); replace H := Option.some.inj H; subst H; (conv => whnf); refine ⟨rfl, ?_⟩; first | rfl | (repeat' (first | rfl | refine own_eq ?_ | refine tup_eq ?_ | refine agg_eq ?_ | refine cons_eq ?_ ?_ | refine vi_eq ?_ | simp only [List.length_map, List.length_set, wm_]))))
end Go.Proofs.Ytkpcieenikmbmaa.E
