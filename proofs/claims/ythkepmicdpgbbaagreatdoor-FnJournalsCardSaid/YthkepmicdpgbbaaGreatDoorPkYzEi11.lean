/- Texts of this seat's claims, put together: PkYEi11 -/
import Derived.Test.YthkepmicdpgbbaaGreatDoorPkYzEi10
/- What the functions' codes come to. -/
namespace Go.Proofs.YthkepmicdpgbbaaGreatDoor.E
open Go Go.RowKit Go.Proofs.YthkepmicdpgbbaaGreatDoorW.PrintWords Go.Proofs.YthkepmicdpgbbaaGreatDoor.P
set_option linter.unusedVariables false
set_option linter.unusedSimpArgs false
set_option maxHeartbeats 0
set_option maxRecDepth 100000
theorem gYi11 : (∀ {kf l0_0 l0_1 a0_2 a0_3 r}, impl_OpenJour.f kf l0_0 l0_1 a0_2 a0_3 = some r → Spec Tryz.prog 26 [.agg [.v (.row (List.map e22 l0_0)), .v (.row (List.map e109 l0_1)), .v (.i .i64 a0_2), .v (.b a0_3)]] [] (.tup [.agg [.v (.i .i64 r.1), .v (.s r.2.1), .v (.i .i64 r.2.2.1), .v (.s r.2.2.2.1), .v (.i .i64 r.2.2.2.2.1), .v (.i .i64 r.2.2.2.2.2.1), .v (.i .i64 r.2.2.2.2.2.2.1), .v (.i .i64 r.2.2.2.2.2.2.2.1)], .v (.b r.2.2.2.2.2.2.2.2)]) []) := by
  refine @fun kf l0_0 l0_1 a0_2 a0_3 r H => fn_okF (E := env) Tryz.func26 (by rfl) rfl (n := 67) (by rfl) ?_
  all_goals simp only [impl_OpenJour.f, Option.bind_some, List.nil_append, if_true, if_false, Bool.false_eq_true, nilB, nilE] at H
  all_goals repeat' ((conv => whnf); first
   | ((with_reducible have hp := peel_ H); clear H; obtain ⟨_, H⟩ := hp)
   | ((with_reducible have hp := peeln_ H); clear H; obtain ⟨_, H⟩ := hp)
   | (with_reducible replace H := itet_ H)
   | (with_reducible replace H := itef_ H)
   | ((with_reducible refine sideid_ ?_); refine side_ ?_)
   | ((with_reducible refine seqid_ ?_); first
    | ((with_reducible refine scg_ 2 ?_); refine scut_ 2 (fun s h => ∃ x5 x21 x1048000 x1048001 x1048002 x1048003 x1050000 x1050001 x1050002 x1050003 x1050004 x1050005 x1050006 x1050007, impl_OpenJour.j0 kf x5 x21 x1048000 x1048001 x1048002 x1048003 x1050000 x1050001 x1050002 x1050003 x1050004 x1050005 x1050006 x1050007 = some r ∧ s = spr 68 0 [(1, .ptr 0 0), (2, .ptr 1 0), (4, .ptr 2 0), (5, .v (.b x5)), (21, .v (.b x21))] ∧ h = [.box 46 [.v (.row (List.map e22 x1048000)), .v (.row (List.map e109 x1048001)), .v (.i .i64 x1048002), .v (.b x1048003)], .box 52 [.v (.i .i64 0), .v (.s (⟨#[]⟩ : ByteArray)), .v (.i .i64 0), .v (.s (⟨#[]⟩ : ByteArray)), .v (.i .i64 0), .v (.i .i64 0), .v (.i .i64 0), .v (.i .i64 0)], .box 52 [.v (.i .i64 x1050000), .v (.s x1050001), .v (.i .i64 x1050002), .v (.s x1050003), .v (.i .i64 x1050004), .v (.i .i64 x1050005), .v (.i .i64 x1050006), .v (.i .i64 x1050007)]]) ?_ ?_)
    | ((with_reducible refine scg_ 8 ?_); refine scut_ 8 (fun s h => ∃ x5 x7 x8 x23 x41 x1048000 x1048001 x1048002 x1048003 x1050000 x1050001 x1050002 x1050003 x1050004 x1050005 x1050006 x1050007, impl_OpenJour.j2 kf x5 x7 x8 x23 x41 x1048000 x1048001 x1048002 x1048003 x1050000 x1050001 x1050002 x1050003 x1050004 x1050005 x1050006 x1050007 = some r ∧ s = spr 68 0 [(1, .ptr 0 0), (2, .ptr 1 0), (4, .ptr 2 0), (5, .v (.b x5)), (7, .v (.i .i64 x7)), (8, .v (.i .i64 x8)), (23, .v (.i .i64 x23)), (41, .v (.b x41))] ∧ h = [.box 46 [.v (.row (List.map e22 x1048000)), .v (.row (List.map e109 x1048001)), .v (.i .i64 x1048002), .v (.b x1048003)], .box 52 [.v (.i .i64 0), .v (.s (⟨#[]⟩ : ByteArray)), .v (.i .i64 0), .v (.s (⟨#[]⟩ : ByteArray)), .v (.i .i64 0), .v (.i .i64 0), .v (.i .i64 0), .v (.i .i64 0)], .box 52 [.v (.i .i64 x1050000), .v (.s x1050001), .v (.i .i64 x1050002), .v (.s x1050003), .v (.i .i64 x1050004), .v (.i .i64 x1050005), .v (.i .i64 x1050006), .v (.i .i64 x1050007)]]) ?_ ?_)
    | (refine sgo_ ?_))
   | ((with_reducible refine brid_ ?_); first
    | (with_reducible refine brct_ ?_)
    | (with_reducible refine brcf_ ?_)
    | (with_reducible refine brt_ ?_)
    | (with_reducible refine brf_ ?_)
    | (refine bra_ H (fun _ H => ?_) (fun _ H => ?_))
    | (refine brna_ H (fun _ H => ?_) (fun _ H => ?_))
    | (refine brt_ ?_)
    | (refine brf_ ?_)
    | (refine bre_ H (fun _ H => ?_) (fun _ H => ?_))
    | (refine brne_ H (fun _ H => ?_) (fun _ H => ?_)))
   | ((with_reducible refine br2id_ ?_); first
    | (refine br2t_ ?_)
    | (refine br2f_ ?_))
   | ((with_reducible refine blkid_ ?_); refine bgo_ ?_)
   | ((with_reducible refine normid_ ?_); first
    | (refine norm_nilapp ?_)
    | (refine norm_appnil ?_)
    | (refine norm_app ?_)
    | (refine norm_t ?_)
    | (refine norm_d ?_)
    | (refine norm_td ?_)
    | (refine norm_set (e := 5) (f := e5) _ rfl ?_)
    | (refine norm_rep (e := 5) (f := e5) _ rfl ?_)
    | (refine norm_set (e := 22) (f := e22) _ rfl ?_)
    | (refine norm_rep (e := 22) (f := e22) _ rfl ?_)
    | (refine norm_rep (e := 22) (f := e22) [] rfl ?_)
    | (refine norm_set (e := 22) (f := e22) [] rfl ?_))
   | ((with_reducible refine elemid_ ?_); first
    | (refine elema_ (f := e5) 0 (rd _ _) rfl ?_)
    | (refine elema_ (f := e22) [] (rd_L6 _ _) rfl ?_))
   | ((with_reducible refine lenid_ ?_); refine lenm_ ?_)
   | ((with_reducible refine strid_ ?_); first
    | (refine stre_ ?_)
    | (refine stre0_ ?_))
   | ((with_reducible refine callid_ ?_); (first | with_reducible have hp := bnd_ H | have hp := tl_ H); clear H; obtain ⟨_, ht, H⟩ := hp; (first
    | (with_reducible have ht := gYi10 ht)
    | (with_reducible have ht := gYi3.2.1 ht)
    | (with_reducible have ht := gYi2.2.2.2.2.2.2.1 ht)
    | (with_reducible have ht := gYi4.2.1 ht)); refine call_ ht rfl rfl ?_)
   | ((with_reducible refine handid_ ?_); refine handa_ ?_)
   | ((with_reducible refine mkid_ ?_); refine mka_ ?_)
   | ((with_reducible refine loopid_ ?_); ((with_reducible have hk := idH_ (F := fun k => impl_OpenJour.l0 k _ _ _ _ _ _ _ _ _ _ _ _ _ _) H); clear hk; refine loopK_ (fun n s h => ∃ x5 x23 x1048000 x1048001 x1048002 x1048003 x1050000 x1050001 x1050002 x1050003 x1050004 x1050005 x1050006 x1050007, impl_OpenJour.l0 n x5 x23 x1048000 x1048001 x1048002 x1048003 x1050000 x1050001 x1050002 x1050003 x1050004 x1050005 x1050006 x1050007 = some r ∧ s = spr 68 0 [(1, .ptr 0 0), (2, .ptr 1 0), (4, .ptr 2 0), (5, .v (.b x5)), (23, .v (.i .i64 x23))] ∧ h = [.box 46 [.v (.row (List.map e22 x1048000)), .v (.row (List.map e109 x1048001)), .v (.i .i64 x1048002), .v (.b x1048003)], .box 52 [.v (.i .i64 0), .v (.s (⟨#[]⟩ : ByteArray)), .v (.i .i64 0), .v (.s (⟨#[]⟩ : ByteArray)), .v (.i .i64 0), .v (.i .i64 0), .v (.i .i64 0), .v (.i .i64 0)], .box 52 [.v (.i .i64 x1050000), .v (.s x1050001), .v (.i .i64 x1050002), .v (.s x1050003), .v (.i .i64 x1050004), .v (.i .i64 x1050005), .v (.i .i64 x1050006), .v (.i .i64 x1050007)]]) [] [] [] (bsp 68 0 [1, 2, 4, 5, 23]) _ (by (conv => whnf); refine ⟨_, _, _, _, _, _, _, _, _, _, _, _, _, _, H, rfl, rfl⟩) ?_; rintro n s h hn ⟨x5, x23, x1048000, x1048001, x1048002, x1048003, x1050000, x1050001, x1050002, x1050003, x1050004, x1050005, x1050006, x1050007, H, rfl, rfl⟩); all_goals (obtain _ | kf := n; (· first | (cases H; done) | (simp only [impl_OpenJour.l0] at H; cases H; done)); simp only [impl_OpenJour.l0, Option.bind_some, List.nil_append, if_true, if_false, Bool.false_eq_true, nilB, nilE] at H))
   | ((with_reducible refine nextid_ ?_); (refine nextK_ (P := fun m => impl_OpenJour.l0 m _ _ _ _ _ _ _ _ _ _ _ _ _ _ = some _) H (bsp 68 0 [1, 2, 4, 5, 23]) ?_ ?_ ?_); (conv => whnf); (first | refine ⟨_, _, _, _, _, _, _, _, _, _, _, _, _, _, H, ?_, rfl⟩ | refine ⟨_, _, _, _, _, _, _, _, _, _, _, _, _, _, H, ?_, ?_⟩); all_goals first | omega | rfl | (repeat' (first | rfl | refine own_eq ?_ | refine box_eq ?_ | refine cons_eq ?_ ?_ | refine vi_eq ?_ | simp only [List.length_map, List.length_set, wm_])))
   | ((with_reducible refine exid_ ?_); first
    | (have hk := idH_ (F := fun k => impl_OpenJour.j0 k _ _ _ _ _ _ _ _ _ _ _ _ _ _) H; refine weakK_ (ex := []) (us := []) (bs := []) (ms := (bsp 68 0 [1, 2, 4, 5, 21])) ?_; (conv => whnf); refine ⟨_, _, _, _, _, _, _, _, _, _, _, _, _, _, hk, rfl, rfl⟩)
    | (have hk := idH_ (F := fun k => impl_OpenJour.j2 k _ _ _ _ _ _ _ _ _ _ _ _ _ _ _ _ _) H; refine weakK_ (ex := []) (us := []) (bs := []) (ms := (bsp 68 0 [1, 2, 4, 5, 7, 8, 23, 41])) ?_; (conv => whnf); refine ⟨_, _, _, _, _, _, _, _, _, _, _, _, _, _, _, _, _, hk, rfl, rfl⟩))
   | ((with_reducible refine allid_ ?_); first
    | (intro s h hj; clear H; obtain ⟨x5, x21, x1048000, x1048001, x1048002, x1048003, x1050000, x1050001, x1050002, x1050003, x1050004, x1050005, x1050006, x1050007, H, rfl, rfl⟩ := hj; have hk := suc_ (g := fun k => impl_OpenJour.j0 k _ _ _ _ _ _ _ _ _ _ _ _ _ _) H (by simp only [impl_OpenJour.j0]); obtain ⟨kf, hk⟩ := hk; subst hk; simp only [impl_OpenJour.j0, Option.bind_some, List.nil_append, if_true, if_false, Bool.false_eq_true, nilB, nilE] at H)
    | (intro s h hj; clear H; obtain ⟨x5, x7, x8, x23, x41, x1048000, x1048001, x1048002, x1048003, x1050000, x1050001, x1050002, x1050003, x1050004, x1050005, x1050006, x1050007, H, rfl, rfl⟩ := hj; have hk := suc_ (g := fun k => impl_OpenJour.j2 k _ _ _ _ _ _ _ _ _ _ _ _ _ _ _ _ _) H (by simp only [impl_OpenJour.j2]); obtain ⟨kf, hk⟩ := hk; subst hk; simp only [impl_OpenJour.j2, Option.bind_some, List.nil_append, if_true, if_false, Bool.false_eq_true, nilB, nilE] at H))
   | ((with_reducible refine finid_ ?_); refine finK_ [] ?_; (conv => whnf); replace H := Option.some.inj H; subst H; (conv => whnf); exact feq_ rfl))
end Go.Proofs.YthkepmicdpgbbaaGreatDoor.E
