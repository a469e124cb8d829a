/- Texts of this seat's claims, put together: PkYEi9 -/
import Derived.Test.YthkepmicdpgbbaaGreatDoorPkYzEi8
/- What the functions' codes come to. -/
namespace Go.Proofs.YthkepmicdpgbbaaGreatDoor.E
open Go Go.RowKit Go.Proofs.YthkepmicdpgbbaaGreatDoorW.PrintWords Go.Proofs.YthkepmicdpgbbaaGreatDoor.P
set_option linter.unusedVariables false
set_option linter.unusedSimpArgs false
set_option maxHeartbeats 0
set_option maxRecDepth 100000
theorem gYi9 : (∀ {kf l0 r}, impl_GetRec.f kf l0 = some r → Spec Tryz.prog 13 [.v (.row (List.map e5 l0))] [] (.tup [.v (.i .i64 r.1), .v (.i .i64 r.2.1), .agg [.v (.i .i64 r.2.2.1), .v (.i .i64 r.2.2.2.1), .v (.i .i64 r.2.2.2.2.1), .v (.s r.2.2.2.2.2.1)], .v (.b r.2.2.2.2.2.2)]) []) ∧
  (∀ {kf a0_0 a0_1 a0_2 a0_3 a0_4 a0_5 a1_0 a1_1 a1_2 a1_3 r}, impl_Apply.f kf a0_0 a0_1 a0_2 a0_3 a0_4 a0_5 a1_0 a1_1 a1_2 a1_3 = some r → Spec Tryz.prog 29 [.agg [.v (.i .i64 a0_0), .v (.s a0_1), .v (.i .i64 a0_2), .v (.s a0_3), .v (.i .i64 a0_4), .v (.i .i64 a0_5)], .agg [.v (.i .i64 a1_0), .v (.i .i64 a1_1), .v (.i .i64 a1_2), .v (.s a1_3)]] [] (.tup [.agg [.v (.i .i64 r.1), .v (.s r.2.1), .v (.i .i64 r.2.2.1), .v (.s r.2.2.2.1), .v (.i .i64 r.2.2.2.2.1), .v (.i .i64 r.2.2.2.2.2.1)], .v (.b r.2.2.2.2.2.2)]) []) := by
  refine ⟨@fun kf l0 r H => fn_okF (E := env) Tryz.func13 (by rfl) rfl (n := 68) (by rfl) ?_,
   @fun kf a0_0 a0_1 a0_2 a0_3 a0_4 a0_5 a1_0 a1_1 a1_2 a1_3 r29 H => fn_okF (E := env) Tryz.func29 (by rfl) rfl (n := 68) (by rfl) ?_⟩
  all_goals simp only [impl_GetRec.f, impl_Apply.f, Option.bind_some, List.nil_append, if_true, if_false, Bool.false_eq_true, nilB, nilE] at H
  all_goals repeat' ((conv => whnf); first
   | ((with_reducible have hp := peel_ H); clear H; obtain ⟨_, H⟩ := hp)
   | ((with_reducible have hp := peeln_ H); clear H; obtain ⟨_, H⟩ := hp)
   | (with_reducible replace H := itet_ H)
   | (with_reducible replace H := itef_ H)
   | ((with_reducible refine sideid_ ?_); refine side_ ?_)
   | ((with_reducible refine seqid_ ?_); first
    | ((with_reducible refine scg_ 1 ?_); refine scut_ 1 (fun s h => ∃ x13 x864000 x864001 x864002 x864003 x864004 x864005 x865000 x865001 x865002 x865003, impl_Apply.j0 kf x13 x864000 x864001 x864002 x864003 x864004 x864005 x865000 x865001 x865002 x865003 = some r29 ∧ s = spr 70 0 [(2, .ptr 0 0), (3, .ptr 1 0), (4, .ptr 2 0), (13, .v (.b x13))] ∧ h = [.box 41 [.v (.i .i64 x864000), .v (.s x864001), .v (.i .i64 x864002), .v (.s x864003), .v (.i .i64 x864004), .v (.i .i64 x864005)], .box 25 [.v (.i .i64 x865000), .v (.i .i64 x865001), .v (.i .i64 x865002), .v (.s x865003)], .box 41 [.v (.i .i64 0), .v (.s (⟨#[]⟩ : ByteArray)), .v (.i .i64 0), .v (.s (⟨#[]⟩ : ByteArray)), .v (.i .i64 0), .v (.i .i64 0)]]) ?_ ?_)
    | ((with_reducible refine scg_ 4 ?_); refine scut_ 4 (fun s h => ∃ x16 x864000 x864001 x864002 x864003 x864004 x864005 x865000 x865001 x865002 x865003, impl_Apply.j1 kf x16 x864000 x864001 x864002 x864003 x864004 x864005 x865000 x865001 x865002 x865003 = some r29 ∧ s = spr 70 0 [(2, .ptr 0 0), (3, .ptr 1 0), (4, .ptr 2 0), (16, .v (.b x16))] ∧ h = [.box 41 [.v (.i .i64 x864000), .v (.s x864001), .v (.i .i64 x864002), .v (.s x864003), .v (.i .i64 x864004), .v (.i .i64 x864005)], .box 25 [.v (.i .i64 x865000), .v (.i .i64 x865001), .v (.i .i64 x865002), .v (.s x865003)], .box 41 [.v (.i .i64 0), .v (.s (⟨#[]⟩ : ByteArray)), .v (.i .i64 0), .v (.s (⟨#[]⟩ : ByteArray)), .v (.i .i64 0), .v (.i .i64 0)]]) ?_ ?_)
    | ((with_reducible refine scg_ 6 ?_); refine scut_ 6 (fun s h => ∃ x33 x864000 x864001 x864002 x864003 x864004 x864005 x865000 x865001 x865002 x865003, impl_Apply.j2 kf x33 x864000 x864001 x864002 x864003 x864004 x864005 x865000 x865001 x865002 x865003 = some r29 ∧ s = spr 70 0 [(2, .ptr 0 0), (3, .ptr 1 0), (4, .ptr 2 0), (33, .v (.b x33))] ∧ h = [.box 41 [.v (.i .i64 x864000), .v (.s x864001), .v (.i .i64 x864002), .v (.s x864003), .v (.i .i64 x864004), .v (.i .i64 x864005)], .box 25 [.v (.i .i64 x865000), .v (.i .i64 x865001), .v (.i .i64 x865002), .v (.s x865003)], .box 41 [.v (.i .i64 0), .v (.s (⟨#[]⟩ : ByteArray)), .v (.i .i64 0), .v (.s (⟨#[]⟩ : ByteArray)), .v (.i .i64 0), .v (.i .i64 0)]]) ?_ ?_)
    | (refine sgo_ ?_))
   | ((with_reducible refine brid_ ?_); first
    | (with_reducible refine brct_ ?_)
    | (with_reducible refine brcf_ ?_)
    | (with_reducible refine brt_ ?_)
    | (with_reducible refine brf_ ?_)
    | (refine bra_ H (fun _ H => ?_) (fun _ H => ?_))
    | (refine brna_ H (fun _ H => ?_) (fun _ H => ?_))
    | (refine brt_ ?_)
    | (refine brf_ ?_)
    | (refine bre_ H (fun _ H => ?_) (fun _ H => ?_))
    | (refine brne_ H (fun _ H => ?_) (fun _ H => ?_)))
   | ((with_reducible refine br2id_ ?_); first
    | (refine br2t_ ?_)
    | (refine br2f_ ?_))
   | ((with_reducible refine blkid_ ?_); refine bgo_ ?_)
   | ((with_reducible refine normid_ ?_); first
    | (refine norm_nilapp ?_)
    | (refine norm_appnil ?_)
    | (refine norm_app ?_)
    | (refine norm_t ?_)
    | (refine norm_d ?_)
    | (refine norm_td ?_)
    | (refine norm_set (e := 5) (f := e5) _ rfl ?_)
    | (refine norm_rep (e := 5) (f := e5) _ rfl ?_))
   | ((with_reducible refine elemid_ ?_); refine elema_ (f := e5) 0 (rd _ _) rfl ?_)
   | ((with_reducible refine lenid_ ?_); refine lenm_ ?_)
   | ((with_reducible refine strid_ ?_); first
    | (refine stre_ ?_)
    | (refine stre0_ ?_))
   | ((with_reducible refine callid_ ?_); (first | with_reducible have hp := bnd_ H | have hp := tl_ H); clear H; obtain ⟨_, ht, H⟩ := hp; (first
    | (with_reducible have ht := gYi7.1 ht)
    | (with_reducible have ht := gYi8.2 ht)
    | (with_reducible have ht := gYi8.1 ht)
    | (with_reducible have ht := gYi2.2.2.2.2.1 ht)
    | (with_reducible have ht := gYi2.2.2.2.2.2.1 ht)
    | (with_reducible have ht := gYi1.2.2.2.2.2.1 ht)); refine call_ ht rfl rfl ?_)
   | ((with_reducible refine handid_ ?_); refine handa_ ?_)
   | ((with_reducible refine mkid_ ?_); refine mka_ ?_)
   | ((with_reducible refine exid_ ?_); first
    | (have hk := idH_ (F := fun k => impl_Apply.j0 k _ _ _ _ _ _ _ _ _ _ _) H; refine weakK_ (ex := []) (us := []) (bs := []) (ms := (bsp 70 0 [2, 3, 4, 13])) ?_; (conv => whnf); refine ⟨_, _, _, _, _, _, _, _, _, _, _, hk, rfl, rfl⟩)
    | (have hk := idH_ (F := fun k => impl_Apply.j1 k _ _ _ _ _ _ _ _ _ _ _) H; refine weakK_ (ex := []) (us := []) (bs := []) (ms := (bsp 70 0 [2, 3, 4, 16])) ?_; (conv => whnf); refine ⟨_, _, _, _, _, _, _, _, _, _, _, hk, rfl, rfl⟩)
    | (have hk := idH_ (F := fun k => impl_Apply.j2 k _ _ _ _ _ _ _ _ _ _ _) H; refine weakK_ (ex := []) (us := []) (bs := []) (ms := (bsp 70 0 [2, 3, 4, 33])) ?_; (conv => whnf); refine ⟨_, _, _, _, _, _, _, _, _, _, _, hk, rfl, rfl⟩))
   | ((with_reducible refine allid_ ?_); first
    | (intro s h hj; clear H; obtain ⟨x13, x864000, x864001, x864002, x864003, x864004, x864005, x865000, x865001, x865002, x865003, H, rfl, rfl⟩ := hj; have hk := suc_ (g := fun k => impl_Apply.j0 k _ _ _ _ _ _ _ _ _ _ _) H (by simp only [impl_Apply.j0]); obtain ⟨kf, hk⟩ := hk; subst hk; simp only [impl_Apply.j0, Option.bind_some, List.nil_append, if_true, if_false, Bool.false_eq_true, nilB, nilE] at H)
    | (intro s h hj; clear H; obtain ⟨x16, x864000, x864001, x864002, x864003, x864004, x864005, x865000, x865001, x865002, x865003, H, rfl, rfl⟩ := hj; have hk := suc_ (g := fun k => impl_Apply.j1 k _ _ _ _ _ _ _ _ _ _ _) H (by simp only [impl_Apply.j1]); obtain ⟨kf, hk⟩ := hk; subst hk; simp only [impl_Apply.j1, Option.bind_some, List.nil_append, if_true, if_false, Bool.false_eq_true, nilB, nilE] at H)
    | (intro s h hj; clear H; obtain ⟨x33, x864000, x864001, x864002, x864003, x864004, x864005, x865000, x865001, x865002, x865003, H, rfl, rfl⟩ := hj; have hk := suc_ (g := fun k => impl_Apply.j2 k _ _ _ _ _ _ _ _ _ _ _) H (by simp only [impl_Apply.j2]); obtain ⟨kf, hk⟩ := hk; subst hk; simp only [impl_Apply.j2, Option.bind_some, List.nil_append, if_true, if_false, Bool.false_eq_true, nilB, nilE] at H))
   | ((with_reducible refine finid_ ?_); refine finK_ [] ?_; (conv => whnf); replace H := Option.some.inj H; subst H; (conv => whnf); exact feq_ rfl))
end Go.Proofs.YthkepmicdpgbbaaGreatDoor.E
