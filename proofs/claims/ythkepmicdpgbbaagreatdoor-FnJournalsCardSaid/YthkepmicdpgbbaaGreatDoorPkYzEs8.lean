/- Texts of this seat's claims, put together: PkYEs8 -/
import Derived.Test.YthkepmicdpgbbaaGreatDoorPkYzEs7
/- What the functions' codes come to. -/
namespace Go.Proofs.YthkepmicdpgbbaaGreatDoor.E
open Go Go.RowKit Go.Proofs.YthkepmicdpgbbaaGreatDoorW.PrintWords Go.Proofs.YthkepmicdpgbbaaGreatDoor.P
set_option linter.unusedVariables false
set_option linter.unusedSimpArgs false
set_option maxHeartbeats 0
set_option maxRecDepth 100000
theorem gYs8 : (∀ {kf a0 a1 a2_0 a2_1 a2_2 a2_3 r}, spec_PutRec.f kf a0 a1 a2_0 a2_1 a2_2 a2_3 = some r → Spec Tryz.prog 48 [.v (.i .i64 a0), .v (.i .i64 a1), .agg [.v (.i .i64 a2_0), .v (.i .i64 a2_1), .v (.i .i64 a2_2), .v (.s a2_3)]] [] (.own 0 (List.map e5 r).length) [.arr 1 5 false (List.map e5 r)]) ∧
  (∀ {kf a0_0 a0_1 a0_2 a0_3 a0_4 a0_5 a1_0 a1_1 a1_2 a1_3 r}, spec_Apply.f kf a0_0 a0_1 a0_2 a0_3 a0_4 a0_5 a1_0 a1_1 a1_2 a1_3 = some r → Spec Tryz.prog 69 [.agg [.v (.i .i64 a0_0), .v (.s a0_1), .v (.i .i64 a0_2), .v (.s a0_3), .v (.i .i64 a0_4), .v (.i .i64 a0_5)], .agg [.v (.i .i64 a1_0), .v (.i .i64 a1_1), .v (.i .i64 a1_2), .v (.s a1_3)]] [] (.tup [.agg [.v (.i .i64 r.1), .v (.s r.2.1), .v (.i .i64 r.2.2.1), .v (.s r.2.2.2.1), .v (.i .i64 r.2.2.2.2.1), .v (.i .i64 r.2.2.2.2.2.1)], .v (.b r.2.2.2.2.2.2)]) []) ∧
  (∀ {kf s0_0 s0_1 s0_2 r}, spec_l4Draw.f kf s0_0 s0_1 s0_2 = some r → Spec Tryz.prog 50 [.ptr 0 0] [.box 115 [.v (.row (List.map e5 s0_0)), .v (.i .i64 s0_1), .v (.i .i64 s0_2)]] (.agg [.v (.i .i64 r.1), .v (.i .i64 r.2.1), .v (.i .i64 r.2.2.1), .v (.s r.2.2.2.1)]) [.box 115 [.v (.row (List.map e5 s0_0)), .v (.i .i64 r.2.2.2.2.1), .v (.i .i64 r.2.2.2.2.2)]]) ∧
  (∀ {kf s0_0 s0_1 s0_2 r}, spec_l3Text.f kf s0_0 s0_1 s0_2 = some r → Spec Tryz.prog 97 [.ptr 0 0] [.box 115 [.v (.row (List.map e5 s0_0)), .v (.i .i64 s0_1), .v (.i .i64 s0_2)]] (.v (.s r.1)) [.box 115 [.v (.row (List.map e5 s0_0)), .v (.i .i64 r.2.1), .v (.i .i64 r.2.2)]]) := by
  refine ⟨@fun kf a0 a1 a2_0 a2_1 a2_2 a2_3 r48 H => fn_okF (E := env) Tryz.func48 (by rfl) rfl (n := 45) (by rfl) ?_,
   @fun kf a0_0 a0_1 a0_2 a0_3 a0_4 a0_5 a1_0 a1_1 a1_2 a1_3 r69 H => fn_okF (E := env) Tryz.func69 (by rfl) rfl (n := 60) (by rfl) ?_,
   @fun kf s0_0 s0_1 s0_2 r H => fn_okF (E := env) Tryz.func50 (by rfl) rfl (n := 24) (by rfl) ?_,
   @fun kf s0_0 s0_1 s0_2 r H => fn_okF (E := env) Tryz.func97 (by rfl) rfl (n := 10) (by rfl) ?_⟩
  all_goals simp only [spec_PutRec.f, spec_Apply.f, spec_l4Draw.f, spec_l3Text.f, Option.bind_some, List.nil_append, if_true, if_false, Bool.false_eq_true, nilB, nilE] at H
  all_goals repeat' ((conv => whnf); first
   | ((with_reducible have hp := peel_ H); clear H; obtain ⟨_, H⟩ := hp)
   | ((with_reducible have hp := peeln_ H); clear H; obtain ⟨_, H⟩ := hp)
   | (with_reducible replace H := itet_ H)
   | (with_reducible replace H := itef_ H)
   | ((with_reducible refine sideid_ ?_); refine side_ ?_)
   | ((with_reducible refine seqid_ ?_); first
    | ((with_reducible refine scg_ 1 ?_); refine scut_ 1 (fun s h => ∃ x14 x790000 x790001 x790002 x790003 x790004 x790005 x791000 x791001 x791002 x791003, spec_Apply.j0 kf x14 x790000 x790001 x790002 x790003 x790004 x790005 x791000 x791001 x791002 x791003 = some r69 ∧ s = spr 62 0 [(2, .ptr 0 0), (3, .ptr 1 0), (4, .ptr 2 0), (14, .v (.b x14))] ∧ h = [.box 41 [.v (.i .i64 x790000), .v (.s x790001), .v (.i .i64 x790002), .v (.s x790003), .v (.i .i64 x790004), .v (.i .i64 x790005)], .box 25 [.v (.i .i64 x791000), .v (.i .i64 x791001), .v (.i .i64 x791002), .v (.s x791003)], .box 41 [.v (.i .i64 0), .v (.s (⟨#[]⟩ : ByteArray)), .v (.i .i64 0), .v (.s (⟨#[]⟩ : ByteArray)), .v (.i .i64 0), .v (.i .i64 0)]]) ?_ ?_)
    | ((with_reducible refine scg_ 1 ?_); refine scut_ 1 (fun s h => ∃ x0 x1 x20 x513000 x513001 x513002 x513003, spec_PutRec.j0 kf x0 x1 x20 x513000 x513001 x513002 x513003 = some r48 ∧ s = spr 48 0 [(0, .v (.i .i64 x0)), (1, .v (.i .i64 x1)), (5, .ptr 0 0), (20, .v (.b x20))] ∧ h = [.box 25 [.v (.i .i64 x513000), .v (.i .i64 x513001), .v (.i .i64 x513002), .v (.s x513003)]]) ?_ ?_)
    | (refine sgo_ ?_))
   | ((with_reducible refine brid_ ?_); first
    | (with_reducible refine brct_ ?_)
    | (with_reducible refine brcf_ ?_)
    | (with_reducible refine brt_ ?_)
    | (with_reducible refine brf_ ?_)
    | (refine bra_ H (fun _ H => ?_) (fun _ H => ?_))
    | (refine brna_ H (fun _ H => ?_) (fun _ H => ?_))
    | (refine brt_ ?_)
    | (refine brf_ ?_)
    | (refine bre_ H (fun _ H => ?_) (fun _ H => ?_))
    | (refine brne_ H (fun _ H => ?_) (fun _ H => ?_)))
   | ((with_reducible refine br2id_ ?_); first
    | (refine br2t_ ?_)
    | (refine br2f_ ?_))
   | ((with_reducible refine blkid_ ?_); refine bgo_ ?_)
   | ((with_reducible refine normid_ ?_); first
    | (refine norm_nilapp ?_)
    | (refine norm_appnil ?_)
    | (refine norm_app ?_)
    | (refine norm_t ?_)
    | (refine norm_d ?_)
    | (refine norm_td ?_)
    | (refine norm_set (e := 9) (f := e9) _ rfl ?_)
    | (refine norm_rep (e := 9) (f := e9) _ rfl ?_)
    | (refine norm_lit (e := 9) (n := 18) (f := e9) [_, _, _, _, _, _, _, _, _, _, _, _, _, _, _, _, _, _] rfl ?_)
    | (refine norm_set (e := 138) (f := e138) ⟨_, _, _, _, _⟩ rfl ?_)
    | (refine norm_rep (e := 138) (f := e138) ⟨_, _, _, _, _⟩ rfl ?_)
    | (refine norm_set (e := 5) (f := e5) _ rfl ?_)
    | (refine norm_rep (e := 5) (f := e5) _ rfl ?_)
    | (refine norm_lit (e := 5) (n := 0) (f := e5) [] rfl ?_)
    | (refine norm_lit (e := 5) (n := 1) (f := e5) [_] rfl ?_))
   | ((with_reducible refine elemid_ ?_); first
    | (refine elema_ (f := e9) ByteArray.empty (rdOf ByteArray.empty _ _) rfl ?_)
    | (refine elema_ (f := e138) z138 (rd_T138 _ _) rfl ?_)
    | (refine elema_ (f := e5) 0 (rd _ _) rfl ?_))
   | ((with_reducible refine lenid_ ?_); refine lenm_ ?_)
   | ((with_reducible refine strid_ ?_); first
    | (refine stre_ ?_)
    | (refine stre0_ ?_))
   | ((with_reducible refine callid_ ?_); (first | with_reducible have hp := bnd_ H | have hp := tl_ H); clear H; obtain ⟨_, ht, H⟩ := hp; (first
    | (with_reducible have ht := gYs5.2.2.2.2.2.1 ht)
    | (with_reducible have ht := gYs4.2.2.2.1 ht)
    | (with_reducible have ht := gYs5.2.2.1 ht)
    | (with_reducible have ht := gYs7.2.2.1 ht)
    | (with_reducible have ht := gYs5.2.2.2.1 ht)
    | (with_reducible have ht := gYs7.1 ht)
    | (with_reducible have ht := gYs7.2.1 ht)
    | (with_reducible have ht := gYs1.2.2.1 ht)
    | (with_reducible have ht := gYs1.2.2.2.1 ht)
    | (with_reducible have ht := gYs2.2.2.1 ht)
    | (with_reducible have ht := gYs2.2.2.2.1 ht)); refine call_ ht rfl rfl ?_)
   | ((with_reducible refine handid_ ?_); refine handa_ ?_)
   | ((with_reducible refine mkid_ ?_); refine mka_ ?_)
   | ((with_reducible refine exid_ ?_); first
    | (have hk := idH_ (F := fun k => spec_Apply.j0 k _ _ _ _ _ _ _ _ _ _ _) H; refine weakK_ (ex := []) (us := []) (bs := []) (ms := (bsp 62 0 [2, 3, 4, 14])) ?_; (conv => whnf); refine ⟨_, _, _, _, _, _, _, _, _, _, _, hk, rfl, rfl⟩)
    | (have hk := idH_ (F := fun k => spec_PutRec.j0 k _ _ _ _ _ _ _) H; refine weakK_ (ex := []) (us := []) (bs := []) (ms := (bsp 48 0 [0, 1, 5, 20])) ?_; (conv => whnf); refine ⟨_, _, _, _, _, _, _, hk, rfl, rfl⟩))
   | ((with_reducible refine allid_ ?_); first
    | (intro s h hj; clear H; obtain ⟨x14, x790000, x790001, x790002, x790003, x790004, x790005, x791000, x791001, x791002, x791003, H, rfl, rfl⟩ := hj; have hk := suc_ (g := fun k => spec_Apply.j0 k _ _ _ _ _ _ _ _ _ _ _) H (by simp only [spec_Apply.j0]); obtain ⟨kf, hk⟩ := hk; subst hk; simp only [spec_Apply.j0, Option.bind_some, List.nil_append, if_true, if_false, Bool.false_eq_true, nilB, nilE] at H)
    | (intro s h hj; clear H; obtain ⟨x0, x1, x20, x513000, x513001, x513002, x513003, H, rfl, rfl⟩ := hj; have hk := suc_ (g := fun k => spec_PutRec.j0 k _ _ _ _ _ _ _) H (by simp only [spec_PutRec.j0]); obtain ⟨kf, hk⟩ := hk; subst hk; simp only [spec_PutRec.j0, Option.bind_some, List.nil_append, if_true, if_false, Bool.false_eq_true, nilB, nilE] at H))
   | ((with_reducible refine finid_ ?_); refine finK_ [] ?_; (conv => whnf); replace H := Option.some.inj H; subst H; (conv => whnf); exact feq_ rfl))
end Go.Proofs.YthkepmicdpgbbaaGreatDoor.E
