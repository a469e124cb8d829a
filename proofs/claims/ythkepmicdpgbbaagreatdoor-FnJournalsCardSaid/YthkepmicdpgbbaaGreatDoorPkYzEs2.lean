/- Texts of this seat's claims, put together: PkYEs2 -/
import Derived.Test.YthkepmicdpgbbaaGreatDoorPkYzEs1
/- What the functions' codes come to. -/
namespace Go.Proofs.YthkepmicdpgbbaaGreatDoor.E
open Go Go.RowKit Go.Proofs.YthkepmicdpgbbaaGreatDoorW.PrintWords Go.Proofs.YthkepmicdpgbbaaGreatDoor.P
set_option linter.unusedVariables false
set_option linter.unusedSimpArgs false
set_option maxHeartbeats 0
set_option maxRecDepth 100000
theorem gYs2 : (∀ {kf a0 r}, spec_l1Name.f kf a0 = some r → Spec Tryz.prog 145 [.v (.s a0)] [] (.v (.b r)) []) ∧
  (∀ {kf a0 a1 r}, spec_ParseNum.f kf a0 a1 = some r → Spec Tryz.prog 136 [.v (.s a0), .v (.i .i64 a1)] [] (.tup [.v (.i .i64 r.1), .v (.b r.2)]) []) ∧
  (∀ {a0 r}, spec_l4Word.f a0 = some r → Spec Tryz.prog 100 [.v (.i .i64 a0)] [] (.v (.b r)) []) ∧
  (∀ {kf l0 a1 r}, spec_PutText.f kf l0 a1 = some r → Spec Tryz.prog 101 [.v (.row (List.map e5 l0)), .v (.s a1)] [] (.own 0 (List.map e5 r).length) [.arr 1 5 false (List.map e5 r)]) ∧
  (∀ {kf l0 a1 r}, spec_GetText.f kf l0 a1 = some r → Spec Tryz.prog 59 [.v (.row (List.map e5 l0)), .v (.i .i64 a1)] [] (.tup [.v (.s r.1), .v (.i .i64 r.2.1), .v (.b r.2.2)]) []) ∧
  (∀ {kf l0_0 l0_1 a0_2 a0_3 r}, spec_DiskOk.f kf l0_0 l0_1 a0_2 a0_3 = some r → Spec Tryz.prog 76 [.agg [.v (.row (List.map e22 l0_0)), .v (.row (List.map e109 l0_1)), .v (.i .i64 a0_2), .v (.b a0_3)]] [] (.v (.b r)) []) ∧
  (∀ {kf a0 a1 r}, spec_HeadOf.f kf a0 a1 = some r → Spec Tryz.prog 115 [.v (.i .i64 a0), .v (.i .i64 a1)] [] (.own 0 (List.map e5 r).length) [.arr 1 5 false (List.map e5 r)]) ∧
  (∀ {s0_0 s0_1 s0_2 s0_3 r}, spec_l2Fuse.f s0_0 s0_1 s0_2 s0_3 = some r → Spec Tryz.prog 120 [.ptr 0 0] [.box 46 [.own 1 (List.map e22 s0_0).length, .own 2 (List.map e109 s0_1).length, .v (.i .i64 s0_2), .v (.b s0_3)], .arr 1 22 false (List.map e22 s0_0), .arr 2 109 false (List.map e109 s0_1)] (.v (.b r.1)) [.box 46 [.own 1 (List.map e22 s0_0).length, .own 2 (List.map e109 s0_1).length, .v (.i .i64 r.2.1), .v (.b r.2.2)], .arr 1 22 false (List.map e22 s0_0), .arr 2 109 false (List.map e109 s0_1)]) := by
  refine ⟨@fun kf a0 r H => fn_okF (E := env) Tryz.func145 (by rfl) rfl (n := 22) (by rfl) ?_,
   @fun kf a0 a1 r136 H => fn_okF (E := env) Tryz.func136 (by rfl) rfl (n := 52) (by rfl) ?_,
   @fun a0 r H => fn_okF (E := env) Tryz.func100 (by rfl) rfl (n := 4) (by rfl) ?_,
   @fun kf l0 a1 r H => fn_okF (E := env) Tryz.func101 (by rfl) rfl (n := 19) (by rfl) ?_,
   @fun kf l0 a1 r59 H => fn_okF (E := env) Tryz.func59 (by rfl) rfl (n := 52) (by rfl) ?_,
   @fun kf l0_0 l0_1 a0_2 a0_3 r H => fn_okF (E := env) Tryz.func76 (by rfl) rfl (n := 62) (by rfl) ?_,
   @fun kf a0 a1 r115 H => fn_okF (E := env) Tryz.func115 (by rfl) rfl (n := 22) (by rfl) ?_,
   @fun s0_0 s0_1 s0_2 s0_3 r H => fn_okF (E := env) Tryz.func120 (by rfl) rfl (n := 26) (by rfl) ?_⟩
  all_goals simp only [spec_l1Name.f, spec_ParseNum.f, spec_l4Word.f, spec_PutText.f, spec_GetText.f, spec_DiskOk.f, spec_HeadOf.f, spec_l2Fuse.f, Option.bind_some, List.nil_append, if_true, if_false, Bool.false_eq_true, nilB, nilE] at H
  all_goals repeat' ((conv => whnf); first
   | ((with_reducible have hp := peel_ H); clear H; obtain ⟨_, H⟩ := hp)
   | ((with_reducible have hp := peeln_ H); clear H; obtain ⟨_, H⟩ := hp)
   | (with_reducible replace H := itet_ H)
   | (with_reducible replace H := itef_ H)
   | ((with_reducible refine sideid_ ?_); refine side_ ?_)
   | ((with_reducible refine seqid_ ?_); first
    | ((with_reducible refine scg_ 1 ?_); refine scut_ 1 (fun s h => ∃ x0 x1 x13, spec_HeadOf.j0 kf x0 x1 x13 = some r115 ∧ s = spr 24 0 [(0, .v (.i .i64 x0)), (1, .v (.i .i64 x1)), (13, .v (.b x13))] ∧ h = []) ?_ ?_)
    | ((with_reducible refine scg_ 1 ?_); refine scut_ 1 (fun s h => ∃ x0 x1 x15, spec_GetText.j0 kf x0 x1 x15 = some r59 ∧ s = spr 54 0 [(0, .v (.row (List.map e5 x0))), (1, .v (.i .i64 x1)), (15, .v (.b x15))] ∧ h = []) ?_ ?_)
    | ((with_reducible refine scg_ 1 ?_); refine scut_ 1 (fun s h => ∃ x0 x1 x29, spec_ParseNum.j0 kf x0 x1 x29 = some r136 ∧ s = spr 54 0 [(0, .v (.s x0)), (1, .v (.i .i64 x1)), (29, .v (.b x29))] ∧ h = []) ?_ ?_)
    | (refine sgo_ ?_))
   | ((with_reducible refine brid_ ?_); first
    | (with_reducible refine brct_ ?_)
    | (with_reducible refine brcf_ ?_)
    | (with_reducible refine brt_ ?_)
    | (with_reducible refine brf_ ?_)
    | (refine bra_ H (fun _ H => ?_) (fun _ H => ?_))
    | (refine brna_ H (fun _ H => ?_) (fun _ H => ?_))
    | (refine brt_ ?_)
    | (refine brf_ ?_)
    | (refine bre_ H (fun _ H => ?_) (fun _ H => ?_))
    | (refine brne_ H (fun _ H => ?_) (fun _ H => ?_)))
   | ((with_reducible refine br2id_ ?_); first
    | (refine br2t_ ?_)
    | (refine br2f_ ?_))
   | ((with_reducible refine blkid_ ?_); refine bgo_ ?_)
   | ((with_reducible refine normid_ ?_); first
    | (refine norm_nilapp ?_)
    | (refine norm_appnil ?_)
    | (refine norm_app ?_)
    | (refine norm_t ?_)
    | (refine norm_d ?_)
    | (refine norm_td ?_)
    | (refine norm_set (e := 5) (f := e5) _ rfl ?_)
    | (refine norm_rep (e := 5) (f := e5) _ rfl ?_)
    | (refine norm_set (e := 22) (f := e22) _ rfl ?_)
    | (refine norm_rep (e := 22) (f := e22) _ rfl ?_)
    | (refine norm_rep (e := 22) (f := e22) [] rfl ?_)
    | (refine norm_set (e := 22) (f := e22) [] rfl ?_)
    | (refine norm_set (e := 109) (f := e109) ⟨_, _⟩ rfl ?_)
    | (refine norm_rep (e := 109) (f := e109) ⟨_, _⟩ rfl ?_)
    | (refine norm_rep (e := 109) (f := e109) ⟨_, []⟩ rfl ?_)
    | (refine norm_set (e := 109) (f := e109) ⟨_, []⟩ rfl ?_)
    | (refine norm_lit (e := 5) (n := 0) (f := e5) [] rfl ?_)
    | (refine norm_lit (e := 5) (n := 1) (f := e5) [_] rfl ?_))
   | ((with_reducible refine elemid_ ?_); first
    | (refine elema_ (f := e5) 0 (rd _ _) rfl ?_)
    | (refine elema_ (f := e22) [] (rd_L6 _ _) rfl ?_)
    | (refine elema_ (f := e109) z109 (rd_T109 _ _) rfl ?_))
   | ((with_reducible refine lenid_ ?_); refine lenm_ ?_)
   | ((with_reducible refine strid_ ?_); first
    | (refine stre_ ?_)
    | (refine stre0_ ?_))
   | ((with_reducible refine callid_ ?_); (first | with_reducible have hp := bnd_ H | have hp := tl_ H); clear H; obtain ⟨_, ht, H⟩ := hp; (first
    | (with_reducible have ht := gYs1.2.2.1 ht)
    | (with_reducible have ht := gYs1.2.2.2.1 ht)
    | (with_reducible have ht := gYs1.2.2.2.2.1 ht)
    | (with_reducible have ht := gYs1.1 ht)); refine call_ ht rfl rfl ?_)
   | ((with_reducible refine handid_ ?_); refine handa_ ?_)
   | ((with_reducible refine mkid_ ?_); refine mka_ ?_)
   | ((with_reducible refine loopid_ ?_); (first
    | ((with_reducible have hk := idH_ (F := fun k => spec_DiskOk.l0 k _ _ _ _ _) H); clear hk; refine loopK_ (fun n s h => ∃ x3 x760000 x760001 x760002 x760003, spec_DiskOk.l0 n x3 x760000 x760001 x760002 x760003 = some r ∧ s = spr 63 0 [(1, .ptr 0 0), (3, .v (.i .i64 x3))] ∧ h = [.box 46 [.v (.row (List.map e22 x760000)), .v (.row (List.map e109 x760001)), .v (.i .i64 x760002), .v (.b x760003)]]) [] [] [] (bsp 63 0 [1, 3]) _ (by (conv => whnf); refine ⟨_, _, _, _, _, H, rfl, rfl⟩) ?_; rintro n s h hn ⟨x3, x760000, x760001, x760002, x760003, H, rfl, rfl⟩)
    | ((with_reducible have hk := idH_ (F := fun k => spec_DiskOk.l1 k _ _ _ _ _) H); clear hk; refine loopK_ (fun n s h => ∃ x4 x760000 x760001 x760002 x760003, spec_DiskOk.l1 n x4 x760000 x760001 x760002 x760003 = some r ∧ s = spr 63 0 [(1, .ptr 0 0), (4, .v (.i .i64 x4))] ∧ h = [.box 46 [.v (.row (List.map e22 x760000)), .v (.row (List.map e109 x760001)), .v (.i .i64 x760002), .v (.b x760003)]]) [] [] [] (bsp 63 0 [1, 4]) _ (by (conv => whnf); refine ⟨_, _, _, _, _, H, rfl, rfl⟩) ?_; rintro n s h hn ⟨x4, x760000, x760001, x760002, x760003, H, rfl, rfl⟩)
    | ((with_reducible have hk := idH_ (F := fun k => spec_ParseNum.l0 k _ _ _ _) H); clear hk; refine loopK_ (fun n s h => ∃ x0 x1 x6 x7, spec_ParseNum.l0 n x0 x1 x6 x7 = some r136 ∧ s = spr 54 0 [(0, .v (.s x0)), (1, .v (.i .i64 x1)), (6, .v (.i .i64 x6)), (7, .v (.i .i64 x7))] ∧ h = []) [] [] [] (bsp 54 0 [0, 1, 6, 7]) _ (by (conv => whnf); refine ⟨_, _, _, _, H, rfl, rfl⟩) ?_; rintro n s h hn ⟨x0, x1, x6, x7, H, rfl, rfl⟩)
    | ((with_reducible have hk := idH_ (F := fun k => spec_l1Name.l0 k _ _) H); clear hk; refine loopK_ (fun n s h => ∃ x0 x3, spec_l1Name.l0 n x0 x3 = some r ∧ s = spr 23 0 [(0, .v (.s x0)), (3, .v (.i .i64 x3))] ∧ h = []) [] [] [] (bsp 23 0 [0, 3]) _ (by (conv => whnf); refine ⟨_, _, H, rfl, rfl⟩) ?_; rintro n s h hn ⟨x0, x3, H, rfl, rfl⟩)); all_goals (obtain _ | kf := n; (· first | (cases H; done) | (simp only [spec_DiskOk.l0, spec_DiskOk.l1, spec_ParseNum.l0, spec_l1Name.l0] at H; cases H; done)); simp only [spec_DiskOk.l0, spec_DiskOk.l1, spec_ParseNum.l0, spec_l1Name.l0, Option.bind_some, List.nil_append, if_true, if_false, Bool.false_eq_true, nilB, nilE] at H))
   | ((with_reducible refine nextid_ ?_); (first
    | (refine nextK_ (P := fun m => spec_DiskOk.l0 m _ _ _ _ _ = some _) H (bsp 63 0 [1, 3]) ?_ ?_ ?_)
    | (refine nextK_ (P := fun m => spec_DiskOk.l1 m _ _ _ _ _ = some _) H (bsp 63 0 [1, 4]) ?_ ?_ ?_)
    | (refine nextK_ (P := fun m => spec_ParseNum.l0 m _ _ _ _ = some _) H (bsp 54 0 [0, 1, 6, 7]) ?_ ?_ ?_)
    | (refine nextK_ (P := fun m => spec_l1Name.l0 m _ _ = some _) H (bsp 23 0 [0, 3]) ?_ ?_ ?_)); (conv => whnf); (first | refine ⟨_, _, H, ?_, rfl⟩ | refine ⟨_, _, H, ?_, ?_⟩ | refine ⟨_, _, _, _, H, ?_, rfl⟩ | refine ⟨_, _, _, _, H, ?_, ?_⟩ | refine ⟨_, _, _, _, _, H, ?_, rfl⟩ | refine ⟨_, _, _, _, _, H, ?_, ?_⟩); all_goals first | omega | rfl | (repeat' (first | rfl | refine own_eq ?_ | refine box_eq ?_ | refine cons_eq ?_ ?_ | refine vi_eq ?_ | simp only [List.length_map, List.length_set, wm_])))
   | ((with_reducible refine exid_ ?_); first
    | (have hk := idH_ (F := fun k => spec_HeadOf.j0 k _ _ _) H; refine weakK_ (ex := []) (us := []) (bs := []) (ms := (bsp 24 0 [0, 1, 13])) ?_; (conv => whnf); refine ⟨_, _, _, hk, rfl, rfl⟩)
    | (have hk := idH_ (F := fun k => spec_GetText.j0 k _ _ _) H; refine weakK_ (ex := []) (us := []) (bs := []) (ms := (bsp 54 0 [0, 1, 15])) ?_; (conv => whnf); refine ⟨_, _, _, hk, rfl, rfl⟩)
    | (have hk := idH_ (F := fun k => spec_ParseNum.j0 k _ _ _) H; refine weakK_ (ex := []) (us := []) (bs := []) (ms := (bsp 54 0 [0, 1, 29])) ?_; (conv => whnf); refine ⟨_, _, _, hk, rfl, rfl⟩))
   | ((with_reducible refine allid_ ?_); first
    | (intro s h hj; clear H; obtain ⟨x0, x1, x13, H, rfl, rfl⟩ := hj; have hk := suc_ (g := fun k => spec_HeadOf.j0 k _ _ _) H (by simp only [spec_HeadOf.j0]); obtain ⟨kf, hk⟩ := hk; subst hk; simp only [spec_HeadOf.j0, Option.bind_some, List.nil_append, if_true, if_false, Bool.false_eq_true, nilB, nilE] at H)
    | (intro s h hj; clear H; obtain ⟨x0, x1, x15, H, rfl, rfl⟩ := hj; have hk := suc_ (g := fun k => spec_GetText.j0 k _ _ _) H (by simp only [spec_GetText.j0]); obtain ⟨kf, hk⟩ := hk; subst hk; simp only [spec_GetText.j0, Option.bind_some, List.nil_append, if_true, if_false, Bool.false_eq_true, nilB, nilE] at H)
    | (intro s h hj; clear H; obtain ⟨x0, x1, x29, H, rfl, rfl⟩ := hj; have hk := suc_ (g := fun k => spec_ParseNum.j0 k _ _ _) H (by simp only [spec_ParseNum.j0]); obtain ⟨kf, hk⟩ := hk; subst hk; simp only [spec_ParseNum.j0, Option.bind_some, List.nil_append, if_true, if_false, Bool.false_eq_true, nilB, nilE] at H))
   | ((with_reducible refine finid_ ?_); refine finK_ [] ?_; (conv => whnf); replace H := Option.some.inj H; subst H; (conv => whnf); exact feq_ rfl))
end Go.Proofs.YthkepmicdpgbbaaGreatDoor.E
