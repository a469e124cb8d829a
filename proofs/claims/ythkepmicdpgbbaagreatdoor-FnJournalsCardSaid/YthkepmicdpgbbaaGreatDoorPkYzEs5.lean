/- Texts of this seat's claims, put together: PkYEs5 -/
import Derived.Test.YthkepmicdpgbbaaGreatDoorPkYzEs4
/- What the functions' codes come to. -/
namespace Go.Proofs.YthkepmicdpgbbaaGreatDoor.E
open Go Go.RowKit Go.Proofs.YthkepmicdpgbbaaGreatDoorW.PrintWords Go.Proofs.YthkepmicdpgbbaaGreatDoor.P
set_option linter.unusedVariables false
set_option linter.unusedSimpArgs false
set_option maxHeartbeats 0
set_option maxRecDepth 100000
theorem gYs5 : (∀ {kf a0 r}, spec_ParseConf.f kf a0 = some r → Spec Tryz.prog 107 [.v (.s a0)] [] (.tup [.own 0 (List.map e138 r.1).length, .v (.b r.2)]) [.arr 5 138 false (List.map e138 r.1)]) ∧
  (∀ {s0_0 s0_1 s0_2 l1 r}, spec_l1Int.f s0_0 s0_1 s0_2 l1 = some r → Spec Tryz.prog 43 [.ptr 0 0, .v (.row (List.map e3 l1))] [.box 115 [.v (.row (List.map e5 s0_0)), .v (.i .i64 s0_1), .v (.i .i64 s0_2)]] (.v (.i .i64 r.1)) [.box 115 [.v (.row (List.map e5 s0_0)), .v (.i .i64 r.2.1), .v (.i .i64 r.2.2)]]) ∧
  (∀ {kf l0 r}, spec_ConfText.f kf l0 = some r → Spec Tryz.prog 103 [.v (.row (List.map e138 l0))] [] (.v (.s r)) []) ∧
  (∀ {s0_0 s0_1 s0_2 l1 r}, spec_l1Str.f s0_0 s0_1 s0_2 l1 = some r → Spec Tryz.prog 125 [.ptr 0 0, .v (.row (List.map e9 l1))] [.box 115 [.v (.row (List.map e5 s0_0)), .v (.i .i64 s0_1), .v (.i .i64 s0_2)]] (.v (.s r.1)) [.box 115 [.v (.row (List.map e5 s0_0)), .v (.i .i64 r.2.1), .v (.i .i64 r.2.2)]]) ∧
  (∀ {kf r}, spec_Format.f kf  = some r → Spec Tryz.prog 116 [] [] (.agg [.own 0 (List.map e22 r.1).length, .own 1 (List.map e109 r.2.1).length, .v (.i .i64 r.2.2.1), .v (.b r.2.2.2)]) [.arr 1 22 false (List.map e22 r.1), .arr 2 109 false (List.map e109 r.2.1)]) ∧
  (∀ {s0_0 s0_1 s0_2 a1 r}, spec_l1Once.f s0_0 s0_1 s0_2 a1 = some r → Spec Tryz.prog 51 [.ptr 0 0, .v (.i .i64 a1)] [.box 115 [.v (.row (List.map e5 s0_0)), .v (.i .i64 s0_1), .v (.i .i64 s0_2)]] (.v (.b r.1)) [.box 115 [.v (.row (List.map e5 s0_0)), .v (.i .i64 r.2.1), .v (.i .i64 r.2.2)]]) ∧
  (∀ {kf s0_0 s0_1 s0_2 a1 r}, spec_l1Bytes.f kf s0_0 s0_1 s0_2 a1 = some r → Spec Tryz.prog 123 [.ptr 0 0, .v (.i .i64 a1)] [.box 115 [.v (.row (List.map e5 s0_0)), .v (.i .i64 s0_1), .v (.i .i64 s0_2)]] (.own 1 (List.map e5 r.1).length) [.box 115 [.v (.row (List.map e5 s0_0)), .v (.i .i64 r.2.1), .v (.i .i64 r.2.2)], .arr 1 5 false (List.map e5 r.1)]) := by
  refine ⟨@fun kf a0 r H => fn_okF (E := env) Tryz.func107 (by rfl) rfl (n := 86) (by rfl) ?_,
   @fun s0_0 s0_1 s0_2 l1 r H => fn_okF (E := env) Tryz.func43 (by rfl) rfl (n := 10) (by rfl) ?_,
   @fun kf l0 r103 H => fn_okF (E := env) Tryz.func103 (by rfl) rfl (n := 58) (by rfl) ?_,
   @fun s0_0 s0_1 s0_2 l1 r H => fn_okF (E := env) Tryz.func125 (by rfl) rfl (n := 10) (by rfl) ?_,
   @fun kf r H => fn_okF (E := env) Tryz.func116 (by rfl) rfl (n := 5) (by rfl) ?_,
   @fun s0_0 s0_1 s0_2 a1 r H => fn_okF (E := env) Tryz.func51 (by rfl) rfl (n := 7) (by rfl) ?_,
   @fun kf s0_0 s0_1 s0_2 a1 r H => fn_okF (E := env) Tryz.func123 (by rfl) rfl (n := 18) (by rfl) ?_⟩
  all_goals simp only [spec_ParseConf.f, spec_l1Int.f, spec_ConfText.f, spec_l1Str.f, spec_Format.f, spec_l1Once.f, spec_l1Bytes.f, Option.bind_some, List.nil_append, if_true, if_false, Bool.false_eq_true, nilB, nilE] at H
  all_goals repeat' ((conv => whnf); first
   | ((with_reducible have hp := peel_ H); clear H; obtain ⟨_, H⟩ := hp)
   | ((with_reducible have hp := peeln_ H); clear H; obtain ⟨_, H⟩ := hp)
   | (with_reducible replace H := itet_ H)
   | (with_reducible replace H := itef_ H)
   | ((with_reducible have hk := idH_ (F := fun k => spec_ConfText.j2 k _ _ _) H); clear hk; have hk := suc_ (g := fun k => spec_ConfText.j2 k _ _ _) H (by simp only [spec_ConfText.j2]); obtain ⟨kf, hk⟩ := hk; subst hk; simp only [spec_ConfText.j2, Option.bind_some, List.nil_append, if_true, if_false, Bool.false_eq_true, nilB, nilE] at H)
   | ((with_reducible refine sideid_ ?_); refine side_ ?_)
   | ((with_reducible refine seqid_ ?_); first
    | ((with_reducible refine scg_ 3 ?_); refine scut_ 3 (fun s h => ∃ x0 x3 x4 x12, spec_ConfText.j1 kf x0 x3 x4 x12 = some r103 ∧ s = spr 59 0 [(0, .v (.row (List.map e138 x0))), (3, .v (.s x3)), (4, .v (.i .i64 x4)), (12, .v (.b x12))] ∧ h = []) ?_ ?_)
    | (refine sgo_ ?_))
   | ((with_reducible refine brid_ ?_); first
    | (with_reducible refine brct_ ?_)
    | (with_reducible refine brcf_ ?_)
    | (with_reducible refine brt_ ?_)
    | (with_reducible refine brf_ ?_)
    | (refine bra_ H (fun _ H => ?_) (fun _ H => ?_))
    | (refine brna_ H (fun _ H => ?_) (fun _ H => ?_))
    | (refine brt_ ?_)
    | (refine brf_ ?_)
    | (refine bre_ H (fun _ H => ?_) (fun _ H => ?_))
    | (refine brne_ H (fun _ H => ?_) (fun _ H => ?_)))
   | ((with_reducible refine br2id_ ?_); first
    | (refine br2t_ ?_)
    | (refine br2f_ ?_))
   | ((with_reducible refine blkid_ ?_); refine bgo_ ?_)
   | ((with_reducible refine normid_ ?_); first
    | (refine norm_nilapp ?_)
    | (refine norm_appnil ?_)
    | (refine norm_app ?_)
    | (refine norm_t ?_)
    | (refine norm_d ?_)
    | (refine norm_td ?_)
    | (refine norm_set (e := 5) (f := e5) _ rfl ?_)
    | (refine norm_rep (e := 5) (f := e5) _ rfl ?_)
    | (refine norm_lit (e := 5) (n := 0) (f := e5) [] rfl ?_)
    | (refine norm_lit (e := 5) (n := 1) (f := e5) [_] rfl ?_)
    | (refine norm_set (e := 3) (f := e3) _ rfl ?_)
    | (refine norm_rep (e := 3) (f := e3) _ rfl ?_)
    | (refine norm_lit (e := 3) (n := 4) (f := e3) [_, _, _, _] rfl ?_)
    | (refine norm_set (e := 9) (f := e9) _ rfl ?_)
    | (refine norm_rep (e := 9) (f := e9) _ rfl ?_)
    | (refine norm_set (e := 138) (f := e138) ⟨_, _, _, _, _⟩ rfl ?_)
    | (refine norm_rep (e := 138) (f := e138) ⟨_, _, _, _, _⟩ rfl ?_)
    | (refine norm_lit (e := 138) (n := 0) (f := e138) [] rfl ?_)
    | (refine lit138 _ _ _ _ _ rfl ?_)
    | (refine norm_lit (e := 138) (n := 1) (f := e138) [⟨_, _, _, _, _⟩] rfl ?_))
   | ((with_reducible refine elemid_ ?_); first
    | (refine elema_ (f := e5) 0 (rd _ _) rfl ?_)
    | (refine elema_ (f := e3) 0 (rd _ _) rfl ?_)
    | (refine elema_ (f := e9) ByteArray.empty (rdOf ByteArray.empty _ _) rfl ?_)
    | (refine elema_ (f := e138) z138 (rd_T138 _ _) rfl ?_))
   | ((with_reducible refine lenid_ ?_); refine lenm_ ?_)
   | ((with_reducible refine strid_ ?_); first
    | (refine stre_ ?_)
    | (refine stre0_ ?_))
   | ((with_reducible refine callid_ ?_); (first | with_reducible have hp := bnd_ H | have hp := tl_ H); clear H; obtain ⟨_, ht, H⟩ := hp; (first
    | (with_reducible have ht := gYs3.2.2.2.2.2.1 ht)
    | (with_reducible have ht := gYs4.2.1 ht)
    | (with_reducible have ht := gYs4.2.2.1 ht)
    | (with_reducible have ht := gYs2.2.2.2.2.2.2.1 ht)
    | (with_reducible have ht := gYs4.2.2.2.2.2 ht)
    | (with_reducible have ht := gYs4.2.2.2.1 ht)
    | (with_reducible have ht := gYs4.1 ht)
    | (with_reducible have ht := gYs3.2.2.2.2.2.2 ht)
    | (with_reducible have ht := gYs1.2.1 ht)
    | (with_reducible have ht := gYs2.2.1 ht)); refine call_ ht rfl rfl ?_)
   | ((with_reducible refine handid_ ?_); refine handa_ ?_)
   | ((with_reducible refine mkid_ ?_); refine mka_ ?_)
   | ((with_reducible refine loopid_ ?_); (first
    | ((with_reducible have hk := idH_ (F := fun k => spec_l1Bytes.l0 k _ _ _ _ _ _) H); clear hk; refine loopK_ (fun n s h => ∃ x1 x5 x6 x1001 x1002, spec_l1Bytes.l0 n x1 x5 x6 s0_0 x1001 x1002 = some r ∧ s = spr 20 0 [(0, .ptr 0 0), (1, .v (.i .i64 x1)), (5, .own 1 (List.map e5 x5).length), (6, .v (.i .i64 x6))] ∧ h = [.box 115 [.v (.row (List.map e5 s0_0)), .v (.i .i64 x1001), .v (.i .i64 x1002)], .arr 1 5 false (List.map e5 x5)]) [] [] [] (bsp 20 0 [0, 1, 5, 6]) _ (by (conv => whnf); refine ⟨_, _, _, _, _, H, rfl, rfl⟩) ?_; rintro n s h hn ⟨x1, x5, x6, x1001, x1002, H, rfl, rfl⟩)
    | ((with_reducible have hk := idH_ (F := fun k => spec_ConfText.l0 k _ _ _) H); clear hk; refine loopK_ (fun n s h => ∃ x0 x3 x4, spec_ConfText.l0 n x0 x3 x4 = some r103 ∧ s = spr 59 0 [(0, .v (.row (List.map e138 x0))), (3, .v (.s x3)), (4, .v (.i .i64 x4))] ∧ h = []) [] [] [] (bsp 59 0 [0, 3, 4]) _ (by (conv => whnf); refine ⟨_, _, _, H, rfl, rfl⟩) ?_; rintro n s h hn ⟨x0, x3, x4, H, rfl, rfl⟩)
    | ((with_reducible have hk := idH_ (F := fun k => spec_ParseConf.l0 k _ _ _) H); clear hk; refine loopK_ (fun n s h => ∃ x4 x5 x6, spec_ParseConf.l0 n x4 x5 x6 = some r ∧ s = spr 87 0 [(4, .own 0 (List.map e9 x4).length), (5, .own 1 (List.map e138 x5).length), (6, .v (.i .i64 x6))] ∧ h = [.arr 1 9 false (List.map e9 x4), .arr 5 138 false (List.map e138 x5)]) [] [] [] (bsp 87 0 [4, 5, 6]) _ (by (conv => whnf); refine ⟨_, _, _, H, rfl, rfl⟩) ?_; rintro n s h hn ⟨x4, x5, x6, H, rfl, rfl⟩)
    | ((with_reducible have hk := idH_ (F := fun k => spec_ParseConf.l1 k _ _ _ _ _ _ _) H); clear hk; refine loopK_ (fun n s h => ∃ x4 x5 x6 x7 x8 x9 x10, spec_ParseConf.l1 n x4 x5 x6 x7 x8 x9 x10 = some r ∧ s = spr 87 0 [(4, .own 0 (List.map e9 x4).length), (5, .own 1 (List.map e138 x5).length), (6, .v (.i .i64 x6)), (7, .own 2 (List.map e9 x7).length), (8, .own 3 (List.map e9 x8).length), (9, .own 4 (List.map e3 x9).length), (10, .v (.i .i64 x10))] ∧ h = [.arr 1 9 false (List.map e9 x4), .arr 5 138 false (List.map e138 x5), .arr 1 9 false (List.map e9 x7), .arr 1 9 false (List.map e9 x8), .arr 1 3 false (List.map e3 x9)]) [] [] [] (bsp 87 0 [4, 5, 6, 7, 8, 9, 10]) _ (by (conv => whnf); refine ⟨_, _, _, _, _, _, _, H, rfl, rfl⟩) ?_; rintro n s h hn ⟨x4, x5, x6, x7, x8, x9, x10, H, rfl, rfl⟩)); all_goals (obtain _ | kf := n; (· first | (cases H; done) | (simp only [spec_ConfText.l0, spec_ParseConf.l0, spec_ParseConf.l1, spec_l1Bytes.l0] at H; cases H; done)); simp only [spec_ConfText.l0, spec_ParseConf.l0, spec_ParseConf.l1, spec_l1Bytes.l0, Option.bind_some, List.nil_append, if_true, if_false, Bool.false_eq_true, nilB, nilE] at H))
   | ((with_reducible refine nextid_ ?_); (first
    | (refine nextK_ (P := fun m => spec_l1Bytes.l0 m _ _ _ _ _ _ = some _) H (bsp 20 0 [0, 1, 5, 6]) ?_ ?_ ?_)
    | (refine nextK_ (P := fun m => spec_ConfText.l0 m _ _ _ = some _) H (bsp 59 0 [0, 3, 4]) ?_ ?_ ?_)
    | (refine nextK_ (P := fun m => spec_ParseConf.l0 m _ _ _ = some _) H (bsp 87 0 [4, 5, 6]) ?_ ?_ ?_)
    | (refine nextK_ (P := fun m => spec_ParseConf.l1 m _ _ _ _ _ _ _ = some _) H (bsp 87 0 [4, 5, 6, 7, 8, 9, 10]) ?_ ?_ ?_)); (conv => whnf); (first | refine ⟨_, _, _, H, ?_, rfl⟩ | refine ⟨_, _, _, H, ?_, ?_⟩ | refine ⟨_, _, _, _, _, H, ?_, rfl⟩ | refine ⟨_, _, _, _, _, H, ?_, ?_⟩ | refine ⟨_, _, _, _, _, _, _, H, ?_, rfl⟩ | refine ⟨_, _, _, _, _, _, _, H, ?_, ?_⟩); all_goals first | omega | rfl | (repeat' (first | rfl | refine own_eq ?_ | refine box_eq ?_ | refine cons_eq ?_ ?_ | refine vi_eq ?_ | simp only [List.length_map, List.length_set, wm_])))
   | ((with_reducible refine exid_ ?_); have hk := idH_ (F := fun k => spec_ConfText.j1 k _ _ _ _) H; refine weakK_ (ex := []) (us := []) (bs := []) (ms := (bsp 59 0 [0, 3, 4, 12])) ?_; (conv => whnf); refine ⟨_, _, _, _, hk, rfl, rfl⟩)
   | ((with_reducible refine allid_ ?_); intro s h hj; clear H; obtain ⟨x0, x3, x4, x12, H, rfl, rfl⟩ := hj; have hk := suc_ (g := fun k => spec_ConfText.j1 k _ _ _ _) H (by simp only [spec_ConfText.j1]); obtain ⟨kf, hk⟩ := hk; subst hk; simp only [spec_ConfText.j1, Option.bind_some, List.nil_append, if_true, if_false, Bool.false_eq_true, nilB, nilE] at H)
   | ((with_reducible refine finid_ ?_); refine finK_ [] ?_; (conv => whnf); replace H := Option.some.inj H; subst H; (conv => whnf); exact feq_ rfl))
end Go.Proofs.YthkepmicdpgbbaaGreatDoor.E
