/- Texts of this seat's claims, put together: PkYEs1 -/
import Derived.Test.YthkepmicdpgbbaaGreatDoorPkYzB7
/- What the functions' codes come to. -/
namespace Go.Proofs.YthkepmicdpgbbaaGreatDoor.E
open Go Go.RowKit Go.Proofs.YthkepmicdpgbbaaGreatDoorW.PrintWords Go.Proofs.YthkepmicdpgbbaaGreatDoor.P
set_option linter.unusedVariables false
set_option linter.unusedSimpArgs false
set_option maxHeartbeats 0
set_option maxRecDepth 100000
theorem gYs1 : (∀ {a0 a1 a2 r}, spec_l1In.f a0 a1 a2 = some r → Spec Tryz.prog 63 [.v (.i .i64 a0), .v (.i .i64 a1), .v (.i .i64 a2)] [] (.v (.b r)) []) ∧
  (∀ {kf a0 a1 r}, spec_l3Split.f kf a0 a1 = some r → Spec Tryz.prog 135 [.v (.s a0), .v (.i .u8 a1)] [] (.own 0 (List.map e9 r).length) [.arr 1 9 false (List.map e9 r)]) ∧
  (∀ {l0 a1 r}, spec_PutWord.f l0 a1 = some r → Spec Tryz.prog 52 [.v (.row (List.map e5 l0)), .v (.i .i64 a1)] [] (.own 0 (List.map e5 r).length) [.arr 1 5 false (List.map e5 r)]) ∧
  (∀ {kf l0 r}, spec_Sum.f kf l0 = some r → Spec Tryz.prog 53 [.v (.row (List.map e5 l0))] [] (.v (.i .i64 r)) []) ∧
  (∀ {kf a0 r}, spec_TextOk.f kf a0 = some r → Spec Tryz.prog 105 [.v (.s a0)] [] (.v (.b r)) []) ∧
  (∀ {l0 a1 r}, spec_GetWord.f l0 a1 = some r → Spec Tryz.prog 58 [.v (.row (List.map e5 l0)), .v (.i .i64 a1)] [] (.tup [.v (.i .i64 r.1), .v (.i .i64 r.2.1), .v (.b r.2.2)]) []) ∧
  (∀ {l0 l1 r}, spec_l1Same.f l0 l1 = some r → Spec Tryz.prog 60 [.v (.row (List.map e5 l0)), .v (.row (List.map e5 l1))] [] (.v (.b r)) []) ∧
  (∀ {a0 a1 r}, spec_l5At.f a0 a1 = some r → Spec Tryz.prog 68 [.v (.i .i64 a0), .v (.i .i64 a1)] [] (.v (.i .i64 r)) []) ∧
  (∀ {s0_0 s0_1 s0_2 s0_3 r}, spec_l2Fuse.f s0_0 s0_1 s0_2 s0_3 = some r → Spec Tryz.prog 120 [.ptr 0 0] [.box 46 [.v (.row (List.map e22 s0_0)), .v (.row (List.map e109 s0_1)), .v (.i .i64 s0_2), .v (.b s0_3)]] (.v (.b r.1)) [.box 46 [.v (.row (List.map e22 s0_0)), .v (.row (List.map e109 s0_1)), .v (.i .i64 r.2.1), .v (.b r.2.2)]]) ∧
  (∀ {kf a0_0 a0_1 a0_2 a0_3 a0_4 a0_5 r}, spec_RecsOf.f kf a0_0 a0_1 a0_2 a0_3 a0_4 a0_5 = some r → Spec Tryz.prog 119 [.agg [.v (.i .i64 a0_0), .v (.s a0_1), .v (.i .i64 a0_2), .v (.s a0_3), .v (.i .i64 a0_4), .v (.i .i64 a0_5)]] [] (.own 0 (List.map e25 r).length) [.arr 4 25 false (List.map e25 r)]) := by
  refine ⟨@fun a0 a1 a2 r H => fn_okF (E := env) Tryz.func63 (by rfl) rfl (n := 12) (by rfl) ?_,
   @fun kf a0 a1 r H => fn_okF (E := env) Tryz.func135 (by rfl) rfl (n := 34) (by rfl) ?_,
   @fun l0 a1 r H => fn_okF (E := env) Tryz.func52 (by rfl) rfl (n := 15) (by rfl) ?_,
   @fun kf l0 r H => fn_okF (E := env) Tryz.func53 (by rfl) rfl (n := 31) (by rfl) ?_,
   @fun kf a0 r105 H => fn_okF (E := env) Tryz.func105 (by rfl) rfl (n := 26) (by rfl) ?_,
   @fun l0 a1 r H => fn_okF (E := env) Tryz.func58 (by rfl) rfl (n := 29) (by rfl) ?_,
   @fun l0 l1 r H => fn_okF (E := env) Tryz.func60 (by rfl) rfl (n := 8) (by rfl) ?_,
   @fun a0 a1 r H => fn_okF (E := env) Tryz.func68 (by rfl) rfl (n := 9) (by rfl) ?_,
   @fun s0_0 s0_1 s0_2 s0_3 r H => fn_okF (E := env) Tryz.func120 (by rfl) rfl (n := 26) (by rfl) ?_,
   @fun kf a0_0 a0_1 a0_2 a0_3 a0_4 a0_5 r H => fn_okF (E := env) Tryz.func119 (by rfl) rfl (n := 41) (by rfl) ?_⟩
  all_goals simp only [spec_l1In.f, spec_l3Split.f, spec_PutWord.f, spec_Sum.f, spec_TextOk.f, spec_GetWord.f, spec_l1Same.f, spec_l5At.f, spec_l2Fuse.f, spec_RecsOf.f, Option.bind_some, List.nil_append, if_true, if_false, Bool.false_eq_true, nilB, nilE] at H
  all_goals repeat' ((conv => whnf); first
   | ((with_reducible have hp := peel_ H); clear H; obtain ⟨_, H⟩ := hp)
   | ((with_reducible have hp := peeln_ H); clear H; obtain ⟨_, H⟩ := hp)
   | (with_reducible replace H := itet_ H)
   | (with_reducible replace H := itef_ H)
   | ((with_reducible have hk := idH_ (F := fun k => spec_RecsOf.j0 k _ _ _ _ _ _ _) H); clear hk; have hk := suc_ (g := fun k => spec_RecsOf.j0 k _ _ _ _ _ _ _) H (by simp only [spec_RecsOf.j0]); obtain ⟨kf, hk⟩ := hk; subst hk; simp only [spec_RecsOf.j0, Option.bind_some, List.nil_append, if_true, if_false, Bool.false_eq_true, nilB, nilE] at H)
   | ((with_reducible refine sideid_ ?_); refine side_ ?_)
   | ((with_reducible refine seqid_ ?_); first
    | ((with_reducible refine scg_ 2 ?_); refine scut_ 2 (fun s h => ∃ x0 x3 x11, spec_TextOk.j1 kf x0 x3 x11 = some r105 ∧ s = spr 27 0 [(0, .v (.s x0)), (3, .v (.i .i64 x3)), (11, .v (.b x11))] ∧ h = []) ?_ ?_)
    | (refine sgo_ ?_))
   | ((with_reducible refine brid_ ?_); first
    | (with_reducible refine brct_ ?_)
    | (with_reducible refine brcf_ ?_)
    | (with_reducible refine brt_ ?_)
    | (with_reducible refine brf_ ?_)
    | (refine bra_ H (fun _ H => ?_) (fun _ H => ?_))
    | (refine brna_ H (fun _ H => ?_) (fun _ H => ?_))
    | (refine brt_ ?_)
    | (refine brf_ ?_)
    | (refine bre_ H (fun _ H => ?_) (fun _ H => ?_))
    | (refine brne_ H (fun _ H => ?_) (fun _ H => ?_)))
   | ((with_reducible refine br2id_ ?_); first
    | (refine br2t_ ?_)
    | (refine br2f_ ?_))
   | ((with_reducible refine blkid_ ?_); refine bgo_ ?_)
   | ((with_reducible refine normid_ ?_); first
    | (refine norm_nilapp ?_)
    | (refine norm_appnil ?_)
    | (refine norm_app ?_)
    | (refine norm_t ?_)
    | (refine norm_d ?_)
    | (refine norm_td ?_)
    | (refine norm_set (e := 25) (f := e25) ⟨_, _, _, _⟩ rfl ?_)
    | (refine norm_rep (e := 25) (f := e25) ⟨_, _, _, _⟩ rfl ?_)
    | (refine norm_lit (e := 25) (n := 0) (f := e25) [] rfl ?_)
    | (refine lit25 _ _ _ _ rfl ?_)
    | (refine norm_lit (e := 25) (n := 1) (f := e25) [⟨_, _, _, _⟩] rfl ?_)
    | (refine norm_lit (e := 25) (n := 2) (f := e25) [⟨_, _, _, _⟩, ⟨_, _, _, _⟩] rfl ?_)
    | (refine norm_set (e := 5) (f := e5) _ rfl ?_)
    | (refine norm_rep (e := 5) (f := e5) _ rfl ?_)
    | (refine norm_lit (e := 5) (n := 0) (f := e5) [] rfl ?_)
    | (refine norm_lit (e := 5) (n := 2) (f := e5) [_, _] rfl ?_)
    | (refine norm_set (e := 9) (f := e9) _ rfl ?_)
    | (refine norm_rep (e := 9) (f := e9) _ rfl ?_)
    | (refine norm_lit (e := 9) (n := 0) (f := e9) [] rfl ?_)
    | (refine norm_lit (e := 9) (n := 1) (f := e9) [_] rfl ?_))
   | ((with_reducible refine elemid_ ?_); first
    | (refine elema_ (f := e25) z25 (rd_T25 _ _) rfl ?_)
    | (refine elema_ (f := e5) 0 (rd _ _) rfl ?_)
    | (refine elema_ (f := e9) ByteArray.empty (rdOf ByteArray.empty _ _) rfl ?_))
   | ((with_reducible refine lenid_ ?_); refine lenm_ ?_)
   | ((with_reducible refine strid_ ?_); first
    | (refine stre_ ?_)
    | (refine stre0_ ?_))
   | ((with_reducible refine handid_ ?_); refine handa_ ?_)
   | ((with_reducible refine mkid_ ?_); refine mka_ ?_)
   | ((with_reducible refine loopid_ ?_); (first
    | ((with_reducible have hk := idH_ (F := fun k => spec_TextOk.l0 k _ _) H); clear hk; refine loopK_ (fun n s h => ∃ x0 x3, spec_TextOk.l0 n x0 x3 = some r105 ∧ s = spr 27 0 [(0, .v (.s x0)), (3, .v (.i .i64 x3))] ∧ h = []) [] [] [] (bsp 27 0 [0, 3]) _ (by (conv => whnf); refine ⟨_, _, H, rfl, rfl⟩) ?_; rintro n s h hn ⟨x0, x3, H, rfl, rfl⟩)
    | ((with_reducible have hk := idH_ (F := fun k => spec_Sum.l0 k _ _ _) H); clear hk; refine loopK_ (fun n s h => ∃ x0 x3 x4, spec_Sum.l0 n x0 x3 x4 = some r ∧ s = spr 32 0 [(0, .v (.row (List.map e5 x0))), (3, .v (.i .i64 x3)), (4, .v (.i .i64 x4))] ∧ h = []) [] [] [] (bsp 32 0 [0, 3, 4]) _ (by (conv => whnf); refine ⟨_, _, _, H, rfl, rfl⟩) ?_; rintro n s h hn ⟨x0, x3, x4, H, rfl, rfl⟩)
    | ((with_reducible have hk := idH_ (F := fun k => spec_Sum.l1 k _ _ _ _) H); clear hk; refine loopK_ (fun n s h => ∃ x0 x3 x4 x5, spec_Sum.l1 n x0 x3 x4 x5 = some r ∧ s = spr 32 0 [(0, .v (.row (List.map e5 x0))), (3, .v (.i .i64 x3)), (4, .v (.i .i64 x4)), (5, .v (.i .i64 x5))] ∧ h = []) [] [] [] (bsp 32 0 [0, 3, 4, 5]) _ (by (conv => whnf); refine ⟨_, _, _, _, H, rfl, rfl⟩) ?_; rintro n s h hn ⟨x0, x3, x4, x5, H, rfl, rfl⟩)
    | ((with_reducible have hk := idH_ (F := fun k => spec_l3Split.l0 k _ _ _ _ _) H); clear hk; refine loopK_ (fun n s h => ∃ x0 x1 x5 x6 x7, spec_l3Split.l0 n x0 x1 x5 x6 x7 = some r ∧ s = spr 36 0 [(0, .v (.s x0)), (1, .v (.i .u8 x1)), (5, .own 0 (List.map e9 x5).length), (6, .v (.i .i64 x6)), (7, .v (.i .i64 x7))] ∧ h = [.arr 1 9 false (List.map e9 x5)]) [] [] [] (bsp 36 0 [0, 1, 5, 6, 7]) _ (by (conv => whnf); refine ⟨_, _, _, _, _, H, rfl, rfl⟩) ?_; rintro n s h hn ⟨x0, x1, x5, x6, x7, H, rfl, rfl⟩)); all_goals (obtain _ | kf := n; (· first | (cases H; done) | (simp only [spec_Sum.l0, spec_Sum.l1, spec_TextOk.l0, spec_l3Split.l0] at H; cases H; done)); simp only [spec_Sum.l0, spec_Sum.l1, spec_TextOk.l0, spec_l3Split.l0, Option.bind_some, List.nil_append, if_true, if_false, Bool.false_eq_true, nilB, nilE] at H))
   | ((with_reducible refine nextid_ ?_); (first
    | (refine nextK_ (P := fun m => spec_TextOk.l0 m _ _ = some _) H (bsp 27 0 [0, 3]) ?_ ?_ ?_)
    | (refine nextK_ (P := fun m => spec_Sum.l0 m _ _ _ = some _) H (bsp 32 0 [0, 3, 4]) ?_ ?_ ?_)
    | (refine nextK_ (P := fun m => spec_Sum.l1 m _ _ _ _ = some _) H (bsp 32 0 [0, 3, 4, 5]) ?_ ?_ ?_)
    | (refine nextK_ (P := fun m => spec_l3Split.l0 m _ _ _ _ _ = some _) H (bsp 36 0 [0, 1, 5, 6, 7]) ?_ ?_ ?_)); (conv => whnf); (first | refine ⟨_, _, H, ?_, rfl⟩ | refine ⟨_, _, H, ?_, ?_⟩ | refine ⟨_, _, _, H, ?_, rfl⟩ | refine ⟨_, _, _, H, ?_, ?_⟩ | refine ⟨_, _, _, _, H, ?_, rfl⟩ | refine ⟨_, _, _, _, H, ?_, ?_⟩ | refine ⟨_, _, _, _, _, H, ?_, rfl⟩ | refine ⟨_, _, _, _, _, H, ?_, ?_⟩); all_goals first | omega | rfl | (repeat' (first | rfl | refine own_eq ?_ | refine box_eq ?_ | refine cons_eq ?_ ?_ | refine vi_eq ?_ | simp only [List.length_map, List.length_set, wm_])))
   | ((with_reducible refine exid_ ?_); have hk := idH_ (F := fun k => spec_TextOk.j1 k _ _ _) H; refine weakK_ (ex := []) (us := []) (bs := []) (ms := (bsp 27 0 [0, 3, 11])) ?_; (conv => whnf); refine ⟨_, _, _, hk, rfl, rfl⟩)
   | ((with_reducible refine allid_ ?_); intro s h hj; clear H; obtain ⟨x0, x3, x11, H, rfl, rfl⟩ := hj; have hk := suc_ (g := fun k => spec_TextOk.j1 k _ _ _) H (by simp only [spec_TextOk.j1]); obtain ⟨kf, hk⟩ := hk; subst hk; simp only [spec_TextOk.j1, Option.bind_some, List.nil_append, if_true, if_false, Bool.false_eq_true, nilB, nilE] at H)
   | ((with_reducible refine finid_ ?_); refine finK_ [] ?_; (conv => whnf); replace H := Option.some.inj H; subst H; (conv => whnf); exact feq_ rfl))
end Go.Proofs.YthkepmicdpgbbaaGreatDoor.E
