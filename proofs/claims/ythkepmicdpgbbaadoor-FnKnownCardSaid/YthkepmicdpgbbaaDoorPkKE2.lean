/- Texts of this seat's claims, put together: E_spec_ParseNum, E_spec_ParseConf, E_spec_l4Text, E_spec_KnownOk -/
import Derived.Test.YthkepmicdpgbbaaDoorPkKB5
import Derived.Test.YthkepmicdpgbbaaDoorPkKE1
/- What the functions' codes come to. -/
namespace Go.Proofs.YthkepmicdpgbbaaDoor.E
open Go Go.RowKit Go.Proofs.YthkepmicdpgbbaaDoorW.PrintWords Go.Proofs.YthkepmicdpgbbaaDoor.P
set_option linter.unusedVariables false
set_option linter.unusedSimpArgs false
set_option maxHeartbeats 0
set_option maxRecDepth 100000
theorem spec_ParseNum_ev {kf : Nat} {a0 : ByteArray} {a1 : Int} {r : Int × Bool} (H : spec_ParseNum.f kf a0 a1 = some r) : Spec Tryd.prog 47 [.v (.s a0), .v (.i .i64 a1)] [] (.tup [.v (.i .i64 r.1), .v (.b r.2)]) [] := by
  simp only [spec_ParseNum.f, Option.bind_some, List.nil_append, if_true, if_false, Bool.false_eq_true, nilB, nilE] at H
  refine fn_okF (E := env) Tryd.func47 (by rfl) rfl (n := 52) (by rfl) ?_
  repeat' ((conv => whnf); first
           | ((with_reducible have hp := peel_ H); clear H; obtain ⟨_, H⟩ := hp)
           | ((with_reducible have hp := peeln_ H); clear H; obtain ⟨_, H⟩ := hp)
           | (with_reducible replace H := itet_ H)
           | (with_reducible replace H := itef_ H)
           | ((with_reducible refine sideid_ ?_); refine side_ ?_)
           | ((with_reducible refine seqid_ ?_); first
             | ((with_reducible refine scg_ 1 ?_); refine scut_ 1 (fun s h => ∃ x0 x1 x29, spec_ParseNum.j0 kf x0 x1 x29 = some r ∧ s = spr 54 0 [(0, .v (.s x0)), (1, .v (.i .i64 x1)), (29, .v (.b x29))] ∧ h = []) ?_ ?_)
             | (refine sgo_ ?_))
           | ((with_reducible refine brid_ ?_); first
             | (with_reducible refine brct_ ?_)
             | (with_reducible refine brcf_ ?_)
             | (with_reducible refine brt_ ?_)
             | (with_reducible refine brf_ ?_)
             | (refine br_ H (by with_reducible first | rfl | exact bi_ _ _ | exact bd_ _ | exact bs_ _ _) (fun _ H => ?_) (fun _ H => ?_))
             | (refine brn_ H (by with_reducible first | rfl | exact bni_ _ _ | exact bin_ _ _ | exact bn_ _ | exact bs0_ _ _ | exact bnn_ _) (fun _ H => ?_) (fun _ H => ?_))
             | (refine brt_ ?_)
             | (refine brf_ ?_)
             | (refine br_ H (by exact Eq.refl _) (fun _ H => ?_) (fun _ H => ?_))
             | (refine brn_ H (by exact Eq.refl _) (fun _ H => ?_) (fun _ H => ?_)))
           | ((with_reducible refine br2id_ ?_); first
             | (refine br2t_ ?_)
             | (refine br2f_ ?_))
           | ((with_reducible refine normid_ ?_); first
             | (refine norm_nilapp ?_)
             | (refine norm_appnil ?_)
             | (refine norm_app ?_)
             | (refine norm_t ?_)
             | (refine norm_d ?_)
             | (refine norm_td ?_))
           | ((with_reducible refine lenid_ ?_); refine lenm_ ?_)
           | ((with_reducible refine strid_ ?_); first
             | (refine stre_ ?_)
             | (refine stre0_ ?_))
           | ((with_reducible refine callid_ ?_); have hp := bnd_ H; clear H; obtain ⟨_, ht, H⟩ := hp; refine call_ (spec_l1In_ev ht) rfl rfl ?_)
           | ((with_reducible refine loopid_ ?_); refine loopK_ (fun n s h => ∃ x0 x1 x6 x7, spec_ParseNum.l0 n x0 x1 x6 x7 = some r ∧ s = spr 54 0 [(0, .v (.s x0)), (1, .v (.i .i64 x1)), (6, .v (.i .i64 x6)), (7, .v (.i .i64 x7))] ∧ h = []) [] [] [] (bsp 54 0 [0, 1, 6, 7]) _ (by (conv => whnf); refine ⟨_, _, _, _, H, rfl, rfl⟩) ?_; rintro n s h hn ⟨x0, x1, x6, x7, H, rfl, rfl⟩; have hk := suc_ (g := fun k => spec_ParseNum.l0 k _ _ _ _) H (by simp only [spec_ParseNum.l0]); obtain ⟨kf, hk⟩ := hk; subst hk; simp only [spec_ParseNum.l0, Option.bind_some, List.nil_append, if_true, if_false, Bool.false_eq_true, nilB, nilE] at H)
           | ((with_reducible refine nextid_ ?_); refine nextK_ (P := fun m => spec_ParseNum.l0 m _ _ _ _ = some _) H (bsp 54 0 [0, 1, 6, 7]) ?_ ?_ ?_; (conv => whnf); refine ⟨_, _, _, _, H, ?_, rfl⟩; all_goals first | omega | rfl | (repeat' (first | rfl | refine own_eq ?_ | refine cons_eq ?_ ?_ | refine vi_eq ?_ | simp only [List.length_map, List.length_set, wm_])))
           | ((with_reducible refine exid_ ?_); have hk := idH_ (F := fun k => spec_ParseNum.j0 k _ _ _) H; refine weakK_ (ex := []) (us := []) (bs := []) (ms := (bsp 54 0 [0, 1, 29])) ?_; (conv => whnf); refine ⟨_, _, _, hk, rfl, rfl⟩)
           | ((with_reducible refine allid_ ?_); intro s h hj; clear H; obtain ⟨x0, x1, x29, H, rfl, rfl⟩ := hj; have hk := suc_ (g := fun k => spec_ParseNum.j0 k _ _ _) H (by simp only [spec_ParseNum.j0]); obtain ⟨kf, hk⟩ := hk; subst hk; simp only [spec_ParseNum.j0, Option.bind_some, List.nil_append, if_true, if_false, Bool.false_eq_true, nilB, nilE] at H)
           | ((with_reducible refine finid_ ?_); refine finK_ [] ?_; (conv => whnf); replace H := Option.some.inj H; subst H; (conv => whnf); refine ⟨rfl, ?_⟩; first | rfl | (repeat' (first | rfl | refine own_eq ?_ | refine tup_eq ?_ | refine agg_eq ?_ | refine cons_eq ?_ ?_ | refine vi_eq ?_ | simp only [List.length_map, List.length_set, wm_]))))
end Go.Proofs.YthkepmicdpgbbaaDoor.E

/- What the functions' codes come to. -/
namespace Go.Proofs.YthkepmicdpgbbaaDoor.E
open Go Go.RowKit Go.Proofs.YthkepmicdpgbbaaDoorW.PrintWords Go.Proofs.YthkepmicdpgbbaaDoor.P
set_option linter.unusedVariables false
set_option linter.unusedSimpArgs false
set_option maxHeartbeats 0
set_option maxRecDepth 100000
theorem spec_ParseConf_ev {kf : Nat} {a0 : ByteArray} {r : (List (S55)) × Bool} (H : spec_ParseConf.f kf a0 = some r) : Spec Tryd.prog 9 [.v (.s a0)] [] (.tup [.own 0 (List.map e55 r.1).length, .v (.b r.2)]) [.arr 5 55 false (List.map e55 r.1)] := by
  simp only [spec_ParseConf.f, Option.bind_some, List.nil_append, if_true, if_false, Bool.false_eq_true, nilB, nilE] at H
  refine fn_okF (E := env) Tryd.func9 (by rfl) rfl (n := 86) (by rfl) ?_
  repeat' ((conv => whnf); first
           | ((with_reducible have hp := peel_ H); clear H; obtain ⟨_, H⟩ := hp)
           | ((with_reducible have hp := peeln_ H); clear H; obtain ⟨_, H⟩ := hp)
           | (with_reducible replace H := itet_ H)
           | (with_reducible replace H := itef_ H)
           | ((with_reducible refine sideid_ ?_); refine side_ ?_)
           | ((with_reducible refine seqid_ ?_); refine sgo_ ?_)
           | ((with_reducible refine brid_ ?_); first
             | (with_reducible refine brct_ ?_)
             | (with_reducible refine brcf_ ?_)
             | (with_reducible refine brt_ ?_)
             | (with_reducible refine brf_ ?_)
             | (refine br_ H (by with_reducible first | rfl | exact bi_ _ _ | exact bd_ _ | exact bs_ _ _) (fun _ H => ?_) (fun _ H => ?_))
             | (refine brn_ H (by with_reducible first | rfl | exact bni_ _ _ | exact bin_ _ _ | exact bn_ _ | exact bs0_ _ _ | exact bnn_ _) (fun _ H => ?_) (fun _ H => ?_))
             | (refine brt_ ?_)
             | (refine brf_ ?_)
             | (refine br_ H (by exact Eq.refl _) (fun _ H => ?_) (fun _ H => ?_))
             | (refine brn_ H (by exact Eq.refl _) (fun _ H => ?_) (fun _ H => ?_)))
           | ((with_reducible refine br2id_ ?_); first
             | (refine br2t_ ?_)
             | (refine br2f_ ?_))
           | ((with_reducible refine normid_ ?_); first
             | (refine norm_nilapp ?_)
             | (refine norm_appnil ?_)
             | (refine norm_app ?_)
             | (refine norm_t ?_)
             | (refine norm_d ?_)
             | (refine norm_td ?_)
             | (refine norm_set (e := 3) (f := e3) _ rfl ?_)
             | (refine norm_rep (e := 3) (f := e3) _ rfl ?_)
             | (refine norm_lit (e := 3) (n := 4) (f := e3) [_, _, _, _] rfl ?_)
             | (refine norm_set (e := 9) (f := e9) _ rfl ?_)
             | (refine norm_rep (e := 9) (f := e9) _ rfl ?_)
             | (refine norm_set (e := 55) (f := e55) ⟨_, _, _, _, _⟩ rfl ?_)
             | (refine norm_rep (e := 55) (f := e55) ⟨_, _, _, _, _⟩ rfl ?_)
             | (refine norm_lit (e := 55) (n := 0) (f := e55) [] rfl ?_)
             | (refine norm_lit (e := 55) (n := 1) (f := e55) [⟨_, _, _, _, _⟩] rfl ?_))
           | ((with_reducible refine elemid_ ?_); first
             | (refine elem_ (f := e3) 0 (rd _ _) rfl ?_ (by first | assumption | decide | omega) (by first | assumption | omega))
             | (refine elem_ (f := e9) ByteArray.empty (rdOf ByteArray.empty _ _) rfl ?_ (by first | assumption | decide | omega) (by first | assumption | omega))
             | (refine elem_ (f := e55) z55 (rd_T55 _ _) rfl ?_ (by first | assumption | decide | omega) (by first | assumption | omega)))
           | ((with_reducible refine lenid_ ?_); refine lenm_ ?_)
           | ((with_reducible refine strid_ ?_); first
             | (refine stre_ ?_)
             | (refine stre0_ ?_))
           | ((with_reducible refine callid_ ?_); have hp := bnd_ H; clear H; obtain ⟨_, ht, H⟩ := hp; first
             | (refine call_ (spec_ConfOk_ev ht) rfl rfl ?_)
             | (refine call_ (spec_l3Split_ev ht) rfl rfl ?_)
             | (refine call_ (spec_ParseNum_ev ht) rfl rfl ?_))
           | ((with_reducible refine loopid_ ?_); first
             | (refine loopK_ (fun n s h => ∃ x4 x5 x6, spec_ParseConf.l0 n x4 x5 x6 = some r ∧ s = spr 87 0 [(4, .own 0 (List.map e9 x4).length), (5, .own 1 (List.map e55 x5).length), (6, .v (.i .i64 x6))] ∧ h = [.arr 1 9 false (List.map e9 x4), .arr 5 55 false (List.map e55 x5)]) [] [] [] (bsp 87 0 [4, 5, 6]) _ (by (conv => whnf); refine ⟨_, _, _, H, rfl, rfl⟩) ?_; rintro n s h hn ⟨x4, x5, x6, H, rfl, rfl⟩; have hk := suc_ (g := fun k => spec_ParseConf.l0 k _ _ _) H (by simp only [spec_ParseConf.l0]); obtain ⟨kf, hk⟩ := hk; subst hk; simp only [spec_ParseConf.l0, Option.bind_some, List.nil_append, if_true, if_false, Bool.false_eq_true, nilB, nilE] at H)
             | (refine loopK_ (fun n s h => ∃ x4 x5 x6 x7 x8 x9 x10, spec_ParseConf.l1 n x4 x5 x6 x7 x8 x9 x10 = some r ∧ s = spr 87 0 [(4, .own 0 (List.map e9 x4).length), (5, .own 1 (List.map e55 x5).length), (6, .v (.i .i64 x6)), (7, .own 2 (List.map e9 x7).length), (8, .own 3 (List.map e9 x8).length), (9, .own 4 (List.map e3 x9).length), (10, .v (.i .i64 x10))] ∧ h = [.arr 1 9 false (List.map e9 x4), .arr 5 55 false (List.map e55 x5), .arr 1 9 false (List.map e9 x7), .arr 1 9 false (List.map e9 x8), .arr 1 3 false (List.map e3 x9)]) [] [] [] (bsp 87 0 [4, 5, 6, 7, 8, 9, 10]) _ (by (conv => whnf); refine ⟨_, _, _, _, _, _, _, H, rfl, rfl⟩) ?_; rintro n s h hn ⟨x4, x5, x6, x7, x8, x9, x10, H, rfl, rfl⟩; have hk := suc_ (g := fun k => spec_ParseConf.l1 k _ _ _ _ _ _ _) H (by simp only [spec_ParseConf.l1]); obtain ⟨kf, hk⟩ := hk; subst hk; simp only [spec_ParseConf.l1, Option.bind_some, List.nil_append, if_true, if_false, Bool.false_eq_true, nilB, nilE] at H))
           | ((with_reducible refine nextid_ ?_); first
             | (refine nextK_ (P := fun m => spec_ParseConf.l0 m _ _ _ = some _) H (bsp 87 0 [4, 5, 6]) ?_ ?_ ?_; (conv => whnf); refine ⟨_, _, _, H, ?_, rfl⟩; all_goals first | omega | rfl | (repeat' (first | rfl | refine own_eq ?_ | refine cons_eq ?_ ?_ | refine vi_eq ?_ | simp only [List.length_map, List.length_set, wm_])))
             | (refine nextK_ (P := fun m => spec_ParseConf.l1 m _ _ _ _ _ _ _ = some _) H (bsp 87 0 [4, 5, 6, 7, 8, 9, 10]) ?_ ?_ ?_; (conv => whnf); refine ⟨_, _, _, _, _, _, _, H, ?_, rfl⟩; all_goals first | omega | rfl | (repeat' (first | rfl | refine own_eq ?_ | refine cons_eq ?_ ?_ | refine vi_eq ?_ | simp only [List.length_map, List.length_set, wm_]))))
           | ((with_reducible refine finid_ ?_); refine finK_ [] ?_; (conv => whnf); replace H := Option.some.inj H; subst H; (conv => whnf); refine ⟨rfl, ?_⟩; first | rfl | (repeat' (first | rfl | refine own_eq ?_ | refine tup_eq ?_ | refine agg_eq ?_ | refine cons_eq ?_ ?_ | refine vi_eq ?_ | simp only [List.length_map, List.length_set, wm_]))))
end Go.Proofs.YthkepmicdpgbbaaDoor.E

/- What the functions' codes come to. -/
namespace Go.Proofs.YthkepmicdpgbbaaDoor.E
open Go Go.RowKit Go.Proofs.YthkepmicdpgbbaaDoorW.PrintWords Go.Proofs.YthkepmicdpgbbaaDoor.P
set_option linter.unusedVariables false
set_option linter.unusedSimpArgs false
set_option maxHeartbeats 0
set_option maxRecDepth 100000
theorem spec_l4Text_ev {kf : Nat} {a0 : ByteArray} {r : Bool} (H : spec_l4Text.f kf a0 = some r) : Spec Tryd.prog 87 [.v (.s a0)] [] (.v (.b r)) [] := by
  simp only [spec_l4Text.f, Option.bind_some, List.nil_append, if_true, if_false, Bool.false_eq_true, nilB, nilE] at H
  refine fn_okF (E := env) Tryd.func87 (by rfl) rfl (n := 10) (by rfl) ?_
  repeat' ((conv => whnf); first
           | ((with_reducible have hp := peel_ H); clear H; obtain ⟨_, H⟩ := hp)
           | ((with_reducible have hp := peeln_ H); clear H; obtain ⟨_, H⟩ := hp)
           | (with_reducible replace H := itet_ H)
           | (with_reducible replace H := itef_ H)
           | ((with_reducible refine sideid_ ?_); refine side_ ?_)
           | ((with_reducible refine seqid_ ?_); refine sgo_ ?_)
           | ((with_reducible refine brid_ ?_); first
             | (with_reducible refine brct_ ?_)
             | (with_reducible refine brcf_ ?_)
             | (with_reducible refine brt_ ?_)
             | (with_reducible refine brf_ ?_)
             | (refine br_ H (by with_reducible first | rfl | exact bi_ _ _ | exact bd_ _ | exact bs_ _ _) (fun _ H => ?_) (fun _ H => ?_))
             | (refine brn_ H (by with_reducible first | rfl | exact bni_ _ _ | exact bin_ _ _ | exact bn_ _ | exact bs0_ _ _ | exact bnn_ _) (fun _ H => ?_) (fun _ H => ?_))
             | (refine brt_ ?_)
             | (refine brf_ ?_)
             | (refine br_ H (by exact Eq.refl _) (fun _ H => ?_) (fun _ H => ?_))
             | (refine brn_ H (by exact Eq.refl _) (fun _ H => ?_) (fun _ H => ?_)))
           | ((with_reducible refine br2id_ ?_); first
             | (refine br2t_ ?_)
             | (refine br2f_ ?_))
           | ((with_reducible refine normid_ ?_); first
             | (refine norm_nilapp ?_)
             | (refine norm_appnil ?_)
             | (refine norm_app ?_)
             | (refine norm_t ?_)
             | (refine norm_d ?_)
             | (refine norm_td ?_))
           | ((with_reducible refine lenid_ ?_); refine lenm_ ?_)
           | ((with_reducible refine strid_ ?_); first
             | (refine stre_ ?_)
             | (refine stre0_ ?_))
           | ((with_reducible refine callid_ ?_); have hp := bnd_ H; clear H; obtain ⟨_, ht, H⟩ := hp; refine call_ (spec_ParseConf_ev ht) rfl rfl ?_)
           | ((with_reducible refine finid_ ?_); refine finK_ [] ?_; (conv => whnf); replace H := Option.some.inj H; subst H; (conv => whnf); refine ⟨rfl, ?_⟩; first | rfl | (repeat' (first | rfl | refine own_eq ?_ | refine tup_eq ?_ | refine agg_eq ?_ | refine cons_eq ?_ ?_ | refine vi_eq ?_ | simp only [List.length_map, List.length_set, wm_]))))
end Go.Proofs.YthkepmicdpgbbaaDoor.E

/- What the functions' codes come to. -/
namespace Go.Proofs.YthkepmicdpgbbaaDoor.E
open Go Go.RowKit Go.Proofs.YthkepmicdpgbbaaDoorW.PrintWords Go.Proofs.YthkepmicdpgbbaaDoor.P
set_option linter.unusedVariables false
set_option linter.unusedSimpArgs false
set_option maxHeartbeats 0
set_option maxRecDepth 100000
theorem spec_KnownOk_ev {kf : Nat} {a0_0 : Int} {a0_1 : ByteArray} {a0_2 : Int} {a0_3 : ByteArray} {a0_4 : Int} {a0_5 : Int} {r : Bool} (H : spec_KnownOk.f kf a0_0 a0_1 a0_2 a0_3 a0_4 a0_5 = some r) : Spec Tryd.prog 45 [.agg [.v (.i .i64 a0_0), .v (.s a0_1), .v (.i .i64 a0_2), .v (.s a0_3), .v (.i .i64 a0_4), .v (.i .i64 a0_5)]] [] (.v (.b r)) [] := by
  simp only [spec_KnownOk.f, Option.bind_some, List.nil_append, if_true, if_false, Bool.false_eq_true, nilB, nilE] at H
  refine fn_okF (E := env) Tryd.func45 (by rfl) rfl (n := 69) (by rfl) ?_
  repeat' ((conv => whnf); first
           | ((with_reducible have hp := peel_ H); clear H; obtain ⟨_, H⟩ := hp)
           | ((with_reducible have hp := peeln_ H); clear H; obtain ⟨_, H⟩ := hp)
           | (with_reducible replace H := itet_ H)
           | (with_reducible replace H := itef_ H)
           | ((with_reducible refine sideid_ ?_); refine side_ ?_)
           | ((with_reducible refine seqid_ ?_); first
             | ((with_reducible refine scg_ 1 ?_); refine scut_ 1 (fun s h => ∃ x34 x266000 x266001 x266002 x266003 x266004 x266005, spec_KnownOk.j0 kf x34 x266000 x266001 x266002 x266003 x266004 x266005 = some r ∧ s = spr 70 0 [(1, .ptr 0 0), (34, .v (.b x34))] ∧ h = [.box 34 [.v (.i .i64 x266000), .v (.s x266001), .v (.i .i64 x266002), .v (.s x266003), .v (.i .i64 x266004), .v (.i .i64 x266005)]]) ?_ ?_)
             | ((with_reducible refine scg_ 3 ?_); refine scut_ 3 (fun s h => ∃ x53 x266000 x266001 x266002 x266003 x266004 x266005, spec_KnownOk.j1 kf x53 x266000 x266001 x266002 x266003 x266004 x266005 = some r ∧ s = spr 70 0 [(1, .ptr 0 0), (53, .v (.b x53))] ∧ h = [.box 34 [.v (.i .i64 x266000), .v (.s x266001), .v (.i .i64 x266002), .v (.s x266003), .v (.i .i64 x266004), .v (.i .i64 x266005)]]) ?_ ?_)
             | (refine sgo_ ?_))
           | ((with_reducible refine brid_ ?_); first
             | (with_reducible refine brct_ ?_)
             | (with_reducible refine brcf_ ?_)
             | (with_reducible refine brt_ ?_)
             | (with_reducible refine brf_ ?_)
             | (refine br_ H (by with_reducible first | rfl | exact bi_ _ _ | exact bd_ _ | exact bs_ _ _) (fun _ H => ?_) (fun _ H => ?_))
             | (refine brn_ H (by with_reducible first | rfl | exact bni_ _ _ | exact bin_ _ _ | exact bn_ _ | exact bs0_ _ _ | exact bnn_ _) (fun _ H => ?_) (fun _ H => ?_))
             | (refine brt_ ?_)
             | (refine brf_ ?_)
             | (refine br_ H (by exact Eq.refl _) (fun _ H => ?_) (fun _ H => ?_))
             | (refine brn_ H (by exact Eq.refl _) (fun _ H => ?_) (fun _ H => ?_)))
           | ((with_reducible refine br2id_ ?_); first
             | (refine br2t_ ?_)
             | (refine br2f_ ?_))
           | ((with_reducible refine normid_ ?_); first
             | (refine norm_nilapp ?_)
             | (refine norm_appnil ?_)
             | (refine norm_app ?_)
             | (refine norm_t ?_)
             | (refine norm_d ?_)
             | (refine norm_td ?_))
           | ((with_reducible refine lenid_ ?_); refine lenm_ ?_)
           | ((with_reducible refine strid_ ?_); first
             | (refine stre_ ?_)
             | (refine stre0_ ?_))
           | ((with_reducible refine callid_ ?_); have hp := bnd_ H; clear H; obtain ⟨_, ht, H⟩ := hp; first
             | (refine call_ (spec_l1In_ev ht) rfl rfl ?_)
             | (refine call_ (spec_l4Text_ev ht) rfl rfl ?_))
           | ((with_reducible refine exid_ ?_); first
             | (have hk := idH_ (F := fun k => spec_KnownOk.j0 k _ _ _ _ _ _ _) H; refine weakK_ (ex := []) (us := []) (bs := []) (ms := (bsp 70 0 [1, 34])) ?_; (conv => whnf); refine ⟨_, _, _, _, _, _, _, hk, rfl, rfl⟩)
             | (have hk := idH_ (F := fun k => spec_KnownOk.j1 k _ _ _ _ _ _ _) H; refine weakK_ (ex := []) (us := []) (bs := []) (ms := (bsp 70 0 [1, 53])) ?_; (conv => whnf); refine ⟨_, _, _, _, _, _, _, hk, rfl, rfl⟩))
           | ((with_reducible refine allid_ ?_); first
             | (intro s h hj; clear H; obtain ⟨x34, x266000, x266001, x266002, x266003, x266004, x266005, H, rfl, rfl⟩ := hj; have hk := suc_ (g := fun k => spec_KnownOk.j0 k _ _ _ _ _ _ _) H (by simp only [spec_KnownOk.j0]); obtain ⟨kf, hk⟩ := hk; subst hk; simp only [spec_KnownOk.j0, Option.bind_some, List.nil_append, if_true, if_false, Bool.false_eq_true, nilB, nilE] at H)
             | (intro s h hj; clear H; obtain ⟨x53, x266000, x266001, x266002, x266003, x266004, x266005, H, rfl, rfl⟩ := hj; have hk := suc_ (g := fun k => spec_KnownOk.j1 k _ _ _ _ _ _ _) H (by simp only [spec_KnownOk.j1]); obtain ⟨kf, hk⟩ := hk; subst hk; simp only [spec_KnownOk.j1, Option.bind_some, List.nil_append, if_true, if_false, Bool.false_eq_true, nilB, nilE] at H))
           | ((with_reducible refine finid_ ?_); refine finK_ [] ?_; (conv => whnf); replace H := Option.some.inj H; subst H; (conv => whnf); refine ⟨rfl, ?_⟩; first | rfl | (repeat' (first | rfl | refine own_eq ?_ | refine tup_eq ?_ | refine agg_eq ?_ | refine cons_eq ?_ ?_ | refine vi_eq ?_ | simp only [List.length_map, List.length_set, wm_]))))
end Go.Proofs.YthkepmicdpgbbaaDoor.E
