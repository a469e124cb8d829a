/- Texts of this seat's claims, put together: E_spec_ReadSec, E_spec_l5At, E_spec_KnownOk, E_spec_Apply, E_spec_Replay -/
import Derived.Test.YthkepmicdpgbbaaGreatDoorPkZB5
import Derived.Test.YthkepmicdpgbbaaGreatDoorPkZE1
import Derived.Test.YthkepmicdpgbbaaGreatDoorPkZE10
import Derived.Test.YthkepmicdpgbbaaGreatDoorPkZE2
import Derived.Test.YthkepmicdpgbbaaGreatDoorPkZE6
import Derived.Test.YthkepmicdpgbbaaGreatDoorPkZE7
import Derived.Test.YthkepmicdpgbbaaGreatDoorPkZE8
import Derived.Test.YthkepmicdpgbbaaGreatDoorPkZE9
/- What the functions' codes come to. -/
namespace Go.Proofs.YthkepmicdpgbbaaGreatDoor.E
open Go Go.RowKit Go.Proofs.YthkepmicdpgbbaaGreatDoorW.PrintWords Go.Proofs.YthkepmicdpgbbaaGreatDoor.P
set_option linter.unusedVariables false
set_option linter.unusedSimpArgs false
set_option maxHeartbeats 0
set_option maxRecDepth 100000
theorem spec_ReadSec_ev {kf : Nat} {l0_0 : List (List Int)} {l0_1 : List (S109)} {a0_2 : Int} {a0_3 : Bool} {a1 : Int} {r : List Int} (H : spec_ReadSec.f kf l0_0 l0_1 a0_2 a0_3 a1 = some r) : Spec Tryz.prog 67 [.agg [.v (.row (List.map e22 l0_0)), .v (.row (List.map e109 l0_1)), .v (.i .i64 a0_2), .v (.b a0_3)], .v (.i .i64 a1)] [] (.own 0 (List.map e5 r).length) [.arr 1 5 false (List.map e5 r)] := by
  simp only [spec_ReadSec.f, Option.bind_some, List.nil_append, if_true, if_false, Bool.false_eq_true, nilB, nilE] at H
  refine fn_okF (E := env) Tryz.func67 (by rfl) rfl (n := 47) (by rfl) ?_
  repeat' ((conv => whnf); first
           | ((with_reducible have hp := peel_ H); clear H; obtain ⟨_, H⟩ := hp)
           | ((with_reducible have hp := peeln_ H); clear H; obtain ⟨_, H⟩ := hp)
           | (with_reducible replace H := itet_ H)
           | (with_reducible replace H := itef_ H)
           | ((with_reducible refine sideid_ ?_); refine side_ ?_)
           | ((with_reducible refine seqid_ ?_); first
             | ((with_reducible refine scg_ 1 ?_); refine scut_ 1 (fun s h => ∃ x1 x18 x767000 x767001 x767002 x767003, spec_ReadSec.j0 kf x1 x18 x767000 x767001 x767002 x767003 = some r ∧ s = spr 49 0 [(1, .v (.i .i64 x1)), (2, .ptr 0 0), (18, .v (.b x18))] ∧ h = [.box 46 [.v (.row (List.map e22 x767000)), .v (.row (List.map e109 x767001)), .v (.i .i64 x767002), .v (.b x767003)]]) ?_ ?_)
             | (refine sgo_ ?_))
           | ((with_reducible refine brid_ ?_); first
             | (with_reducible refine brct_ ?_)
             | (with_reducible refine brcf_ ?_)
             | (with_reducible refine brt_ ?_)
             | (with_reducible refine brf_ ?_)
             | (refine br_ H (by with_reducible first | rfl | exact bi_ _ _ | exact bd_ _ | exact bs_ _ _) (fun _ H => ?_) (fun _ H => ?_))
             | (refine brn_ H (by with_reducible first | rfl | exact bni_ _ _ | exact bin_ _ _ | exact bn_ _ | exact bs0_ _ _ | exact bnn_ _) (fun _ H => ?_) (fun _ H => ?_))
             | (refine brt_ ?_)
             | (refine brf_ ?_)
             | (refine br_ H (by exact Eq.refl _) (fun _ H => ?_) (fun _ H => ?_))
             | (refine brn_ H (by exact Eq.refl _) (fun _ H => ?_) (fun _ H => ?_)))
           | ((with_reducible refine br2id_ ?_); first
             | (refine br2t_ ?_)
             | (refine br2f_ ?_))
           | ((with_reducible refine normid_ ?_); first
             | (refine norm_nilapp ?_)
             | (refine norm_appnil ?_)
             | (refine norm_app ?_)
             | (refine norm_t ?_)
             | (refine norm_d ?_)
             | (refine norm_td ?_)
             | (refine norm_set (e := 5) (f := e5) _ rfl ?_)
             | (refine norm_rep (e := 5) (f := e5) _ rfl ?_)
             | (refine norm_lit (e := 5) (n := 0) (f := e5) [] rfl ?_)
             | (refine norm_set (e := 22) (f := e22) _ rfl ?_)
             | (refine norm_rep (e := 22) (f := e22) _ rfl ?_)
             | (refine norm_rep (e := 22) (f := e22) [] rfl ?_)
             | (refine norm_set (e := 22) (f := e22) [] rfl ?_)
             | (refine norm_set (e := 109) (f := e109) ⟨_, _⟩ rfl ?_)
             | (refine norm_rep (e := 109) (f := e109) ⟨_, _⟩ rfl ?_)
             | (refine norm_rep (e := 109) (f := e109) ⟨_, []⟩ rfl ?_)
             | (refine norm_set (e := 109) (f := e109) ⟨_, []⟩ rfl ?_))
           | ((with_reducible refine elemid_ ?_); first
             | (refine elem_ (f := e5) 0 (rd _ _) rfl ?_ (by first | assumption | decide | omega) (by first | assumption | omega))
             | (refine elem_ (f := e22) [] (rdOf [] _ _) rfl ?_ (by first | assumption | decide | omega) (by first | assumption | omega))
             | (refine elem_ (f := e109) z109 (rd_T109 _ _) rfl ?_ (by first | assumption | decide | omega) (by first | assumption | omega)))
           | ((with_reducible refine lenid_ ?_); refine lenm_ ?_)
           | ((with_reducible refine strid_ ?_); first
             | (refine stre_ ?_)
             | (refine stre0_ ?_))
           | ((with_reducible refine callid_ ?_); have hp := bnd_ H; clear H; obtain ⟨_, ht, H⟩ := hp; first
             | (refine call_ (spec_l1In_ev ht) rfl rfl ?_)
             | (refine call_ (spec_DiskOk_ev ht) rfl rfl ?_))
           | ((with_reducible refine loopid_ ?_); refine loopK_ (fun n s h => ∃ x1 x5 x6 x767000 x767001 x767002 x767003, spec_ReadSec.l0 n x1 x5 x6 x767000 x767001 x767002 x767003 = some r ∧ s = spr 49 0 [(1, .v (.i .i64 x1)), (2, .ptr 0 0), (5, .v (.row (List.map e5 x5))), (6, .v (.i .i64 x6))] ∧ h = [.box 46 [.v (.row (List.map e22 x767000)), .v (.row (List.map e109 x767001)), .v (.i .i64 x767002), .v (.b x767003)]]) [] [] [] (bsp 49 0 [1, 2, 5, 6]) _ (by (conv => whnf); refine ⟨_, _, _, _, _, _, _, H, rfl, rfl⟩) ?_; rintro n s h hn ⟨x1, x5, x6, x767000, x767001, x767002, x767003, H, rfl, rfl⟩; have hk := suc_ (g := fun k => spec_ReadSec.l0 k _ _ _ _ _ _ _) H (by simp only [spec_ReadSec.l0]); obtain ⟨kf, hk⟩ := hk; subst hk; simp only [spec_ReadSec.l0, Option.bind_some, List.nil_append, if_true, if_false, Bool.false_eq_true, nilB, nilE] at H)
           | ((with_reducible refine nextid_ ?_); refine nextK_ (P := fun m => spec_ReadSec.l0 m _ _ _ _ _ _ _ = some _) H (bsp 49 0 [1, 2, 5, 6]) ?_ ?_ ?_; (conv => whnf); refine ⟨_, _, _, _, _, _, _, H, ?_, rfl⟩; all_goals first | omega | rfl | (repeat' (first | rfl | refine own_eq ?_ | refine cons_eq ?_ ?_ | refine vi_eq ?_ | simp only [List.length_map, List.length_set, wm_])))
           | ((with_reducible refine exid_ ?_); have hk := idH_ (F := fun k => spec_ReadSec.j0 k _ _ _ _ _ _) H; refine weakK_ (ex := []) (us := []) (bs := []) (ms := (bsp 49 0 [1, 2, 18])) ?_; (conv => whnf); refine ⟨_, _, _, _, _, _, hk, rfl, rfl⟩)
           | ((with_reducible refine allid_ ?_); intro s h hj; clear H; obtain ⟨x1, x18, x767000, x767001, x767002, x767003, H, rfl, rfl⟩ := hj; have hk := suc_ (g := fun k => spec_ReadSec.j0 k _ _ _ _ _ _) H (by simp only [spec_ReadSec.j0]); obtain ⟨kf, hk⟩ := hk; subst hk; simp only [spec_ReadSec.j0, Option.bind_some, List.nil_append, if_true, if_false, Bool.false_eq_true, nilB, nilE] at H)
           | ((with_reducible refine finid_ ?_); refine finK_ [] ?_; (conv => whnf); replace H := Option.some.inj H; subst H; (conv => whnf); refine ⟨rfl, ?_⟩; first | rfl | (repeat' (first | rfl | refine own_eq ?_ | refine tup_eq ?_ | refine agg_eq ?_ | refine cons_eq ?_ ?_ | refine vi_eq ?_ | simp only [List.length_map, List.length_set, wm_]))))
end Go.Proofs.YthkepmicdpgbbaaGreatDoor.E

/- What the functions' codes come to. -/
namespace Go.Proofs.YthkepmicdpgbbaaGreatDoor.E
open Go Go.RowKit Go.Proofs.YthkepmicdpgbbaaGreatDoorW.PrintWords Go.Proofs.YthkepmicdpgbbaaGreatDoor.P
set_option linter.unusedVariables false
set_option linter.unusedSimpArgs false
set_option maxHeartbeats 0
set_option maxRecDepth 100000
theorem spec_l5At_ev {a0 : Int} {a1 : Int} {r : Int} (H : spec_l5At.f a0 a1 = some r) : Spec Tryz.prog 68 [.v (.i .i64 a0), .v (.i .i64 a1)] [] (.v (.i .i64 r)) [] := by
  simp only [spec_l5At.f, Option.bind_some, List.nil_append, if_true, if_false, Bool.false_eq_true, nilB, nilE] at H
  refine fn_okF (E := env) Tryz.func68 (by rfl) rfl (n := 9) (by rfl) ?_
  repeat' ((conv => whnf); first
           | ((with_reducible have hp := peel_ H); clear H; obtain ⟨_, H⟩ := hp)
           | ((with_reducible have hp := peeln_ H); clear H; obtain ⟨_, H⟩ := hp)
           | (with_reducible replace H := itet_ H)
           | (with_reducible replace H := itef_ H)
           | ((with_reducible refine sideid_ ?_); refine side_ ?_)
           | ((with_reducible refine seqid_ ?_); refine sgo_ ?_)
           | ((with_reducible refine brid_ ?_); first
             | (with_reducible refine brct_ ?_)
             | (with_reducible refine brcf_ ?_)
             | (with_reducible refine brt_ ?_)
             | (with_reducible refine brf_ ?_)
             | (refine br_ H (by with_reducible first | rfl | exact bi_ _ _ | exact bd_ _ | exact bs_ _ _) (fun _ H => ?_) (fun _ H => ?_))
             | (refine brn_ H (by with_reducible first | rfl | exact bni_ _ _ | exact bin_ _ _ | exact bn_ _ | exact bs0_ _ _ | exact bnn_ _) (fun _ H => ?_) (fun _ H => ?_))
             | (refine brt_ ?_)
             | (refine brf_ ?_)
             | (refine br_ H (by exact Eq.refl _) (fun _ H => ?_) (fun _ H => ?_))
             | (refine brn_ H (by exact Eq.refl _) (fun _ H => ?_) (fun _ H => ?_)))
           | ((with_reducible refine br2id_ ?_); first
             | (refine br2t_ ?_)
             | (refine br2f_ ?_))
           | ((with_reducible refine normid_ ?_); first
             | (refine norm_nilapp ?_)
             | (refine norm_appnil ?_)
             | (refine norm_app ?_)
             | (refine norm_t ?_)
             | (refine norm_d ?_)
             | (refine norm_td ?_))
           | ((with_reducible refine lenid_ ?_); refine lenm_ ?_)
           | ((with_reducible refine strid_ ?_); first
             | (refine stre_ ?_)
             | (refine stre0_ ?_))
           | ((with_reducible refine finid_ ?_); refine finK_ [] ?_; (conv => whnf); replace H := Option.some.inj H; subst H; (conv => whnf); refine ⟨rfl, ?_⟩; first | rfl | (repeat' (first | rfl | refine own_eq ?_ | refine tup_eq ?_ | refine agg_eq ?_ | refine cons_eq ?_ ?_ | refine vi_eq ?_ | simp only [List.length_map, List.length_set, wm_]))))
end Go.Proofs.YthkepmicdpgbbaaGreatDoor.E

/- What the functions' codes come to. -/
namespace Go.Proofs.YthkepmicdpgbbaaGreatDoor.E
open Go Go.RowKit Go.Proofs.YthkepmicdpgbbaaGreatDoorW.PrintWords Go.Proofs.YthkepmicdpgbbaaGreatDoor.P
set_option linter.unusedVariables false
set_option linter.unusedSimpArgs false
set_option maxHeartbeats 0
set_option maxRecDepth 100000
theorem spec_KnownOk_ev {kf : Nat} {a0_0 : Int} {a0_1 : ByteArray} {a0_2 : Int} {a0_3 : ByteArray} {a0_4 : Int} {a0_5 : Int} {r : Bool} (H : spec_KnownOk.f kf a0_0 a0_1 a0_2 a0_3 a0_4 a0_5 = some r) : Spec Tryz.prog 110 [.agg [.v (.i .i64 a0_0), .v (.s a0_1), .v (.i .i64 a0_2), .v (.s a0_3), .v (.i .i64 a0_4), .v (.i .i64 a0_5)]] [] (.v (.b r)) [] := by
  simp only [spec_KnownOk.f, Option.bind_some, List.nil_append, if_true, if_false, Bool.false_eq_true, nilB, nilE] at H
  refine fn_okF (E := env) Tryz.func110 (by rfl) rfl (n := 69) (by rfl) ?_
  repeat' ((conv => whnf); first
           | ((with_reducible have hp := peel_ H); clear H; obtain ⟨_, H⟩ := hp)
           | ((with_reducible have hp := peeln_ H); clear H; obtain ⟨_, H⟩ := hp)
           | (with_reducible replace H := itet_ H)
           | (with_reducible replace H := itef_ H)
           | ((with_reducible refine sideid_ ?_); refine side_ ?_)
           | ((with_reducible refine seqid_ ?_); first
             | ((with_reducible refine scg_ 1 ?_); refine scut_ 1 (fun s h => ∃ x34 x782000 x782001 x782002 x782003 x782004 x782005, spec_KnownOk.j0 kf x34 x782000 x782001 x782002 x782003 x782004 x782005 = some r ∧ s = spr 70 0 [(1, .ptr 0 0), (34, .v (.b x34))] ∧ h = [.box 41 [.v (.i .i64 x782000), .v (.s x782001), .v (.i .i64 x782002), .v (.s x782003), .v (.i .i64 x782004), .v (.i .i64 x782005)]]) ?_ ?_)
             | ((with_reducible refine scg_ 3 ?_); refine scut_ 3 (fun s h => ∃ x53 x782000 x782001 x782002 x782003 x782004 x782005, spec_KnownOk.j1 kf x53 x782000 x782001 x782002 x782003 x782004 x782005 = some r ∧ s = spr 70 0 [(1, .ptr 0 0), (53, .v (.b x53))] ∧ h = [.box 41 [.v (.i .i64 x782000), .v (.s x782001), .v (.i .i64 x782002), .v (.s x782003), .v (.i .i64 x782004), .v (.i .i64 x782005)]]) ?_ ?_)
             | (refine sgo_ ?_))
           | ((with_reducible refine brid_ ?_); first
             | (with_reducible refine brct_ ?_)
             | (with_reducible refine brcf_ ?_)
             | (with_reducible refine brt_ ?_)
             | (with_reducible refine brf_ ?_)
             | (refine br_ H (by with_reducible first | rfl | exact bi_ _ _ | exact bd_ _ | exact bs_ _ _) (fun _ H => ?_) (fun _ H => ?_))
             | (refine brn_ H (by with_reducible first | rfl | exact bni_ _ _ | exact bin_ _ _ | exact bn_ _ | exact bs0_ _ _ | exact bnn_ _) (fun _ H => ?_) (fun _ H => ?_))
             | (refine brt_ ?_)
             | (refine brf_ ?_)
             | (refine br_ H (by exact Eq.refl _) (fun _ H => ?_) (fun _ H => ?_))
             | (refine brn_ H (by exact Eq.refl _) (fun _ H => ?_) (fun _ H => ?_)))
           | ((with_reducible refine br2id_ ?_); first
             | (refine br2t_ ?_)
             | (refine br2f_ ?_))
           | ((with_reducible refine normid_ ?_); first
             | (refine norm_nilapp ?_)
             | (refine norm_appnil ?_)
             | (refine norm_app ?_)
             | (refine norm_t ?_)
             | (refine norm_d ?_)
             | (refine norm_td ?_))
           | ((with_reducible refine lenid_ ?_); refine lenm_ ?_)
           | ((with_reducible refine strid_ ?_); first
             | (refine stre_ ?_)
             | (refine stre0_ ?_))
           | ((with_reducible refine callid_ ?_); have hp := bnd_ H; clear H; obtain ⟨_, ht, H⟩ := hp; first
             | (refine call_ (spec_l1In_ev ht) rfl rfl ?_)
             | (refine call_ (spec_l4Text_ev ht) rfl rfl ?_))
           | ((with_reducible refine exid_ ?_); first
             | (have hk := idH_ (F := fun k => spec_KnownOk.j0 k _ _ _ _ _ _ _) H; refine weakK_ (ex := []) (us := []) (bs := []) (ms := (bsp 70 0 [1, 34])) ?_; (conv => whnf); refine ⟨_, _, _, _, _, _, _, hk, rfl, rfl⟩)
             | (have hk := idH_ (F := fun k => spec_KnownOk.j1 k _ _ _ _ _ _ _) H; refine weakK_ (ex := []) (us := []) (bs := []) (ms := (bsp 70 0 [1, 53])) ?_; (conv => whnf); refine ⟨_, _, _, _, _, _, _, hk, rfl, rfl⟩))
           | ((with_reducible refine allid_ ?_); first
             | (intro s h hj; clear H; obtain ⟨x34, x782000, x782001, x782002, x782003, x782004, x782005, H, rfl, rfl⟩ := hj; have hk := suc_ (g := fun k => spec_KnownOk.j0 k _ _ _ _ _ _ _) H (by simp only [spec_KnownOk.j0]); obtain ⟨kf, hk⟩ := hk; subst hk; simp only [spec_KnownOk.j0, Option.bind_some, List.nil_append, if_true, if_false, Bool.false_eq_true, nilB, nilE] at H)
             | (intro s h hj; clear H; obtain ⟨x53, x782000, x782001, x782002, x782003, x782004, x782005, H, rfl, rfl⟩ := hj; have hk := suc_ (g := fun k => spec_KnownOk.j1 k _ _ _ _ _ _ _) H (by simp only [spec_KnownOk.j1]); obtain ⟨kf, hk⟩ := hk; subst hk; simp only [spec_KnownOk.j1, Option.bind_some, List.nil_append, if_true, if_false, Bool.false_eq_true, nilB, nilE] at H))
           | ((with_reducible refine finid_ ?_); refine finK_ [] ?_; (conv => whnf); replace H := Option.some.inj H; subst H; (conv => whnf); refine ⟨rfl, ?_⟩; first | rfl | (repeat' (first | rfl | refine own_eq ?_ | refine tup_eq ?_ | refine agg_eq ?_ | refine cons_eq ?_ ?_ | refine vi_eq ?_ | simp only [List.length_map, List.length_set, wm_]))))
end Go.Proofs.YthkepmicdpgbbaaGreatDoor.E

/- What the functions' codes come to. -/
namespace Go.Proofs.YthkepmicdpgbbaaGreatDoor.E
open Go Go.RowKit Go.Proofs.YthkepmicdpgbbaaGreatDoorW.PrintWords Go.Proofs.YthkepmicdpgbbaaGreatDoor.P
set_option linter.unusedVariables false
set_option linter.unusedSimpArgs false
set_option maxHeartbeats 0
set_option maxRecDepth 100000
theorem spec_Apply_ev {kf : Nat} {a0_0 : Int} {a0_1 : ByteArray} {a0_2 : Int} {a0_3 : ByteArray} {a0_4 : Int} {a0_5 : Int} {a1_0 : Int} {a1_1 : Int} {a1_2 : Int} {a1_3 : ByteArray} {r : Int × ByteArray × Int × ByteArray × Int × Int × Bool} (H : spec_Apply.f kf a0_0 a0_1 a0_2 a0_3 a0_4 a0_5 a1_0 a1_1 a1_2 a1_3 = some r) : Spec Tryz.prog 69 [.agg [.v (.i .i64 a0_0), .v (.s a0_1), .v (.i .i64 a0_2), .v (.s a0_3), .v (.i .i64 a0_4), .v (.i .i64 a0_5)], .agg [.v (.i .i64 a1_0), .v (.i .i64 a1_1), .v (.i .i64 a1_2), .v (.s a1_3)]] [] (.tup [.agg [.v (.i .i64 r.1), .v (.s r.2.1), .v (.i .i64 r.2.2.1), .v (.s r.2.2.2.1), .v (.i .i64 r.2.2.2.2.1), .v (.i .i64 r.2.2.2.2.2.1)], .v (.b r.2.2.2.2.2.2)]) [] := by
  simp only [spec_Apply.f, Option.bind_some, List.nil_append, if_true, if_false, Bool.false_eq_true, nilB, nilE] at H
  refine fn_okF (E := env) Tryz.func69 (by rfl) rfl (n := 60) (by rfl) ?_
  repeat' ((conv => whnf); first
           | ((with_reducible have hp := peel_ H); clear H; obtain ⟨_, H⟩ := hp)
           | ((with_reducible have hp := peeln_ H); clear H; obtain ⟨_, H⟩ := hp)
           | (with_reducible replace H := itet_ H)
           | (with_reducible replace H := itef_ H)
           | ((with_reducible refine sideid_ ?_); refine side_ ?_)
           | ((with_reducible refine seqid_ ?_); first
             | ((with_reducible refine scg_ 1 ?_); refine scut_ 1 (fun s h => ∃ x14 x790000 x790001 x790002 x790003 x790004 x790005 x791000 x791001 x791002 x791003, spec_Apply.j0 kf x14 x790000 x790001 x790002 x790003 x790004 x790005 x791000 x791001 x791002 x791003 = some r ∧ s = spr 62 0 [(2, .ptr 0 0), (3, .ptr 1 0), (4, .ptr 2 0), (14, .v (.b x14))] ∧ h = [.box 41 [.v (.i .i64 x790000), .v (.s x790001), .v (.i .i64 x790002), .v (.s x790003), .v (.i .i64 x790004), .v (.i .i64 x790005)], .box 25 [.v (.i .i64 x791000), .v (.i .i64 x791001), .v (.i .i64 x791002), .v (.s x791003)], .box 41 [.v (.i .i64 0), .v (.s (⟨#[]⟩ : ByteArray)), .v (.i .i64 0), .v (.s (⟨#[]⟩ : ByteArray)), .v (.i .i64 0), .v (.i .i64 0)]]) ?_ ?_)
             | (refine sgo_ ?_))
           | ((with_reducible refine brid_ ?_); first
             | (with_reducible refine brct_ ?_)
             | (with_reducible refine brcf_ ?_)
             | (with_reducible refine brt_ ?_)
             | (with_reducible refine brf_ ?_)
             | (refine br_ H (by with_reducible first | rfl | exact bi_ _ _ | exact bd_ _ | exact bs_ _ _) (fun _ H => ?_) (fun _ H => ?_))
             | (refine brn_ H (by with_reducible first | rfl | exact bni_ _ _ | exact bin_ _ _ | exact bn_ _ | exact bs0_ _ _ | exact bnn_ _) (fun _ H => ?_) (fun _ H => ?_))
             | (refine brt_ ?_)
             | (refine brf_ ?_)
             | (refine br_ H (by exact Eq.refl _) (fun _ H => ?_) (fun _ H => ?_))
             | (refine brn_ H (by exact Eq.refl _) (fun _ H => ?_) (fun _ H => ?_)))
           | ((with_reducible refine br2id_ ?_); first
             | (refine br2t_ ?_)
             | (refine br2f_ ?_))
           | ((with_reducible refine normid_ ?_); first
             | (refine norm_nilapp ?_)
             | (refine norm_appnil ?_)
             | (refine norm_app ?_)
             | (refine norm_t ?_)
             | (refine norm_d ?_)
             | (refine norm_td ?_))
           | ((with_reducible refine lenid_ ?_); refine lenm_ ?_)
           | ((with_reducible refine strid_ ?_); first
             | (refine stre_ ?_)
             | (refine stre0_ ?_))
           | ((with_reducible refine callid_ ?_); have hp := bnd_ H; clear H; obtain ⟨_, ht, H⟩ := hp; first
             | (refine call_ (spec_RecOk_ev ht) rfl rfl ?_)
             | (refine call_ (spec_KnownOk_ev ht) rfl rfl ?_))
           | ((with_reducible refine exid_ ?_); have hk := idH_ (F := fun k => spec_Apply.j0 k _ _ _ _ _ _ _ _ _ _ _) H; refine weakK_ (ex := []) (us := []) (bs := []) (ms := (bsp 62 0 [2, 3, 4, 14])) ?_; (conv => whnf); refine ⟨_, _, _, _, _, _, _, _, _, _, _, hk, rfl, rfl⟩)
           | ((with_reducible refine allid_ ?_); intro s h hj; clear H; obtain ⟨x14, x790000, x790001, x790002, x790003, x790004, x790005, x791000, x791001, x791002, x791003, H, rfl, rfl⟩ := hj; have hk := suc_ (g := fun k => spec_Apply.j0 k _ _ _ _ _ _ _ _ _ _ _) H (by simp only [spec_Apply.j0]); obtain ⟨kf, hk⟩ := hk; subst hk; simp only [spec_Apply.j0, Option.bind_some, List.nil_append, if_true, if_false, Bool.false_eq_true, nilB, nilE] at H)
           | ((with_reducible refine finid_ ?_); refine finK_ [] ?_; (conv => whnf); replace H := Option.some.inj H; subst H; (conv => whnf); refine ⟨rfl, ?_⟩; first | rfl | (repeat' (first | rfl | refine own_eq ?_ | refine tup_eq ?_ | refine agg_eq ?_ | refine cons_eq ?_ ?_ | refine vi_eq ?_ | simp only [List.length_map, List.length_set, wm_]))))
end Go.Proofs.YthkepmicdpgbbaaGreatDoor.E

/- What the functions' codes come to. -/
namespace Go.Proofs.YthkepmicdpgbbaaGreatDoor.E
open Go Go.RowKit Go.Proofs.YthkepmicdpgbbaaGreatDoorW.PrintWords Go.Proofs.YthkepmicdpgbbaaGreatDoor.P
set_option linter.unusedVariables false
set_option linter.unusedSimpArgs false
set_option maxHeartbeats 0
set_option maxRecDepth 100000
theorem spec_Replay_ev {kf : Nat} {l0_0 : List (List Int)} {l0_1 : List (S109)} {a0_2 : Int} {a0_3 : Bool} {a1 : Int} {r : Int × ByteArray × Int × ByteArray × Int × Int × Int} (H : spec_Replay.f kf l0_0 l0_1 a0_2 a0_3 a1 = some r) : Spec Tryz.prog 20 [.agg [.v (.row (List.map e22 l0_0)), .v (.row (List.map e109 l0_1)), .v (.i .i64 a0_2), .v (.b a0_3)], .v (.i .i64 a1)] [] (.tup [.agg [.v (.i .i64 r.1), .v (.s r.2.1), .v (.i .i64 r.2.2.1), .v (.s r.2.2.2.1), .v (.i .i64 r.2.2.2.2.1), .v (.i .i64 r.2.2.2.2.2.1)], .v (.i .i64 r.2.2.2.2.2.2)]) [] := by
  simp only [spec_Replay.f, Option.bind_some, List.nil_append, if_true, if_false, Bool.false_eq_true, nilB, nilE] at H
  refine fn_okF (E := env) Tryz.func20 (by rfl) rfl (n := 58) (by rfl) ?_
  repeat' ((conv => whnf); first
           | ((with_reducible have hp := peel_ H); clear H; obtain ⟨_, H⟩ := hp)
           | ((with_reducible have hp := peeln_ H); clear H; obtain ⟨_, H⟩ := hp)
           | (with_reducible replace H := itet_ H)
           | (with_reducible replace H := itef_ H)
           | ((with_reducible refine sideid_ ?_); refine side_ ?_)
           | ((with_reducible refine seqid_ ?_); first
             | ((with_reducible refine scg_ 8 ?_); refine scut_ 8 (fun s h => ∃ x1 x7 x45 x796000 x796001 x796002 x796003 x798000 x798001 x798002 x798003 x798004 x798005 x811000 x811001 x811002 x811003, spec_Replay.j1 kf x1 x7 x45 x796000 x796001 x796002 x796003 x798000 x798001 x798002 x798003 x798004 x798005 x811000 x811001 x811002 x811003 = some r ∧ s = spr 60 0 [(1, .v (.i .i64 x1)), (2, .ptr 0 0), (4, .ptr 1 0), (6, .ptr 2 0), (7, .v (.i .i64 x7)), (10, .ptr 3 0), (45, .v (.b x45))] ∧ h = [.box 46 [.v (.row (List.map e22 x796000)), .v (.row (List.map e109 x796001)), .v (.i .i64 x796002), .v (.b x796003)], .box 41 [.v (.i .i64 0), .v (.s (⟨#[]⟩ : ByteArray)), .v (.i .i64 0), .v (.s (⟨#[]⟩ : ByteArray)), .v (.i .i64 0), .v (.i .i64 0)], .box 41 [.v (.i .i64 x798000), .v (.s x798001), .v (.i .i64 x798002), .v (.s x798003), .v (.i .i64 x798004), .v (.i .i64 x798005)], .box 25 [.v (.i .i64 x811000), .v (.i .i64 x811001), .v (.i .i64 x811002), .v (.s x811003)]]) ?_ ?_)
             | (refine sgo_ ?_))
           | ((with_reducible refine brid_ ?_); first
             | (with_reducible refine brct_ ?_)
             | (with_reducible refine brcf_ ?_)
             | (with_reducible refine brt_ ?_)
             | (with_reducible refine brf_ ?_)
             | (refine br_ H (by with_reducible first | rfl | exact bi_ _ _ | exact bd_ _ | exact bs_ _ _) (fun _ H => ?_) (fun _ H => ?_))
             | (refine brn_ H (by with_reducible first | rfl | exact bni_ _ _ | exact bin_ _ _ | exact bn_ _ | exact bs0_ _ _ | exact bnn_ _) (fun _ H => ?_) (fun _ H => ?_))
             | (refine brt_ ?_)
             | (refine brf_ ?_)
             | (refine br_ H (by exact Eq.refl _) (fun _ H => ?_) (fun _ H => ?_))
             | (refine brn_ H (by exact Eq.refl _) (fun _ H => ?_) (fun _ H => ?_)))
           | ((with_reducible refine br2id_ ?_); first
             | (refine br2t_ ?_)
             | (refine br2f_ ?_))
           | ((with_reducible refine normid_ ?_); first
             | (refine norm_nilapp ?_)
             | (refine norm_appnil ?_)
             | (refine norm_app ?_)
             | (refine norm_t ?_)
             | (refine norm_d ?_)
             | (refine norm_td ?_)
             | (refine norm_set (e := 5) (f := e5) _ rfl ?_)
             | (refine norm_rep (e := 5) (f := e5) _ rfl ?_))
           | ((with_reducible refine elemid_ ?_); refine elem_ (f := e5) 0 (rd _ _) rfl ?_ (by first | assumption | decide | omega) (by first | assumption | omega))
           | ((with_reducible refine lenid_ ?_); refine lenm_ ?_)
           | ((with_reducible refine strid_ ?_); first
             | (refine stre_ ?_)
             | (refine stre0_ ?_))
           | ((with_reducible refine callid_ ?_); have hp := bnd_ H; clear H; obtain ⟨_, ht, H⟩ := hp; first
             | (refine call_ (spec_GetRec_ev ht) rfl rfl ?_)
             | (refine call_ (spec_l1In_ev ht) rfl rfl ?_)
             | (refine call_ (spec_ReadSec_ev ht) rfl rfl ?_)
             | (refine call_ (spec_l5At_ev ht) rfl rfl ?_)
             | (refine call_ (spec_Apply_ev ht) rfl rfl ?_))
           | ((with_reducible refine loopid_ ?_); refine loopK_ (fun n s h => ∃ x1 x7 x796000 x796001 x796002 x796003 x798000 x798001 x798002 x798003 x798004 x798005, spec_Replay.l0 n x1 x7 x796000 x796001 x796002 x796003 x798000 x798001 x798002 x798003 x798004 x798005 = some r ∧ s = spr 60 0 [(1, .v (.i .i64 x1)), (2, .ptr 0 0), (4, .ptr 1 0), (6, .ptr 2 0), (7, .v (.i .i64 x7))] ∧ h = [.box 46 [.v (.row (List.map e22 x796000)), .v (.row (List.map e109 x796001)), .v (.i .i64 x796002), .v (.b x796003)], .box 41 [.v (.i .i64 0), .v (.s (⟨#[]⟩ : ByteArray)), .v (.i .i64 0), .v (.s (⟨#[]⟩ : ByteArray)), .v (.i .i64 0), .v (.i .i64 0)], .box 41 [.v (.i .i64 x798000), .v (.s x798001), .v (.i .i64 x798002), .v (.s x798003), .v (.i .i64 x798004), .v (.i .i64 x798005)]]) [] [] [] (bsp 60 0 [1, 2, 4, 6, 7]) _ (by (conv => whnf); refine ⟨_, _, _, _, _, _, _, _, _, _, _, _, H, rfl, rfl⟩) ?_; rintro n s h hn ⟨x1, x7, x796000, x796001, x796002, x796003, x798000, x798001, x798002, x798003, x798004, x798005, H, rfl, rfl⟩; have hk := suc_ (g := fun k => spec_Replay.l0 k _ _ _ _ _ _ _ _ _ _ _ _) H (by simp only [spec_Replay.l0]); obtain ⟨kf, hk⟩ := hk; subst hk; simp only [spec_Replay.l0, Option.bind_some, List.nil_append, if_true, if_false, Bool.false_eq_true, nilB, nilE] at H)
           | ((with_reducible refine nextid_ ?_); refine nextK_ (P := fun m => spec_Replay.l0 m _ _ _ _ _ _ _ _ _ _ _ _ = some _) H (bsp 60 0 [1, 2, 4, 6, 7]) ?_ ?_ ?_; (conv => whnf); refine ⟨_, _, _, _, _, _, _, _, _, _, _, _, H, ?_, rfl⟩; all_goals first | omega | rfl | (repeat' (first | rfl | refine own_eq ?_ | refine cons_eq ?_ ?_ | refine vi_eq ?_ | simp only [List.length_map, List.length_set, wm_])))
           | ((with_reducible refine exid_ ?_); have hk := idH_ (F := fun k => spec_Replay.j1 k _ _ _ _ _ _ _ _ _ _ _ _ _ _ _ _ _) H; refine weakK_ (ex := []) (us := []) (bs := []) (ms := (bsp 60 0 [1, 2, 4, 6, 7, 10, 45])) ?_; (conv => whnf); refine ⟨_, _, _, _, _, _, _, _, _, _, _, _, _, _, _, _, _, hk, rfl, rfl⟩)
           | ((with_reducible refine allid_ ?_); intro s h hj; clear H; obtain ⟨x1, x7, x45, x796000, x796001, x796002, x796003, x798000, x798001, x798002, x798003, x798004, x798005, x811000, x811001, x811002, x811003, H, rfl, rfl⟩ := hj; have hk := suc_ (g := fun k => spec_Replay.j1 k _ _ _ _ _ _ _ _ _ _ _ _ _ _ _ _ _) H (by simp only [spec_Replay.j1]); obtain ⟨kf, hk⟩ := hk; subst hk; simp only [spec_Replay.j1, Option.bind_some, List.nil_append, if_true, if_false, Bool.false_eq_true, nilB, nilE] at H)
           | ((with_reducible refine finid_ ?_); refine finK_ [] ?_; (conv => whnf); replace H := Option.some.inj H; subst H; (conv => whnf); refine ⟨rfl, ?_⟩; first | rfl | (repeat' (first | rfl | refine own_eq ?_ | refine tup_eq ?_ | refine agg_eq ?_ | refine cons_eq ?_ ?_ | refine vi_eq ?_ | simp only [List.length_map, List.length_set, wm_]))))
end Go.Proofs.YthkepmicdpgbbaaGreatDoor.E
