/- Texts of this seat's claims, put together: E_laws_eqDisk, E_laws_FnExactReplay, E_spec_HeadOf, E_spec_GetHead, E_spec_OpenJour -/
import Derived.Test.YthkepmicdpgbbaaGreatDoorPkZB5
import Derived.Test.YthkepmicdpgbbaaGreatDoorPkZE1
import Derived.Test.YthkepmicdpgbbaaGreatDoorPkZE10
import Derived.Test.YthkepmicdpgbbaaGreatDoorPkZE11
import Derived.Test.YthkepmicdpgbbaaGreatDoorPkZE12
import Derived.Test.YthkepmicdpgbbaaGreatDoorPkZE13
import Derived.Test.YthkepmicdpgbbaaGreatDoorPkZE14
import Derived.Test.YthkepmicdpgbbaaGreatDoorPkZE2
import Derived.Test.YthkepmicdpgbbaaGreatDoorPkZE3
import Derived.Test.YthkepmicdpgbbaaGreatDoorPkZE4
import Derived.Test.YthkepmicdpgbbaaGreatDoorPkZE5
import Derived.Test.YthkepmicdpgbbaaGreatDoorPkZE6
import Derived.Test.YthkepmicdpgbbaaGreatDoorPkZE7
import Derived.Test.YthkepmicdpgbbaaGreatDoorPkZE8
import Derived.Test.YthkepmicdpgbbaaGreatDoorPkZE9
/- What the functions' codes come to. -/
namespace Go.Proofs.YthkepmicdpgbbaaGreatDoor.E
open Go Go.RowKit Go.Proofs.YthkepmicdpgbbaaGreatDoorW.PrintWords Go.Proofs.YthkepmicdpgbbaaGreatDoor.P
set_option linter.unusedVariables false
set_option linter.unusedSimpArgs false
set_option maxHeartbeats 0
set_option maxRecDepth 100000
theorem laws_eqDisk_ev {kf : Nat} {l0_0 : List (List Int)} {l0_1 : List (S109)} {a0_2 : Int} {a0_3 : Bool} {l1_0 : List (List Int)} {l1_1 : List (S109)} {a1_2 : Int} {a1_3 : Bool} {r : Bool} (H : laws_eqDisk.f kf l0_0 l0_1 a0_2 a0_3 l1_0 l1_1 a1_2 a1_3 = some r) : Spec Tryz.prog 24 [.agg [.v (.row (List.map e22 l0_0)), .v (.row (List.map e109 l0_1)), .v (.i .i64 a0_2), .v (.b a0_3)], .agg [.v (.row (List.map e22 l1_0)), .v (.row (List.map e109 l1_1)), .v (.i .i64 a1_2), .v (.b a1_3)]] [] (.v (.b r)) [] := by
  simp only [laws_eqDisk.f, Option.bind_some, List.nil_append, if_true, if_false, Bool.false_eq_true, nilB, nilE] at H
  refine fn_okF (E := env) Tryz.func24 (by rfl) rfl (n := 25) (by rfl) ?_
  repeat' ((conv => whnf); first
           | ((with_reducible have hp := peel_ H); clear H; obtain ⟨_, H⟩ := hp)
           | ((with_reducible have hp := peeln_ H); clear H; obtain ⟨_, H⟩ := hp)
           | (with_reducible replace H := itet_ H)
           | (with_reducible replace H := itef_ H)
           | ((with_reducible refine sideid_ ?_); refine side_ ?_)
           | ((with_reducible refine seqid_ ?_); refine sgo_ ?_)
           | ((with_reducible refine brid_ ?_); first
             | (with_reducible refine brct_ ?_)
             | (with_reducible refine brcf_ ?_)
             | (with_reducible refine brt_ ?_)
             | (with_reducible refine brf_ ?_)
             | (refine br_ H (by with_reducible first | rfl | exact bi_ _ _ | exact bd_ _ | exact bs_ _ _) (fun _ H => ?_) (fun _ H => ?_))
             | (refine brn_ H (by with_reducible first | rfl | exact bni_ _ _ | exact bin_ _ _ | exact bn_ _ | exact bs0_ _ _ | exact bnn_ _) (fun _ H => ?_) (fun _ H => ?_))
             | (refine brt_ ?_)
             | (refine brf_ ?_)
             | (refine br_ H (by exact Eq.refl _) (fun _ H => ?_) (fun _ H => ?_))
             | (refine brn_ H (by exact Eq.refl _) (fun _ H => ?_) (fun _ H => ?_)))
           | ((with_reducible refine br2id_ ?_); first
             | (refine br2t_ ?_)
             | (refine br2f_ ?_))
           | ((with_reducible refine normid_ ?_); first
             | (refine norm_nilapp ?_)
             | (refine norm_appnil ?_)
             | (refine norm_app ?_)
             | (refine norm_t ?_)
             | (refine norm_d ?_)
             | (refine norm_td ?_)
             | (refine norm_set (e := 22) (f := e22) _ rfl ?_)
             | (refine norm_rep (e := 22) (f := e22) _ rfl ?_)
             | (refine norm_rep (e := 22) (f := e22) [] rfl ?_)
             | (refine norm_set (e := 22) (f := e22) [] rfl ?_)
             | (refine norm_set (e := 109) (f := e109) ⟨_, _⟩ rfl ?_)
             | (refine norm_rep (e := 109) (f := e109) ⟨_, _⟩ rfl ?_)
             | (refine norm_rep (e := 109) (f := e109) ⟨_, []⟩ rfl ?_)
             | (refine norm_set (e := 109) (f := e109) ⟨_, []⟩ rfl ?_))
           | ((with_reducible refine elemid_ ?_); first
             | (refine elem_ (f := e22) [] (rdOf [] _ _) rfl ?_ (by first | assumption | decide | omega) (by first | assumption | omega))
             | (refine elem_ (f := e109) z109 (rd_T109 _ _) rfl ?_ (by first | assumption | decide | omega) (by first | assumption | omega)))
           | ((with_reducible refine lenid_ ?_); refine lenm_ ?_)
           | ((with_reducible refine strid_ ?_); first
             | (refine stre_ ?_)
             | (refine stre0_ ?_))
           | ((with_reducible refine callid_ ?_); have hp := bnd_ H; clear H; obtain ⟨_, ht, H⟩ := hp; first
             | (refine call_ (laws_eqByteSS_ev ht) rfl rfl ?_)
             | (refine call_ (laws_eqWrS_ev ht) rfl rfl ?_))
           | ((with_reducible refine finid_ ?_); refine finK_ [] ?_; (conv => whnf); replace H := Option.some.inj H; subst H; (conv => whnf); refine ⟨rfl, ?_⟩; first | rfl | (repeat' (first | rfl | refine own_eq ?_ | refine tup_eq ?_ | refine agg_eq ?_ | refine cons_eq ?_ ?_ | refine vi_eq ?_ | simp only [List.length_map, List.length_set, wm_]))))
end Go.Proofs.YthkepmicdpgbbaaGreatDoor.E

/- What the functions' codes come to. -/
namespace Go.Proofs.YthkepmicdpgbbaaGreatDoor.E
open Go Go.RowKit Go.Proofs.YthkepmicdpgbbaaGreatDoorW.PrintWords Go.Proofs.YthkepmicdpgbbaaGreatDoor.P
set_option linter.unusedVariables false
set_option linter.unusedSimpArgs false
set_option maxHeartbeats 0
set_option maxRecDepth 100000
theorem laws_FnExactReplay_ev {kf : Nat} {l0_0 : List (List Int)} {l0_1 : List (S125)} {a0_2 : Int} {a0_3 : Bool} {a1 : Int} {r : Bool} (H : laws_FnExactReplay.f kf l0_0 l0_1 a0_2 a0_3 a1 = some r) : Spec Tryz.prog 4 [.agg [.v (.row (List.map e22 l0_0)), .v (.row (List.map e125 l0_1)), .v (.i .i64 a0_2), .v (.b a0_3)], .v (.i .i64 a1)] [] (.v (.b r)) [] := by
  simp only [laws_FnExactReplay.f, Option.bind_some, List.nil_append, if_true, if_false, Bool.false_eq_true, nilB, nilE] at H
  refine fn_okF (E := env) Tryz.func4 (by rfl) rfl (n := 43) (by rfl) ?_
  repeat' ((conv => whnf); first
           | ((with_reducible have hp := peel_ H); clear H; obtain ⟨_, H⟩ := hp)
           | ((with_reducible have hp := peeln_ H); clear H; obtain ⟨_, H⟩ := hp)
           | (with_reducible replace H := itet_ H)
           | (with_reducible replace H := itef_ H)
           | (have hk := suc_ (g := fun k => laws_FnExactReplay.j0 k _ _ _ _ _ _ _ _ _) H (by simp only [laws_FnExactReplay.j0]); obtain ⟨kf, hk⟩ := hk; subst hk; simp only [laws_FnExactReplay.j0, Option.bind_some, List.nil_append, if_true, if_false, Bool.false_eq_true, nilB, nilE] at H)
           | ((with_reducible refine sideid_ ?_); refine side_ ?_)
           | ((with_reducible refine seqid_ ?_); refine sgo_ ?_)
           | ((with_reducible refine brid_ ?_); first
             | (with_reducible refine brct_ ?_)
             | (with_reducible refine brcf_ ?_)
             | (with_reducible refine brt_ ?_)
             | (with_reducible refine brf_ ?_)
             | (refine br_ H (by with_reducible first | rfl | exact bi_ _ _ | exact bd_ _ | exact bs_ _ _) (fun _ H => ?_) (fun _ H => ?_))
             | (refine brn_ H (by with_reducible first | rfl | exact bni_ _ _ | exact bin_ _ _ | exact bn_ _ | exact bs0_ _ _ | exact bnn_ _) (fun _ H => ?_) (fun _ H => ?_))
             | (refine brt_ ?_)
             | (refine brf_ ?_)
             | (refine br_ H (by exact Eq.refl _) (fun _ H => ?_) (fun _ H => ?_))
             | (refine brn_ H (by exact Eq.refl _) (fun _ H => ?_) (fun _ H => ?_)))
           | ((with_reducible refine br2id_ ?_); first
             | (refine br2t_ ?_)
             | (refine br2f_ ?_))
           | ((with_reducible refine normid_ ?_); first
             | (refine norm_nilapp ?_)
             | (refine norm_appnil ?_)
             | (refine norm_app ?_)
             | (refine norm_t ?_)
             | (refine norm_d ?_)
             | (refine norm_td ?_))
           | ((with_reducible refine lenid_ ?_); refine lenm_ ?_)
           | ((with_reducible refine strid_ ?_); first
             | (refine stre_ ?_)
             | (refine stre0_ ?_))
           | ((with_reducible refine callid_ ?_); have hp := bnd_ H; clear H; obtain ⟨_, ht, H⟩ := hp; first
             | (refine call_ (laws_szDisk_ev ht) rfl rfl ?_)
             | (refine call_ (spec_Replay_ev ht) rfl rfl ?_)
             | (refine call_ (laws_toDisk_ev ht) rfl rfl ?_)
             | (refine call_ (impl_Replay_ev ht) rfl rfl ?_)
             | (refine call_ (laws_eqKnown_ev ht) rfl rfl ?_)
             | (refine call_ (laws_eqDisk_ev ht) rfl rfl ?_))
           | ((with_reducible refine finid_ ?_); refine finK_ [] ?_; (conv => whnf); replace H := Option.some.inj H; subst H; (conv => whnf); refine ⟨rfl, ?_⟩; first | rfl | (repeat' (first | rfl | refine own_eq ?_ | refine tup_eq ?_ | refine agg_eq ?_ | refine cons_eq ?_ ?_ | refine vi_eq ?_ | simp only [List.length_map, List.length_set, wm_]))))
end Go.Proofs.YthkepmicdpgbbaaGreatDoor.E

/- What the functions' codes come to. -/
namespace Go.Proofs.YthkepmicdpgbbaaGreatDoor.E
open Go Go.RowKit Go.Proofs.YthkepmicdpgbbaaGreatDoorW.PrintWords Go.Proofs.YthkepmicdpgbbaaGreatDoor.P
set_option linter.unusedVariables false
set_option linter.unusedSimpArgs false
set_option maxHeartbeats 0
set_option maxRecDepth 100000
theorem spec_HeadOf_ev {kf : Nat} {a0 : Int} {a1 : Int} {r : List Int} (H : spec_HeadOf.f kf a0 a1 = some r) : Spec Tryz.prog 115 [.v (.i .i64 a0), .v (.i .i64 a1)] [] (.own 0 (List.map e5 r).length) [.arr 1 5 false (List.map e5 r)] := by
  simp only [spec_HeadOf.f, Option.bind_some, List.nil_append, if_true, if_false, Bool.false_eq_true, nilB, nilE] at H
  refine fn_okF (E := env) Tryz.func115 (by rfl) rfl (n := 22) (by rfl) ?_
  repeat' ((conv => whnf); first
           | ((with_reducible have hp := peel_ H); clear H; obtain ⟨_, H⟩ := hp)
           | ((with_reducible have hp := peeln_ H); clear H; obtain ⟨_, H⟩ := hp)
           | (with_reducible replace H := itet_ H)
           | (with_reducible replace H := itef_ H)
           | ((with_reducible refine sideid_ ?_); refine side_ ?_)
           | ((with_reducible refine seqid_ ?_); first
             | ((with_reducible refine scg_ 1 ?_); refine scut_ 1 (fun s h => ∃ x0 x1 x13, spec_HeadOf.j0 kf x0 x1 x13 = some r ∧ s = spr 24 0 [(0, .v (.i .i64 x0)), (1, .v (.i .i64 x1)), (13, .v (.b x13))] ∧ h = []) ?_ ?_)
             | (refine sgo_ ?_))
           | ((with_reducible refine brid_ ?_); first
             | (with_reducible refine brct_ ?_)
             | (with_reducible refine brcf_ ?_)
             | (with_reducible refine brt_ ?_)
             | (with_reducible refine brf_ ?_)
             | (refine br_ H (by with_reducible first | rfl | exact bi_ _ _ | exact bd_ _ | exact bs_ _ _) (fun _ H => ?_) (fun _ H => ?_))
             | (refine brn_ H (by with_reducible first | rfl | exact bni_ _ _ | exact bin_ _ _ | exact bn_ _ | exact bs0_ _ _ | exact bnn_ _) (fun _ H => ?_) (fun _ H => ?_))
             | (refine brt_ ?_)
             | (refine brf_ ?_)
             | (refine br_ H (by exact Eq.refl _) (fun _ H => ?_) (fun _ H => ?_))
             | (refine brn_ H (by exact Eq.refl _) (fun _ H => ?_) (fun _ H => ?_)))
           | ((with_reducible refine br2id_ ?_); first
             | (refine br2t_ ?_)
             | (refine br2f_ ?_))
           | ((with_reducible refine normid_ ?_); first
             | (refine norm_nilapp ?_)
             | (refine norm_appnil ?_)
             | (refine norm_app ?_)
             | (refine norm_t ?_)
             | (refine norm_d ?_)
             | (refine norm_td ?_)
             | (refine norm_set (e := 5) (f := e5) _ rfl ?_)
             | (refine norm_rep (e := 5) (f := e5) _ rfl ?_)
             | (refine norm_lit (e := 5) (n := 0) (f := e5) [] rfl ?_))
           | ((with_reducible refine elemid_ ?_); refine elem_ (f := e5) 0 (rd _ _) rfl ?_ (by first | assumption | decide | omega) (by first | assumption | omega))
           | ((with_reducible refine lenid_ ?_); refine lenm_ ?_)
           | ((with_reducible refine strid_ ?_); first
             | (refine stre_ ?_)
             | (refine stre0_ ?_))
           | ((with_reducible refine callid_ ?_); have hp := bnd_ H; clear H; obtain ⟨_, ht, H⟩ := hp; first
             | (refine call_ (spec_PutWord_ev ht) rfl rfl ?_)
             | (refine call_ (spec_Sum_ev ht) rfl rfl ?_)
             | (refine call_ (spec_l1In_ev ht) rfl rfl ?_))
           | ((with_reducible refine exid_ ?_); have hk := idH_ (F := fun k => spec_HeadOf.j0 k _ _ _) H; refine weakK_ (ex := []) (us := []) (bs := []) (ms := (bsp 24 0 [0, 1, 13])) ?_; (conv => whnf); refine ⟨_, _, _, hk, rfl, rfl⟩)
           | ((with_reducible refine allid_ ?_); intro s h hj; clear H; obtain ⟨x0, x1, x13, H, rfl, rfl⟩ := hj; have hk := suc_ (g := fun k => spec_HeadOf.j0 k _ _ _) H (by simp only [spec_HeadOf.j0]); obtain ⟨kf, hk⟩ := hk; subst hk; simp only [spec_HeadOf.j0, Option.bind_some, List.nil_append, if_true, if_false, Bool.false_eq_true, nilB, nilE] at H)
           | ((with_reducible refine finid_ ?_); refine finK_ [] ?_; (conv => whnf); replace H := Option.some.inj H; subst H; (conv => whnf); refine ⟨rfl, ?_⟩; first | rfl | (repeat' (first | rfl | refine own_eq ?_ | refine tup_eq ?_ | refine agg_eq ?_ | refine cons_eq ?_ ?_ | refine vi_eq ?_ | simp only [List.length_map, List.length_set, wm_]))))
end Go.Proofs.YthkepmicdpgbbaaGreatDoor.E

/- What the functions' codes come to. -/
namespace Go.Proofs.YthkepmicdpgbbaaGreatDoor.E
open Go Go.RowKit Go.Proofs.YthkepmicdpgbbaaGreatDoorW.PrintWords Go.Proofs.YthkepmicdpgbbaaGreatDoor.P
set_option linter.unusedVariables false
set_option linter.unusedSimpArgs false
set_option maxHeartbeats 0
set_option maxRecDepth 100000
theorem spec_GetHead_ev {kf : Nat} {l0 : List Int} {r : Int × Int × Bool} (H : spec_GetHead.f kf l0 = some r) : Spec Tryz.prog 77 [.v (.row (List.map e5 l0))] [] (.tup [.v (.i .i64 r.1), .v (.i .i64 r.2.1), .v (.b r.2.2)]) [] := by
  simp only [spec_GetHead.f, Option.bind_some, List.nil_append, if_true, if_false, Bool.false_eq_true, nilB, nilE] at H
  refine fn_okF (E := env) Tryz.func77 (by rfl) rfl (n := 39) (by rfl) ?_
  repeat' ((conv => whnf); first
           | ((with_reducible have hp := peel_ H); clear H; obtain ⟨_, H⟩ := hp)
           | ((with_reducible have hp := peeln_ H); clear H; obtain ⟨_, H⟩ := hp)
           | (with_reducible replace H := itet_ H)
           | (with_reducible replace H := itef_ H)
           | ((with_reducible refine sideid_ ?_); refine side_ ?_)
           | ((with_reducible refine seqid_ ?_); refine sgo_ ?_)
           | ((with_reducible refine brid_ ?_); first
             | (with_reducible refine brct_ ?_)
             | (with_reducible refine brcf_ ?_)
             | (with_reducible refine brt_ ?_)
             | (with_reducible refine brf_ ?_)
             | (refine br_ H (by with_reducible first | rfl | exact bi_ _ _ | exact bd_ _ | exact bs_ _ _) (fun _ H => ?_) (fun _ H => ?_))
             | (refine brn_ H (by with_reducible first | rfl | exact bni_ _ _ | exact bin_ _ _ | exact bn_ _ | exact bs0_ _ _ | exact bnn_ _) (fun _ H => ?_) (fun _ H => ?_))
             | (refine brt_ ?_)
             | (refine brf_ ?_)
             | (refine br_ H (by exact Eq.refl _) (fun _ H => ?_) (fun _ H => ?_))
             | (refine brn_ H (by exact Eq.refl _) (fun _ H => ?_) (fun _ H => ?_)))
           | ((with_reducible refine br2id_ ?_); first
             | (refine br2t_ ?_)
             | (refine br2f_ ?_))
           | ((with_reducible refine normid_ ?_); first
             | (refine norm_nilapp ?_)
             | (refine norm_appnil ?_)
             | (refine norm_app ?_)
             | (refine norm_t ?_)
             | (refine norm_d ?_)
             | (refine norm_td ?_)
             | (refine norm_set (e := 5) (f := e5) _ rfl ?_)
             | (refine norm_rep (e := 5) (f := e5) _ rfl ?_))
           | ((with_reducible refine elemid_ ?_); refine elem_ (f := e5) 0 (rd _ _) rfl ?_ (by first | assumption | decide | omega) (by first | assumption | omega))
           | ((with_reducible refine lenid_ ?_); refine lenm_ ?_)
           | ((with_reducible refine strid_ ?_); first
             | (refine stre_ ?_)
             | (refine stre0_ ?_))
           | ((with_reducible refine callid_ ?_); have hp := bnd_ H; clear H; obtain ⟨_, ht, H⟩ := hp; first
             | (refine call_ (spec_GetWord_ev ht) rfl rfl ?_)
             | (refine call_ (spec_l1Same_ev ht) rfl rfl ?_)
             | (refine call_ (spec_HeadOf_ev ht) rfl rfl ?_))
           | ((with_reducible refine finid_ ?_); refine finK_ [] ?_; (conv => whnf); replace H := Option.some.inj H; subst H; (conv => whnf); refine ⟨rfl, ?_⟩; first | rfl | (repeat' (first | rfl | refine own_eq ?_ | refine tup_eq ?_ | refine agg_eq ?_ | refine cons_eq ?_ ?_ | refine vi_eq ?_ | simp only [List.length_map, List.length_set, wm_]))))
end Go.Proofs.YthkepmicdpgbbaaGreatDoor.E

/- What the functions' codes come to. -/
namespace Go.Proofs.YthkepmicdpgbbaaGreatDoor.E
open Go Go.RowKit Go.Proofs.YthkepmicdpgbbaaGreatDoorW.PrintWords Go.Proofs.YthkepmicdpgbbaaGreatDoor.P
set_option linter.unusedVariables false
set_option linter.unusedSimpArgs false
set_option maxHeartbeats 0
set_option maxRecDepth 100000
theorem spec_OpenJour_ev {kf : Nat} {l0_0 : List (List Int)} {l0_1 : List (S109)} {a0_2 : Int} {a0_3 : Bool} {r : Int × ByteArray × Int × ByteArray × Int × Int × Int × Int × Bool} (H : spec_OpenJour.f kf l0_0 l0_1 a0_2 a0_3 = some r) : Spec Tryz.prog 25 [.agg [.v (.row (List.map e22 l0_0)), .v (.row (List.map e109 l0_1)), .v (.i .i64 a0_2), .v (.b a0_3)]] [] (.tup [.agg [.v (.i .i64 r.1), .v (.s r.2.1), .v (.i .i64 r.2.2.1), .v (.s r.2.2.2.1), .v (.i .i64 r.2.2.2.2.1), .v (.i .i64 r.2.2.2.2.2.1), .v (.i .i64 r.2.2.2.2.2.2.1), .v (.i .i64 r.2.2.2.2.2.2.2.1)], .v (.b r.2.2.2.2.2.2.2.2)]) [] := by
  simp only [spec_OpenJour.f, Option.bind_some, List.nil_append, if_true, if_false, Bool.false_eq_true, nilB, nilE] at H
  refine fn_okF (E := env) Tryz.func25 (by rfl) rfl (n := 64) (by rfl) ?_
  repeat' ((conv => whnf); first
           | ((with_reducible have hp := peel_ H); clear H; obtain ⟨_, H⟩ := hp)
           | ((with_reducible have hp := peeln_ H); clear H; obtain ⟨_, H⟩ := hp)
           | (with_reducible replace H := itet_ H)
           | (with_reducible replace H := itef_ H)
           | ((with_reducible refine sideid_ ?_); refine side_ ?_)
           | ((with_reducible refine seqid_ ?_); first
             | ((with_reducible refine scg_ 2 ?_); refine scut_ 2 (fun s h => ∃ x20 x1005000 x1005001 x1005002 x1005003 x1007000 x1007001 x1007002 x1007003 x1007004 x1007005 x1007006 x1007007, spec_OpenJour.j0 kf x20 x1005000 x1005001 x1005002 x1005003 x1007000 x1007001 x1007002 x1007003 x1007004 x1007005 x1007006 x1007007 = some r ∧ s = spr 65 0 [(1, .ptr 0 0), (2, .ptr 1 0), (4, .ptr 2 0), (20, .v (.b x20))] ∧ h = [.box 46 [.v (.row (List.map e22 x1005000)), .v (.row (List.map e109 x1005001)), .v (.i .i64 x1005002), .v (.b x1005003)], .box 52 [.v (.i .i64 0), .v (.s (⟨#[]⟩ : ByteArray)), .v (.i .i64 0), .v (.s (⟨#[]⟩ : ByteArray)), .v (.i .i64 0), .v (.i .i64 0), .v (.i .i64 0), .v (.i .i64 0)], .box 52 [.v (.i .i64 x1007000), .v (.s x1007001), .v (.i .i64 x1007002), .v (.s x1007003), .v (.i .i64 x1007004), .v (.i .i64 x1007005), .v (.i .i64 x1007006), .v (.i .i64 x1007007)]]) ?_ ?_)
             | ((with_reducible refine scg_ 8 ?_); refine scut_ 8 (fun s h => ∃ x5 x6 x7 x47 x1005000 x1005001 x1005002 x1005003 x1007000 x1007001 x1007002 x1007003 x1007004 x1007005 x1007006 x1007007, spec_OpenJour.j2 kf x5 x6 x7 x47 x1005000 x1005001 x1005002 x1005003 x1007000 x1007001 x1007002 x1007003 x1007004 x1007005 x1007006 x1007007 = some r ∧ s = spr 65 0 [(1, .ptr 0 0), (2, .ptr 1 0), (4, .ptr 2 0), (5, .v (.i .i64 x5)), (6, .v (.i .i64 x6)), (7, .v (.i .i64 x7)), (47, .v (.b x47))] ∧ h = [.box 46 [.v (.row (List.map e22 x1005000)), .v (.row (List.map e109 x1005001)), .v (.i .i64 x1005002), .v (.b x1005003)], .box 52 [.v (.i .i64 0), .v (.s (⟨#[]⟩ : ByteArray)), .v (.i .i64 0), .v (.s (⟨#[]⟩ : ByteArray)), .v (.i .i64 0), .v (.i .i64 0), .v (.i .i64 0), .v (.i .i64 0)], .box 52 [.v (.i .i64 x1007000), .v (.s x1007001), .v (.i .i64 x1007002), .v (.s x1007003), .v (.i .i64 x1007004), .v (.i .i64 x1007005), .v (.i .i64 x1007006), .v (.i .i64 x1007007)]]) ?_ ?_)
             | (refine sgo_ ?_))
           | ((with_reducible refine brid_ ?_); first
             | (with_reducible refine brct_ ?_)
             | (with_reducible refine brcf_ ?_)
             | (with_reducible refine brt_ ?_)
             | (with_reducible refine brf_ ?_)
             | (refine br_ H (by with_reducible first | rfl | exact bi_ _ _ | exact bd_ _ | exact bs_ _ _) (fun _ H => ?_) (fun _ H => ?_))
             | (refine brn_ H (by with_reducible first | rfl | exact bni_ _ _ | exact bin_ _ _ | exact bn_ _ | exact bs0_ _ _ | exact bnn_ _) (fun _ H => ?_) (fun _ H => ?_))
             | (refine brt_ ?_)
             | (refine brf_ ?_)
             | (refine br_ H (by exact Eq.refl _) (fun _ H => ?_) (fun _ H => ?_))
             | (refine brn_ H (by exact Eq.refl _) (fun _ H => ?_) (fun _ H => ?_)))
           | ((with_reducible refine br2id_ ?_); first
             | (refine br2t_ ?_)
             | (refine br2f_ ?_))
           | ((with_reducible refine normid_ ?_); first
             | (refine norm_nilapp ?_)
             | (refine norm_appnil ?_)
             | (refine norm_app ?_)
             | (refine norm_t ?_)
             | (refine norm_d ?_)
             | (refine norm_td ?_)
             | (refine norm_set (e := 5) (f := e5) _ rfl ?_)
             | (refine norm_rep (e := 5) (f := e5) _ rfl ?_)
             | (refine norm_set (e := 22) (f := e22) _ rfl ?_)
             | (refine norm_rep (e := 22) (f := e22) _ rfl ?_)
             | (refine norm_rep (e := 22) (f := e22) [] rfl ?_)
             | (refine norm_set (e := 22) (f := e22) [] rfl ?_))
           | ((with_reducible refine elemid_ ?_); first
             | (refine elem_ (f := e5) 0 (rd _ _) rfl ?_ (by first | assumption | decide | omega) (by first | assumption | omega))
             | (refine elem_ (f := e22) [] (rdOf [] _ _) rfl ?_ (by first | assumption | decide | omega) (by first | assumption | omega)))
           | ((with_reducible refine lenid_ ?_); refine lenm_ ?_)
           | ((with_reducible refine strid_ ?_); first
             | (refine stre_ ?_)
             | (refine stre0_ ?_))
           | ((with_reducible refine callid_ ?_); have hp := bnd_ H; clear H; obtain ⟨_, ht, H⟩ := hp; first
             | (refine call_ (spec_Replay_ev ht) rfl rfl ?_)
             | (refine call_ (spec_ReadSec_ev ht) rfl rfl ?_)
             | (refine call_ (spec_DiskOk_ev ht) rfl rfl ?_)
             | (refine call_ (spec_GetHead_ev ht) rfl rfl ?_))
           | ((with_reducible refine loopid_ ?_); refine loopK_ (fun n s h => ∃ x5 x1005000 x1005001 x1005002 x1005003 x1007000 x1007001 x1007002 x1007003 x1007004 x1007005 x1007006 x1007007, spec_OpenJour.l0 n x5 x1005000 x1005001 x1005002 x1005003 x1007000 x1007001 x1007002 x1007003 x1007004 x1007005 x1007006 x1007007 = some r ∧ s = spr 65 0 [(1, .ptr 0 0), (2, .ptr 1 0), (4, .ptr 2 0), (5, .v (.i .i64 x5))] ∧ h = [.box 46 [.v (.row (List.map e22 x1005000)), .v (.row (List.map e109 x1005001)), .v (.i .i64 x1005002), .v (.b x1005003)], .box 52 [.v (.i .i64 0), .v (.s (⟨#[]⟩ : ByteArray)), .v (.i .i64 0), .v (.s (⟨#[]⟩ : ByteArray)), .v (.i .i64 0), .v (.i .i64 0), .v (.i .i64 0), .v (.i .i64 0)], .box 52 [.v (.i .i64 x1007000), .v (.s x1007001), .v (.i .i64 x1007002), .v (.s x1007003), .v (.i .i64 x1007004), .v (.i .i64 x1007005), .v (.i .i64 x1007006), .v (.i .i64 x1007007)]]) [] [] [] (bsp 65 0 [1, 2, 4, 5]) _ (by (conv => whnf); refine ⟨_, _, _, _, _, _, _, _, _, _, _, _, _, H, rfl, rfl⟩) ?_; rintro n s h hn ⟨x5, x1005000, x1005001, x1005002, x1005003, x1007000, x1007001, x1007002, x1007003, x1007004, x1007005, x1007006, x1007007, H, rfl, rfl⟩; have hk := suc_ (g := fun k => spec_OpenJour.l0 k _ _ _ _ _ _ _ _ _ _ _ _ _) H (by simp only [spec_OpenJour.l0]); obtain ⟨kf, hk⟩ := hk; subst hk; simp only [spec_OpenJour.l0, Option.bind_some, List.nil_append, if_true, if_false, Bool.false_eq_true, nilB, nilE] at H)
           | ((with_reducible refine nextid_ ?_); refine nextK_ (P := fun m => spec_OpenJour.l0 m _ _ _ _ _ _ _ _ _ _ _ _ _ = some _) H (bsp 65 0 [1, 2, 4, 5]) ?_ ?_ ?_; (conv => whnf); refine ⟨_, _, _, _, _, _, _, _, _, _, _, _, _, H, ?_, rfl⟩; all_goals first | omega | rfl | (repeat' (first | rfl | refine own_eq ?_ | refine cons_eq ?_ ?_ | refine vi_eq ?_ | simp only [List.length_map, List.length_set, wm_])))
           | ((with_reducible refine exid_ ?_); first
             | (have hk := idH_ (F := fun k => spec_OpenJour.j0 k _ _ _ _ _ _ _ _ _ _ _ _ _) H; refine weakK_ (ex := []) (us := []) (bs := []) (ms := (bsp 65 0 [1, 2, 4, 20])) ?_; (conv => whnf); refine ⟨_, _, _, _, _, _, _, _, _, _, _, _, _, hk, rfl, rfl⟩)
             | (have hk := idH_ (F := fun k => spec_OpenJour.j2 k _ _ _ _ _ _ _ _ _ _ _ _ _ _ _ _) H; refine weakK_ (ex := []) (us := []) (bs := []) (ms := (bsp 65 0 [1, 2, 4, 5, 6, 7, 47])) ?_; (conv => whnf); refine ⟨_, _, _, _, _, _, _, _, _, _, _, _, _, _, _, _, hk, rfl, rfl⟩))
           | ((with_reducible refine allid_ ?_); first
             | (intro s h hj; clear H; obtain ⟨x20, x1005000, x1005001, x1005002, x1005003, x1007000, x1007001, x1007002, x1007003, x1007004, x1007005, x1007006, x1007007, H, rfl, rfl⟩ := hj; have hk := suc_ (g := fun k => spec_OpenJour.j0 k _ _ _ _ _ _ _ _ _ _ _ _ _) H (by simp only [spec_OpenJour.j0]); obtain ⟨kf, hk⟩ := hk; subst hk; simp only [spec_OpenJour.j0, Option.bind_some, List.nil_append, if_true, if_false, Bool.false_eq_true, nilB, nilE] at H)
             | (intro s h hj; clear H; obtain ⟨x5, x6, x7, x47, x1005000, x1005001, x1005002, x1005003, x1007000, x1007001, x1007002, x1007003, x1007004, x1007005, x1007006, x1007007, H, rfl, rfl⟩ := hj; have hk := suc_ (g := fun k => spec_OpenJour.j2 k _ _ _ _ _ _ _ _ _ _ _ _ _ _ _ _) H (by simp only [spec_OpenJour.j2]); obtain ⟨kf, hk⟩ := hk; subst hk; simp only [spec_OpenJour.j2, Option.bind_some, List.nil_append, if_true, if_false, Bool.false_eq_true, nilB, nilE] at H))
           | ((with_reducible refine finid_ ?_); refine finK_ [] ?_; (conv => whnf); replace H := Option.some.inj H; subst H; (conv => whnf); refine ⟨rfl, ?_⟩; first | rfl | (repeat' (first | rfl | refine own_eq ?_ | refine tup_eq ?_ | refine agg_eq ?_ | refine cons_eq ?_ ?_ | refine vi_eq ?_ | simp only [List.length_map, List.length_set, wm_]))))
end Go.Proofs.YthkepmicdpgbbaaGreatDoor.E
