/- Texts of this seat's claims, put together: E_impl_Replay, E_laws_eqKnown, E_laws_eqByteS, E_laws_eqByteSS, E_laws_eqWr, E_laws_eqWrS -/
import Derived.Test.YthkepmicdpgbbaaGreatDoorPkZB5
import Derived.Test.YthkepmicdpgbbaaGreatDoorPkZE12
import Derived.Test.YthkepmicdpgbbaaGreatDoorPkZE13
import Derived.Test.YthkepmicdpgbbaaGreatDoorPkZE3
import Derived.Test.YthkepmicdpgbbaaGreatDoorPkZE4
import Derived.Test.YthkepmicdpgbbaaGreatDoorPkZE5
import Derived.Test.YthkepmicdpgbbaaGreatDoorPkZE6
import Derived.Test.YthkepmicdpgbbaaGreatDoorPkZE8
/- What the functions' codes come to. -/
namespace Go.Proofs.YthkepmicdpgbbaaGreatDoor.E
open Go Go.RowKit Go.Proofs.YthkepmicdpgbbaaGreatDoorW.PrintWords Go.Proofs.YthkepmicdpgbbaaGreatDoor.P
set_option linter.unusedVariables false
set_option linter.unusedSimpArgs false
set_option maxHeartbeats 0
set_option maxRecDepth 100000
theorem impl_Replay_ev {kf : Nat} {l0_0 : List (List Int)} {l0_1 : List (S109)} {a0_2 : Int} {a0_3 : Bool} {a1 : Int} {r : Int × ByteArray × Int × ByteArray × Int × Int × Int} (H : impl_Replay.f kf l0_0 l0_1 a0_2 a0_3 a1 = some r) : Spec Tryz.prog 22 [.agg [.v (.row (List.map e22 l0_0)), .v (.row (List.map e109 l0_1)), .v (.i .i64 a0_2), .v (.b a0_3)], .v (.i .i64 a1)] [] (.tup [.agg [.v (.i .i64 r.1), .v (.s r.2.1), .v (.i .i64 r.2.2.1), .v (.s r.2.2.2.1), .v (.i .i64 r.2.2.2.2.1), .v (.i .i64 r.2.2.2.2.2.1)], .v (.i .i64 r.2.2.2.2.2.2)]) [] := by
  simp only [impl_Replay.f, Option.bind_some, List.nil_append, if_true, if_false, Bool.false_eq_true, nilB, nilE] at H
  refine fn_okF (E := env) Tryz.func22 (by rfl) rfl (n := 58) (by rfl) ?_
  repeat' ((conv => whnf); first
           | ((with_reducible have hp := peel_ H); clear H; obtain ⟨_, H⟩ := hp)
           | ((with_reducible have hp := peeln_ H); clear H; obtain ⟨_, H⟩ := hp)
           | (with_reducible replace H := itet_ H)
           | (with_reducible replace H := itef_ H)
           | ((with_reducible refine sideid_ ?_); refine side_ ?_)
           | ((with_reducible refine seqid_ ?_); first
             | ((with_reducible refine scg_ 8 ?_); refine scut_ 8 (fun s h => ∃ x1 x7 x19 x44 x891000 x891001 x891002 x891003 x893000 x893001 x893002 x893003 x893004 x893005 x906000 x906001 x906002 x906003, impl_Replay.j1 kf x1 x7 x19 x44 x891000 x891001 x891002 x891003 x893000 x893001 x893002 x893003 x893004 x893005 x906000 x906001 x906002 x906003 = some r ∧ s = spr 60 0 [(1, .v (.i .i64 x1)), (2, .ptr 0 0), (4, .ptr 1 0), (6, .ptr 2 0), (7, .v (.i .i64 x7)), (10, .ptr 3 0), (19, .v (.i .i64 x19)), (44, .v (.b x44))] ∧ h = [.box 46 [.v (.row (List.map e22 x891000)), .v (.row (List.map e109 x891001)), .v (.i .i64 x891002), .v (.b x891003)], .box 41 [.v (.i .i64 0), .v (.s (⟨#[]⟩ : ByteArray)), .v (.i .i64 0), .v (.s (⟨#[]⟩ : ByteArray)), .v (.i .i64 0), .v (.i .i64 0)], .box 41 [.v (.i .i64 x893000), .v (.s x893001), .v (.i .i64 x893002), .v (.s x893003), .v (.i .i64 x893004), .v (.i .i64 x893005)], .box 25 [.v (.i .i64 x906000), .v (.i .i64 x906001), .v (.i .i64 x906002), .v (.s x906003)]]) ?_ ?_)
             | (refine sgo_ ?_))
           | ((with_reducible refine brid_ ?_); first
             | (with_reducible refine brct_ ?_)
             | (with_reducible refine brcf_ ?_)
             | (with_reducible refine brt_ ?_)
             | (with_reducible refine brf_ ?_)
             | (refine br_ H (by with_reducible first | rfl | exact bi_ _ _ | exact bd_ _ | exact bs_ _ _) (fun _ H => ?_) (fun _ H => ?_))
             | (refine brn_ H (by with_reducible first | rfl | exact bni_ _ _ | exact bin_ _ _ | exact bn_ _ | exact bs0_ _ _ | exact bnn_ _) (fun _ H => ?_) (fun _ H => ?_))
             | (refine brt_ ?_)
             | (refine brf_ ?_)
             | (refine br_ H (by exact Eq.refl _) (fun _ H => ?_) (fun _ H => ?_))
             | (refine brn_ H (by exact Eq.refl _) (fun _ H => ?_) (fun _ H => ?_)))
           | ((with_reducible refine br2id_ ?_); first
             | (refine br2t_ ?_)
             | (refine br2f_ ?_))
           | ((with_reducible refine normid_ ?_); first
             | (refine norm_nilapp ?_)
             | (refine norm_appnil ?_)
             | (refine norm_app ?_)
             | (refine norm_t ?_)
             | (refine norm_d ?_)
             | (refine norm_td ?_)
             | (refine norm_set (e := 5) (f := e5) _ rfl ?_)
             | (refine norm_rep (e := 5) (f := e5) _ rfl ?_))
           | ((with_reducible refine elemid_ ?_); refine elem_ (f := e5) 0 (rd _ _) rfl ?_ (by first | assumption | decide | omega) (by first | assumption | omega))
           | ((with_reducible refine lenid_ ?_); refine lenm_ ?_)
           | ((with_reducible refine strid_ ?_); first
             | (refine stre_ ?_)
             | (refine stre0_ ?_))
           | ((with_reducible refine callid_ ?_); have hp := bnd_ H; clear H; obtain ⟨_, ht, H⟩ := hp; first
             | (refine call_ (impl_GetRec_ev ht) rfl rfl ?_)
             | (refine call_ (impl_Apply_ev ht) rfl rfl ?_)
             | (refine call_ (impl_isIn_ev ht) rfl rfl ?_)
             | (refine call_ (impl_ReadSec_ev ht) rfl rfl ?_)
             | (refine call_ (impl_sectorOf_ev ht) rfl rfl ?_))
           | ((with_reducible refine loopid_ ?_); refine loopK_ (fun n s h => ∃ x1 x19 x891000 x891001 x891002 x891003 x893000 x893001 x893002 x893003 x893004 x893005, impl_Replay.l0 n x1 x19 x891000 x891001 x891002 x891003 x893000 x893001 x893002 x893003 x893004 x893005 = some r ∧ s = spr 60 0 [(1, .v (.i .i64 x1)), (2, .ptr 0 0), (4, .ptr 1 0), (6, .ptr 2 0), (19, .v (.i .i64 x19))] ∧ h = [.box 46 [.v (.row (List.map e22 x891000)), .v (.row (List.map e109 x891001)), .v (.i .i64 x891002), .v (.b x891003)], .box 41 [.v (.i .i64 0), .v (.s (⟨#[]⟩ : ByteArray)), .v (.i .i64 0), .v (.s (⟨#[]⟩ : ByteArray)), .v (.i .i64 0), .v (.i .i64 0)], .box 41 [.v (.i .i64 x893000), .v (.s x893001), .v (.i .i64 x893002), .v (.s x893003), .v (.i .i64 x893004), .v (.i .i64 x893005)]]) [] [] [] (bsp 60 0 [1, 2, 4, 6, 19]) _ (by (conv => whnf); refine ⟨_, _, _, _, _, _, _, _, _, _, _, _, H, rfl, rfl⟩) ?_; rintro n s h hn ⟨x1, x19, x891000, x891001, x891002, x891003, x893000, x893001, x893002, x893003, x893004, x893005, H, rfl, rfl⟩; have hk := suc_ (g := fun k => impl_Replay.l0 k _ _ _ _ _ _ _ _ _ _ _ _) H (by simp only [impl_Replay.l0]); obtain ⟨kf, hk⟩ := hk; subst hk; simp only [impl_Replay.l0, Option.bind_some, List.nil_append, if_true, if_false, Bool.false_eq_true, nilB, nilE] at H)
           | ((with_reducible refine nextid_ ?_); refine nextK_ (P := fun m => impl_Replay.l0 m _ _ _ _ _ _ _ _ _ _ _ _ = some _) H (bsp 60 0 [1, 2, 4, 6, 19]) ?_ ?_ ?_; (conv => whnf); refine ⟨_, _, _, _, _, _, _, _, _, _, _, _, H, ?_, rfl⟩; all_goals first | omega | rfl | (repeat' (first | rfl | refine own_eq ?_ | refine cons_eq ?_ ?_ | refine vi_eq ?_ | simp only [List.length_map, List.length_set, wm_])))
           | ((with_reducible refine exid_ ?_); have hk := idH_ (F := fun k => impl_Replay.j1 k _ _ _ _ _ _ _ _ _ _ _ _ _ _ _ _ _ _) H; refine weakK_ (ex := []) (us := []) (bs := []) (ms := (bsp 60 0 [1, 2, 4, 6, 7, 10, 19, 44])) ?_; (conv => whnf); refine ⟨_, _, _, _, _, _, _, _, _, _, _, _, _, _, _, _, _, _, hk, rfl, rfl⟩)
           | ((with_reducible refine allid_ ?_); intro s h hj; clear H; obtain ⟨x1, x7, x19, x44, x891000, x891001, x891002, x891003, x893000, x893001, x893002, x893003, x893004, x893005, x906000, x906001, x906002, x906003, H, rfl, rfl⟩ := hj; have hk := suc_ (g := fun k => impl_Replay.j1 k _ _ _ _ _ _ _ _ _ _ _ _ _ _ _ _ _ _) H (by simp only [impl_Replay.j1]); obtain ⟨kf, hk⟩ := hk; subst hk; simp only [impl_Replay.j1, Option.bind_some, List.nil_append, if_true, if_false, Bool.false_eq_true, nilB, nilE] at H)
           | ((with_reducible refine finid_ ?_); refine finK_ [] ?_; (conv => whnf); replace H := Option.some.inj H; subst H; (conv => whnf); refine ⟨rfl, ?_⟩; first | rfl | (repeat' (first | rfl | refine own_eq ?_ | refine tup_eq ?_ | refine agg_eq ?_ | refine cons_eq ?_ ?_ | refine vi_eq ?_ | simp only [List.length_map, List.length_set, wm_]))))
end Go.Proofs.YthkepmicdpgbbaaGreatDoor.E

/- What the functions' codes come to. -/
namespace Go.Proofs.YthkepmicdpgbbaaGreatDoor.E
open Go Go.RowKit Go.Proofs.YthkepmicdpgbbaaGreatDoorW.PrintWords Go.Proofs.YthkepmicdpgbbaaGreatDoor.P
set_option linter.unusedVariables false
set_option linter.unusedSimpArgs false
set_option maxHeartbeats 0
set_option maxRecDepth 100000
theorem laws_eqKnown_ev {a0_0 : Int} {a0_1 : ByteArray} {a0_2 : Int} {a0_3 : ByteArray} {a0_4 : Int} {a0_5 : Int} {a1_0 : Int} {a1_1 : ByteArray} {a1_2 : Int} {a1_3 : ByteArray} {a1_4 : Int} {a1_5 : Int} {r : Bool} (H : laws_eqKnown.f a0_0 a0_1 a0_2 a0_3 a0_4 a0_5 a1_0 a1_1 a1_2 a1_3 a1_4 a1_5 = some r) : Spec Tryz.prog 23 [.agg [.v (.i .i64 a0_0), .v (.s a0_1), .v (.i .i64 a0_2), .v (.s a0_3), .v (.i .i64 a0_4), .v (.i .i64 a0_5)], .agg [.v (.i .i64 a1_0), .v (.s a1_1), .v (.i .i64 a1_2), .v (.s a1_3), .v (.i .i64 a1_4), .v (.i .i64 a1_5)]] [] (.v (.b r)) [] := by
  simp only [laws_eqKnown.f, Option.bind_some, List.nil_append, if_true, if_false, Bool.false_eq_true, nilB, nilE] at H
  refine fn_okF (E := env) Tryz.func23 (by rfl) rfl (n := 33) (by rfl) ?_
  repeat' ((conv => whnf); first
           | ((with_reducible have hp := peel_ H); clear H; obtain ⟨_, H⟩ := hp)
           | ((with_reducible have hp := peeln_ H); clear H; obtain ⟨_, H⟩ := hp)
           | (with_reducible replace H := itet_ H)
           | (with_reducible replace H := itef_ H)
           | ((with_reducible refine sideid_ ?_); refine side_ ?_)
           | ((with_reducible refine seqid_ ?_); refine sgo_ ?_)
           | ((with_reducible refine brid_ ?_); first
             | (with_reducible refine brct_ ?_)
             | (with_reducible refine brcf_ ?_)
             | (with_reducible refine brt_ ?_)
             | (with_reducible refine brf_ ?_)
             | (refine br_ H (by with_reducible first | rfl | exact bi_ _ _ | exact bd_ _ | exact bs_ _ _) (fun _ H => ?_) (fun _ H => ?_))
             | (refine brn_ H (by with_reducible first | rfl | exact bni_ _ _ | exact bin_ _ _ | exact bn_ _ | exact bs0_ _ _ | exact bnn_ _) (fun _ H => ?_) (fun _ H => ?_))
             | (refine brt_ ?_)
             | (refine brf_ ?_)
             | (refine br_ H (by exact Eq.refl _) (fun _ H => ?_) (fun _ H => ?_))
             | (refine brn_ H (by exact Eq.refl _) (fun _ H => ?_) (fun _ H => ?_)))
           | ((with_reducible refine br2id_ ?_); first
             | (refine br2t_ ?_)
             | (refine br2f_ ?_))
           | ((with_reducible refine normid_ ?_); first
             | (refine norm_nilapp ?_)
             | (refine norm_appnil ?_)
             | (refine norm_app ?_)
             | (refine norm_t ?_)
             | (refine norm_d ?_)
             | (refine norm_td ?_))
           | ((with_reducible refine lenid_ ?_); refine lenm_ ?_)
           | ((with_reducible refine strid_ ?_); first
             | (refine stre_ ?_)
             | (refine stre0_ ?_))
           | ((with_reducible refine finid_ ?_); refine finK_ [] ?_; (conv => whnf); replace H := Option.some.inj H; subst H; (conv => whnf); refine ⟨rfl, ?_⟩; first | rfl | (repeat' (first | rfl | refine own_eq ?_ | refine tup_eq ?_ | refine agg_eq ?_ | refine cons_eq ?_ ?_ | refine vi_eq ?_ | simp only [List.length_map, List.length_set, wm_]))))
end Go.Proofs.YthkepmicdpgbbaaGreatDoor.E

/- What the functions' codes come to. -/
namespace Go.Proofs.YthkepmicdpgbbaaGreatDoor.E
open Go Go.RowKit Go.Proofs.YthkepmicdpgbbaaGreatDoorW.PrintWords Go.Proofs.YthkepmicdpgbbaaGreatDoor.P
set_option linter.unusedVariables false
set_option linter.unusedSimpArgs false
set_option maxHeartbeats 0
set_option maxRecDepth 100000
theorem laws_eqByteS_ev {kf : Nat} {l0 : List Int} {l1 : List Int} {r : Bool} (H : laws_eqByteS.f kf l0 l1 = some r) : Spec Tryz.prog 113 [.v (.row (List.map e5 l0)), .v (.row (List.map e5 l1))] [] (.v (.b r)) [] := by
  simp only [laws_eqByteS.f, Option.bind_some, List.nil_append, if_true, if_false, Bool.false_eq_true, nilB, nilE] at H
  refine fn_okF (E := env) Tryz.func113 (by rfl) rfl (n := 24) (by rfl) ?_
  repeat' ((conv => whnf); first
           | ((with_reducible have hp := peel_ H); clear H; obtain ⟨_, H⟩ := hp)
           | ((with_reducible have hp := peeln_ H); clear H; obtain ⟨_, H⟩ := hp)
           | (with_reducible replace H := itet_ H)
           | (with_reducible replace H := itef_ H)
           | ((with_reducible refine sideid_ ?_); refine side_ ?_)
           | ((with_reducible refine seqid_ ?_); refine sgo_ ?_)
           | ((with_reducible refine brid_ ?_); first
             | (with_reducible refine brct_ ?_)
             | (with_reducible refine brcf_ ?_)
             | (with_reducible refine brt_ ?_)
             | (with_reducible refine brf_ ?_)
             | (refine br_ H (by with_reducible first | rfl | exact bi_ _ _ | exact bd_ _ | exact bs_ _ _) (fun _ H => ?_) (fun _ H => ?_))
             | (refine brn_ H (by with_reducible first | rfl | exact bni_ _ _ | exact bin_ _ _ | exact bn_ _ | exact bs0_ _ _ | exact bnn_ _) (fun _ H => ?_) (fun _ H => ?_))
             | (refine brt_ ?_)
             | (refine brf_ ?_)
             | (refine br_ H (by exact Eq.refl _) (fun _ H => ?_) (fun _ H => ?_))
             | (refine brn_ H (by exact Eq.refl _) (fun _ H => ?_) (fun _ H => ?_)))
           | ((with_reducible refine br2id_ ?_); first
             | (refine br2t_ ?_)
             | (refine br2f_ ?_))
           | ((with_reducible refine normid_ ?_); first
             | (refine norm_nilapp ?_)
             | (refine norm_appnil ?_)
             | (refine norm_app ?_)
             | (refine norm_t ?_)
             | (refine norm_d ?_)
             | (refine norm_td ?_)
             | (refine norm_set (e := 5) (f := e5) _ rfl ?_)
             | (refine norm_rep (e := 5) (f := e5) _ rfl ?_))
           | ((with_reducible refine elemid_ ?_); refine elem_ (f := e5) 0 (rd _ _) rfl ?_ (by first | assumption | decide | omega) (by first | assumption | omega))
           | ((with_reducible refine lenid_ ?_); refine lenm_ ?_)
           | ((with_reducible refine strid_ ?_); first
             | (refine stre_ ?_)
             | (refine stre0_ ?_))
           | ((with_reducible refine loopid_ ?_); refine loopK_ (fun n s h => ∃ x0 x1 x5, laws_eqByteS.l0 n x0 x1 x5 = some r ∧ s = spr 26 0 [(0, .v (.row (List.map e5 x0))), (1, .v (.row (List.map e5 x1))), (5, .v (.i .i64 x5))] ∧ h = []) [] [] [] (bsp 26 0 [0, 1, 5]) _ (by (conv => whnf); refine ⟨_, _, _, H, rfl, rfl⟩) ?_; rintro n s h hn ⟨x0, x1, x5, H, rfl, rfl⟩; have hk := suc_ (g := fun k => laws_eqByteS.l0 k _ _ _) H (by simp only [laws_eqByteS.l0]); obtain ⟨kf, hk⟩ := hk; subst hk; simp only [laws_eqByteS.l0, Option.bind_some, List.nil_append, if_true, if_false, Bool.false_eq_true, nilB, nilE] at H)
           | ((with_reducible refine nextid_ ?_); refine nextK_ (P := fun m => laws_eqByteS.l0 m _ _ _ = some _) H (bsp 26 0 [0, 1, 5]) ?_ ?_ ?_; (conv => whnf); refine ⟨_, _, _, H, ?_, rfl⟩; all_goals first | omega | rfl | (repeat' (first | rfl | refine own_eq ?_ | refine cons_eq ?_ ?_ | refine vi_eq ?_ | simp only [List.length_map, List.length_set, wm_])))
           | ((with_reducible refine finid_ ?_); refine finK_ [] ?_; (conv => whnf); replace H := Option.some.inj H; subst H; (conv => whnf); refine ⟨rfl, ?_⟩; first | rfl | (repeat' (first | rfl | refine own_eq ?_ | refine tup_eq ?_ | refine agg_eq ?_ | refine cons_eq ?_ ?_ | refine vi_eq ?_ | simp only [List.length_map, List.length_set, wm_]))))
end Go.Proofs.YthkepmicdpgbbaaGreatDoor.E

/- What the functions' codes come to. -/
namespace Go.Proofs.YthkepmicdpgbbaaGreatDoor.E
open Go Go.RowKit Go.Proofs.YthkepmicdpgbbaaGreatDoorW.PrintWords Go.Proofs.YthkepmicdpgbbaaGreatDoor.P
set_option linter.unusedVariables false
set_option linter.unusedSimpArgs false
set_option maxHeartbeats 0
set_option maxRecDepth 100000
theorem laws_eqByteSS_ev {kf : Nat} {l0 : List (List Int)} {l1 : List (List Int)} {r : Bool} (H : laws_eqByteSS.f kf l0 l1 = some r) : Spec Tryz.prog 74 [.v (.row (List.map e22 l0)), .v (.row (List.map e22 l1))] [] (.v (.b r)) [] := by
  simp only [laws_eqByteSS.f, Option.bind_some, List.nil_append, if_true, if_false, Bool.false_eq_true, nilB, nilE] at H
  refine fn_okF (E := env) Tryz.func74 (by rfl) rfl (n := 25) (by rfl) ?_
  repeat' ((conv => whnf); first
           | ((with_reducible have hp := peel_ H); clear H; obtain ⟨_, H⟩ := hp)
           | ((with_reducible have hp := peeln_ H); clear H; obtain ⟨_, H⟩ := hp)
           | (with_reducible replace H := itet_ H)
           | (with_reducible replace H := itef_ H)
           | ((with_reducible refine sideid_ ?_); refine side_ ?_)
           | ((with_reducible refine seqid_ ?_); refine sgo_ ?_)
           | ((with_reducible refine brid_ ?_); first
             | (with_reducible refine brct_ ?_)
             | (with_reducible refine brcf_ ?_)
             | (with_reducible refine brt_ ?_)
             | (with_reducible refine brf_ ?_)
             | (refine br_ H (by with_reducible first | rfl | exact bi_ _ _ | exact bd_ _ | exact bs_ _ _) (fun _ H => ?_) (fun _ H => ?_))
             | (refine brn_ H (by with_reducible first | rfl | exact bni_ _ _ | exact bin_ _ _ | exact bn_ _ | exact bs0_ _ _ | exact bnn_ _) (fun _ H => ?_) (fun _ H => ?_))
             | (refine brt_ ?_)
             | (refine brf_ ?_)
             | (refine br_ H (by exact Eq.refl _) (fun _ H => ?_) (fun _ H => ?_))
             | (refine brn_ H (by exact Eq.refl _) (fun _ H => ?_) (fun _ H => ?_)))
           | ((with_reducible refine br2id_ ?_); first
             | (refine br2t_ ?_)
             | (refine br2f_ ?_))
           | ((with_reducible refine normid_ ?_); first
             | (refine norm_nilapp ?_)
             | (refine norm_appnil ?_)
             | (refine norm_app ?_)
             | (refine norm_t ?_)
             | (refine norm_d ?_)
             | (refine norm_td ?_)
             | (refine norm_set (e := 5) (f := e5) _ rfl ?_)
             | (refine norm_rep (e := 5) (f := e5) _ rfl ?_)
             | (refine norm_set (e := 22) (f := e22) _ rfl ?_)
             | (refine norm_rep (e := 22) (f := e22) _ rfl ?_)
             | (refine norm_rep (e := 22) (f := e22) [] rfl ?_)
             | (refine norm_set (e := 22) (f := e22) [] rfl ?_))
           | ((with_reducible refine elemid_ ?_); first
             | (refine elem_ (f := e5) 0 (rd _ _) rfl ?_ (by first | assumption | decide | omega) (by first | assumption | omega))
             | (refine elem_ (f := e22) [] (rdOf [] _ _) rfl ?_ (by first | assumption | decide | omega) (by first | assumption | omega)))
           | ((with_reducible refine lenid_ ?_); refine lenm_ ?_)
           | ((with_reducible refine strid_ ?_); first
             | (refine stre_ ?_)
             | (refine stre0_ ?_))
           | ((with_reducible refine callid_ ?_); have hp := bnd_ H; clear H; obtain ⟨_, ht, H⟩ := hp; refine call_ (laws_eqByteS_ev ht) rfl rfl ?_)
           | ((with_reducible refine loopid_ ?_); refine loopK_ (fun n s h => ∃ x0 x1 x5, laws_eqByteSS.l0 n x0 x1 x5 = some r ∧ s = spr 27 0 [(0, .v (.row (List.map e22 x0))), (1, .v (.row (List.map e22 x1))), (5, .v (.i .i64 x5))] ∧ h = []) [] [] [] (bsp 27 0 [0, 1, 5]) _ (by (conv => whnf); refine ⟨_, _, _, H, rfl, rfl⟩) ?_; rintro n s h hn ⟨x0, x1, x5, H, rfl, rfl⟩; have hk := suc_ (g := fun k => laws_eqByteSS.l0 k _ _ _) H (by simp only [laws_eqByteSS.l0]); obtain ⟨kf, hk⟩ := hk; subst hk; simp only [laws_eqByteSS.l0, Option.bind_some, List.nil_append, if_true, if_false, Bool.false_eq_true, nilB, nilE] at H)
           | ((with_reducible refine nextid_ ?_); refine nextK_ (P := fun m => laws_eqByteSS.l0 m _ _ _ = some _) H (bsp 27 0 [0, 1, 5]) ?_ ?_ ?_; (conv => whnf); refine ⟨_, _, _, H, ?_, rfl⟩; all_goals first | omega | rfl | (repeat' (first | rfl | refine own_eq ?_ | refine cons_eq ?_ ?_ | refine vi_eq ?_ | simp only [List.length_map, List.length_set, wm_])))
           | ((with_reducible refine finid_ ?_); refine finK_ [] ?_; (conv => whnf); replace H := Option.some.inj H; subst H; (conv => whnf); refine ⟨rfl, ?_⟩; first | rfl | (repeat' (first | rfl | refine own_eq ?_ | refine tup_eq ?_ | refine agg_eq ?_ | refine cons_eq ?_ ?_ | refine vi_eq ?_ | simp only [List.length_map, List.length_set, wm_]))))
end Go.Proofs.YthkepmicdpgbbaaGreatDoor.E

/- What the functions' codes come to. -/
namespace Go.Proofs.YthkepmicdpgbbaaGreatDoor.E
open Go Go.RowKit Go.Proofs.YthkepmicdpgbbaaGreatDoorW.PrintWords Go.Proofs.YthkepmicdpgbbaaGreatDoor.P
set_option linter.unusedVariables false
set_option linter.unusedSimpArgs false
set_option maxHeartbeats 0
set_option maxRecDepth 100000
theorem laws_eqWr_ev {kf : Nat} {a0_0 : Int} {l0_1 : List Int} {a1_0 : Int} {l1_1 : List Int} {r : Bool} (H : laws_eqWr.f kf a0_0 l0_1 a1_0 l1_1 = some r) : Spec Tryz.prog 114 [.agg [.v (.i .i64 a0_0), .v (.row (List.map e5 l0_1))], .agg [.v (.i .i64 a1_0), .v (.row (List.map e5 l1_1))]] [] (.v (.b r)) [] := by
  simp only [laws_eqWr.f, Option.bind_some, List.nil_append, if_true, if_false, Bool.false_eq_true, nilB, nilE] at H
  refine fn_okF (E := env) Tryz.func114 (by rfl) rfl (n := 14) (by rfl) ?_
  repeat' ((conv => whnf); first
           | ((with_reducible have hp := peel_ H); clear H; obtain ⟨_, H⟩ := hp)
           | ((with_reducible have hp := peeln_ H); clear H; obtain ⟨_, H⟩ := hp)
           | (with_reducible replace H := itet_ H)
           | (with_reducible replace H := itef_ H)
           | ((with_reducible refine sideid_ ?_); refine side_ ?_)
           | ((with_reducible refine seqid_ ?_); refine sgo_ ?_)
           | ((with_reducible refine brid_ ?_); first
             | (with_reducible refine brct_ ?_)
             | (with_reducible refine brcf_ ?_)
             | (with_reducible refine brt_ ?_)
             | (with_reducible refine brf_ ?_)
             | (refine br_ H (by with_reducible first | rfl | exact bi_ _ _ | exact bd_ _ | exact bs_ _ _) (fun _ H => ?_) (fun _ H => ?_))
             | (refine brn_ H (by with_reducible first | rfl | exact bni_ _ _ | exact bin_ _ _ | exact bn_ _ | exact bs0_ _ _ | exact bnn_ _) (fun _ H => ?_) (fun _ H => ?_))
             | (refine brt_ ?_)
             | (refine brf_ ?_)
             | (refine br_ H (by exact Eq.refl _) (fun _ H => ?_) (fun _ H => ?_))
             | (refine brn_ H (by exact Eq.refl _) (fun _ H => ?_) (fun _ H => ?_)))
           | ((with_reducible refine br2id_ ?_); first
             | (refine br2t_ ?_)
             | (refine br2f_ ?_))
           | ((with_reducible refine normid_ ?_); first
             | (refine norm_nilapp ?_)
             | (refine norm_appnil ?_)
             | (refine norm_app ?_)
             | (refine norm_t ?_)
             | (refine norm_d ?_)
             | (refine norm_td ?_)
             | (refine norm_set (e := 5) (f := e5) _ rfl ?_)
             | (refine norm_rep (e := 5) (f := e5) _ rfl ?_))
           | ((with_reducible refine elemid_ ?_); refine elem_ (f := e5) 0 (rd _ _) rfl ?_ (by first | assumption | decide | omega) (by first | assumption | omega))
           | ((with_reducible refine lenid_ ?_); refine lenm_ ?_)
           | ((with_reducible refine strid_ ?_); first
             | (refine stre_ ?_)
             | (refine stre0_ ?_))
           | ((with_reducible refine callid_ ?_); have hp := bnd_ H; clear H; obtain ⟨_, ht, H⟩ := hp; refine call_ (laws_eqByteS_ev ht) rfl rfl ?_)
           | ((with_reducible refine finid_ ?_); refine finK_ [] ?_; (conv => whnf); replace H := Option.some.inj H; subst H; (conv => whnf); refine ⟨rfl, ?_⟩; first | rfl | (repeat' (first | rfl | refine own_eq ?_ | refine tup_eq ?_ | refine agg_eq ?_ | refine cons_eq ?_ ?_ | refine vi_eq ?_ | simp only [List.length_map, List.length_set, wm_]))))
end Go.Proofs.YthkepmicdpgbbaaGreatDoor.E

/- What the functions' codes come to. -/
namespace Go.Proofs.YthkepmicdpgbbaaGreatDoor.E
open Go Go.RowKit Go.Proofs.YthkepmicdpgbbaaGreatDoorW.PrintWords Go.Proofs.YthkepmicdpgbbaaGreatDoor.P
set_option linter.unusedVariables false
set_option linter.unusedSimpArgs false
set_option maxHeartbeats 0
set_option maxRecDepth 100000
theorem laws_eqWrS_ev {kf : Nat} {l0 : List (S109)} {l1 : List (S109)} {r : Bool} (H : laws_eqWrS.f kf l0 l1 = some r) : Spec Tryz.prog 75 [.v (.row (List.map e109 l0)), .v (.row (List.map e109 l1))] [] (.v (.b r)) [] := by
  simp only [laws_eqWrS.f, Option.bind_some, List.nil_append, if_true, if_false, Bool.false_eq_true, nilB, nilE] at H
  refine fn_okF (E := env) Tryz.func75 (by rfl) rfl (n := 25) (by rfl) ?_
  repeat' ((conv => whnf); first
           | ((with_reducible have hp := peel_ H); clear H; obtain ⟨_, H⟩ := hp)
           | ((with_reducible have hp := peeln_ H); clear H; obtain ⟨_, H⟩ := hp)
           | (with_reducible replace H := itet_ H)
           | (with_reducible replace H := itef_ H)
           | ((with_reducible refine sideid_ ?_); refine side_ ?_)
           | ((with_reducible refine seqid_ ?_); refine sgo_ ?_)
           | ((with_reducible refine brid_ ?_); first
             | (with_reducible refine brct_ ?_)
             | (with_reducible refine brcf_ ?_)
             | (with_reducible refine brt_ ?_)
             | (with_reducible refine brf_ ?_)
             | (refine br_ H (by with_reducible first | rfl | exact bi_ _ _ | exact bd_ _ | exact bs_ _ _) (fun _ H => ?_) (fun _ H => ?_))
             | (refine brn_ H (by with_reducible first | rfl | exact bni_ _ _ | exact bin_ _ _ | exact bn_ _ | exact bs0_ _ _ | exact bnn_ _) (fun _ H => ?_) (fun _ H => ?_))
             | (refine brt_ ?_)
             | (refine brf_ ?_)
             | (refine br_ H (by exact Eq.refl _) (fun _ H => ?_) (fun _ H => ?_))
             | (refine brn_ H (by exact Eq.refl _) (fun _ H => ?_) (fun _ H => ?_)))
           | ((with_reducible refine br2id_ ?_); first
             | (refine br2t_ ?_)
             | (refine br2f_ ?_))
           | ((with_reducible refine normid_ ?_); first
             | (refine norm_nilapp ?_)
             | (refine norm_appnil ?_)
             | (refine norm_app ?_)
             | (refine norm_t ?_)
             | (refine norm_d ?_)
             | (refine norm_td ?_)
             | (refine norm_set (e := 109) (f := e109) ⟨_, _⟩ rfl ?_)
             | (refine norm_rep (e := 109) (f := e109) ⟨_, _⟩ rfl ?_)
             | (refine norm_rep (e := 109) (f := e109) ⟨_, []⟩ rfl ?_)
             | (refine norm_set (e := 109) (f := e109) ⟨_, []⟩ rfl ?_))
           | ((with_reducible refine elemid_ ?_); refine elem_ (f := e109) z109 (rd_T109 _ _) rfl ?_ (by first | assumption | decide | omega) (by first | assumption | omega))
           | ((with_reducible refine lenid_ ?_); refine lenm_ ?_)
           | ((with_reducible refine strid_ ?_); first
             | (refine stre_ ?_)
             | (refine stre0_ ?_))
           | ((with_reducible refine callid_ ?_); have hp := bnd_ H; clear H; obtain ⟨_, ht, H⟩ := hp; refine call_ (laws_eqWr_ev ht) rfl rfl ?_)
           | ((with_reducible refine loopid_ ?_); refine loopK_ (fun n s h => ∃ x0 x1 x5, laws_eqWrS.l0 n x0 x1 x5 = some r ∧ s = spr 27 0 [(0, .v (.row (List.map e109 x0))), (1, .v (.row (List.map e109 x1))), (5, .v (.i .i64 x5))] ∧ h = []) [] [] [] (bsp 27 0 [0, 1, 5]) _ (by (conv => whnf); refine ⟨_, _, _, H, rfl, rfl⟩) ?_; rintro n s h hn ⟨x0, x1, x5, H, rfl, rfl⟩; have hk := suc_ (g := fun k => laws_eqWrS.l0 k _ _ _) H (by simp only [laws_eqWrS.l0]); obtain ⟨kf, hk⟩ := hk; subst hk; simp only [laws_eqWrS.l0, Option.bind_some, List.nil_append, if_true, if_false, Bool.false_eq_true, nilB, nilE] at H)
           | ((with_reducible refine nextid_ ?_); refine nextK_ (P := fun m => laws_eqWrS.l0 m _ _ _ = some _) H (bsp 27 0 [0, 1, 5]) ?_ ?_ ?_; (conv => whnf); refine ⟨_, _, _, H, ?_, rfl⟩; all_goals first | omega | rfl | (repeat' (first | rfl | refine own_eq ?_ | refine cons_eq ?_ ?_ | refine vi_eq ?_ | simp only [List.length_map, List.length_set, wm_])))
           | ((with_reducible refine finid_ ?_); refine finK_ [] ?_; (conv => whnf); replace H := Option.some.inj H; subst H; (conv => whnf); refine ⟨rfl, ?_⟩; first | rfl | (repeat' (first | rfl | refine own_eq ?_ | refine tup_eq ?_ | refine agg_eq ?_ | refine cons_eq ?_ ?_ | refine vi_eq ?_ | simp only [List.length_map, List.length_set, wm_]))))
end Go.Proofs.YthkepmicdpgbbaaGreatDoor.E
