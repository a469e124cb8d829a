/- Texts of this seat's claims, put together: E_impl_Apply, E_impl_DiskOk, E_impl_ReadSec, E_impl_sectorOf -/
import Derived.Test.YthkepmicdpgbbaaGreatDoorPkZB5
import Derived.Test.YthkepmicdpgbbaaGreatDoorPkZE12
import Derived.Test.YthkepmicdpgbbaaGreatDoorPkZE3
import Derived.Test.YthkepmicdpgbbaaGreatDoorPkZE4
import Derived.Test.YthkepmicdpgbbaaGreatDoorPkZE5
/- What the functions' codes come to. -/
namespace Go.Proofs.YthkepmicdpgbbaaGreatDoor.E
open Go Go.RowKit Go.Proofs.YthkepmicdpgbbaaGreatDoorW.PrintWords Go.Proofs.YthkepmicdpgbbaaGreatDoor.P
set_option linter.unusedVariables false
set_option linter.unusedSimpArgs false
set_option maxHeartbeats 0
set_option maxRecDepth 100000
theorem impl_Apply_ev {kf : Nat} {a0_0 : Int} {a0_1 : ByteArray} {a0_2 : Int} {a0_3 : ByteArray} {a0_4 : Int} {a0_5 : Int} {a1_0 : Int} {a1_1 : Int} {a1_2 : Int} {a1_3 : ByteArray} {r : Int × ByteArray × Int × ByteArray × Int × Int × Bool} (H : impl_Apply.f kf a0_0 a0_1 a0_2 a0_3 a0_4 a0_5 a1_0 a1_1 a1_2 a1_3 = some r) : Spec Tryz.prog 29 [.agg [.v (.i .i64 a0_0), .v (.s a0_1), .v (.i .i64 a0_2), .v (.s a0_3), .v (.i .i64 a0_4), .v (.i .i64 a0_5)], .agg [.v (.i .i64 a1_0), .v (.i .i64 a1_1), .v (.i .i64 a1_2), .v (.s a1_3)]] [] (.tup [.agg [.v (.i .i64 r.1), .v (.s r.2.1), .v (.i .i64 r.2.2.1), .v (.s r.2.2.2.1), .v (.i .i64 r.2.2.2.2.1), .v (.i .i64 r.2.2.2.2.2.1)], .v (.b r.2.2.2.2.2.2)]) [] := by
  simp only [impl_Apply.f, Option.bind_some, List.nil_append, if_true, if_false, Bool.false_eq_true, nilB, nilE] at H
  refine fn_okF (E := env) Tryz.func29 (by rfl) rfl (n := 68) (by rfl) ?_
  repeat' ((conv => whnf); first
           | ((with_reducible have hp := peel_ H); clear H; obtain ⟨_, H⟩ := hp)
           | ((with_reducible have hp := peeln_ H); clear H; obtain ⟨_, H⟩ := hp)
           | (with_reducible replace H := itet_ H)
           | (with_reducible replace H := itef_ H)
           | ((with_reducible refine sideid_ ?_); refine side_ ?_)
           | ((with_reducible refine seqid_ ?_); first
             | ((with_reducible refine scg_ 1 ?_); refine scut_ 1 (fun s h => ∃ x13 x864000 x864001 x864002 x864003 x864004 x864005 x865000 x865001 x865002 x865003, impl_Apply.j0 kf x13 x864000 x864001 x864002 x864003 x864004 x864005 x865000 x865001 x865002 x865003 = some r ∧ s = spr 70 0 [(2, .ptr 0 0), (3, .ptr 1 0), (4, .ptr 2 0), (13, .v (.b x13))] ∧ h = [.box 41 [.v (.i .i64 x864000), .v (.s x864001), .v (.i .i64 x864002), .v (.s x864003), .v (.i .i64 x864004), .v (.i .i64 x864005)], .box 25 [.v (.i .i64 x865000), .v (.i .i64 x865001), .v (.i .i64 x865002), .v (.s x865003)], .box 41 [.v (.i .i64 0), .v (.s (⟨#[]⟩ : ByteArray)), .v (.i .i64 0), .v (.s (⟨#[]⟩ : ByteArray)), .v (.i .i64 0), .v (.i .i64 0)]]) ?_ ?_)
             | ((with_reducible refine scg_ 4 ?_); refine scut_ 4 (fun s h => ∃ x16 x864000 x864001 x864002 x864003 x864004 x864005 x865000 x865001 x865002 x865003, impl_Apply.j1 kf x16 x864000 x864001 x864002 x864003 x864004 x864005 x865000 x865001 x865002 x865003 = some r ∧ s = spr 70 0 [(2, .ptr 0 0), (3, .ptr 1 0), (4, .ptr 2 0), (16, .v (.b x16))] ∧ h = [.box 41 [.v (.i .i64 x864000), .v (.s x864001), .v (.i .i64 x864002), .v (.s x864003), .v (.i .i64 x864004), .v (.i .i64 x864005)], .box 25 [.v (.i .i64 x865000), .v (.i .i64 x865001), .v (.i .i64 x865002), .v (.s x865003)], .box 41 [.v (.i .i64 0), .v (.s (⟨#[]⟩ : ByteArray)), .v (.i .i64 0), .v (.s (⟨#[]⟩ : ByteArray)), .v (.i .i64 0), .v (.i .i64 0)]]) ?_ ?_)
             | ((with_reducible refine scg_ 6 ?_); refine scut_ 6 (fun s h => ∃ x33 x864000 x864001 x864002 x864003 x864004 x864005 x865000 x865001 x865002 x865003, impl_Apply.j2 kf x33 x864000 x864001 x864002 x864003 x864004 x864005 x865000 x865001 x865002 x865003 = some r ∧ s = spr 70 0 [(2, .ptr 0 0), (3, .ptr 1 0), (4, .ptr 2 0), (33, .v (.b x33))] ∧ h = [.box 41 [.v (.i .i64 x864000), .v (.s x864001), .v (.i .i64 x864002), .v (.s x864003), .v (.i .i64 x864004), .v (.i .i64 x864005)], .box 25 [.v (.i .i64 x865000), .v (.i .i64 x865001), .v (.i .i64 x865002), .v (.s x865003)], .box 41 [.v (.i .i64 0), .v (.s (⟨#[]⟩ : ByteArray)), .v (.i .i64 0), .v (.s (⟨#[]⟩ : ByteArray)), .v (.i .i64 0), .v (.i .i64 0)]]) ?_ ?_)
             | (refine sgo_ ?_))
           | ((with_reducible refine brid_ ?_); first
             | (with_reducible refine brct_ ?_)
             | (with_reducible refine brcf_ ?_)
             | (with_reducible refine brt_ ?_)
             | (with_reducible refine brf_ ?_)
             | (refine br_ H (by with_reducible first | rfl | exact bi_ _ _ | exact bd_ _ | exact bs_ _ _) (fun _ H => ?_) (fun _ H => ?_))
             | (refine brn_ H (by with_reducible first | rfl | exact bni_ _ _ | exact bin_ _ _ | exact bn_ _ | exact bs0_ _ _ | exact bnn_ _) (fun _ H => ?_) (fun _ H => ?_))
             | (refine brt_ ?_)
             | (refine brf_ ?_)
             | (refine br_ H (by exact Eq.refl _) (fun _ H => ?_) (fun _ H => ?_))
             | (refine brn_ H (by exact Eq.refl _) (fun _ H => ?_) (fun _ H => ?_)))
           | ((with_reducible refine br2id_ ?_); first
             | (refine br2t_ ?_)
             | (refine br2f_ ?_))
           | ((with_reducible refine normid_ ?_); first
             | (refine norm_nilapp ?_)
             | (refine norm_appnil ?_)
             | (refine norm_app ?_)
             | (refine norm_t ?_)
             | (refine norm_d ?_)
             | (refine norm_td ?_))
           | ((with_reducible refine lenid_ ?_); refine lenm_ ?_)
           | ((with_reducible refine strid_ ?_); first
             | (refine stre_ ?_)
             | (refine stre0_ ?_))
           | ((with_reducible refine callid_ ?_); have hp := bnd_ H; clear H; obtain ⟨_, ht, H⟩ := hp; first
             | (refine call_ (impl_RecOk_ev ht) rfl rfl ?_)
             | (refine call_ (impl_KnownOk_ev ht) rfl rfl ?_))
           | ((with_reducible refine exid_ ?_); first
             | (have hk := idH_ (F := fun k => impl_Apply.j0 k _ _ _ _ _ _ _ _ _ _ _) H; refine weakK_ (ex := []) (us := []) (bs := []) (ms := (bsp 70 0 [2, 3, 4, 13])) ?_; (conv => whnf); refine ⟨_, _, _, _, _, _, _, _, _, _, _, hk, rfl, rfl⟩)
             | (have hk := idH_ (F := fun k => impl_Apply.j1 k _ _ _ _ _ _ _ _ _ _ _) H; refine weakK_ (ex := []) (us := []) (bs := []) (ms := (bsp 70 0 [2, 3, 4, 16])) ?_; (conv => whnf); refine ⟨_, _, _, _, _, _, _, _, _, _, _, hk, rfl, rfl⟩)
             | (have hk := idH_ (F := fun k => impl_Apply.j2 k _ _ _ _ _ _ _ _ _ _ _) H; refine weakK_ (ex := []) (us := []) (bs := []) (ms := (bsp 70 0 [2, 3, 4, 33])) ?_; (conv => whnf); refine ⟨_, _, _, _, _, _, _, _, _, _, _, hk, rfl, rfl⟩))
           | ((with_reducible refine allid_ ?_); first
             | (intro s h hj; clear H; obtain ⟨x13, x864000, x864001, x864002, x864003, x864004, x864005, x865000, x865001, x865002, x865003, H, rfl, rfl⟩ := hj; have hk := suc_ (g := fun k => impl_Apply.j0 k _ _ _ _ _ _ _ _ _ _ _) H (by simp only [impl_Apply.j0]); obtain ⟨kf, hk⟩ := hk; subst hk; simp only [impl_Apply.j0, Option.bind_some, List.nil_append, if_true, if_false, Bool.false_eq_true, nilB, nilE] at H)
             | (intro s h hj; clear H; obtain ⟨x16, x864000, x864001, x864002, x864003, x864004, x864005, x865000, x865001, x865002, x865003, H, rfl, rfl⟩ := hj; have hk := suc_ (g := fun k => impl_Apply.j1 k _ _ _ _ _ _ _ _ _ _ _) H (by simp only [impl_Apply.j1]); obtain ⟨kf, hk⟩ := hk; subst hk; simp only [impl_Apply.j1, Option.bind_some, List.nil_append, if_true, if_false, Bool.false_eq_true, nilB, nilE] at H)
             | (intro s h hj; clear H; obtain ⟨x33, x864000, x864001, x864002, x864003, x864004, x864005, x865000, x865001, x865002, x865003, H, rfl, rfl⟩ := hj; have hk := suc_ (g := fun k => impl_Apply.j2 k _ _ _ _ _ _ _ _ _ _ _) H (by simp only [impl_Apply.j2]); obtain ⟨kf, hk⟩ := hk; subst hk; simp only [impl_Apply.j2, Option.bind_some, List.nil_append, if_true, if_false, Bool.false_eq_true, nilB, nilE] at H))
           | ((with_reducible refine finid_ ?_); refine finK_ [] ?_; (conv => whnf); replace H := Option.some.inj H; subst H; (conv => whnf); refine ⟨rfl, ?_⟩; first | rfl | (repeat' (first | rfl | refine own_eq ?_ | refine tup_eq ?_ | refine agg_eq ?_ | refine cons_eq ?_ ?_ | refine vi_eq ?_ | simp only [List.length_map, List.length_set, wm_]))))
end Go.Proofs.YthkepmicdpgbbaaGreatDoor.E

/- What the functions' codes come to. -/
namespace Go.Proofs.YthkepmicdpgbbaaGreatDoor.E
open Go Go.RowKit Go.Proofs.YthkepmicdpgbbaaGreatDoorW.PrintWords Go.Proofs.YthkepmicdpgbbaaGreatDoor.P
set_option linter.unusedVariables false
set_option linter.unusedSimpArgs false
set_option maxHeartbeats 0
set_option maxRecDepth 100000
theorem impl_DiskOk_ev {kf : Nat} {l0_0 : List (List Int)} {l0_1 : List (S109)} {a0_2 : Int} {a0_3 : Bool} {r : Bool} (H : impl_DiskOk.f kf l0_0 l0_1 a0_2 a0_3 = some r) : Spec Tryz.prog 78 [.agg [.v (.row (List.map e22 l0_0)), .v (.row (List.map e109 l0_1)), .v (.i .i64 a0_2), .v (.b a0_3)]] [] (.v (.b r)) [] := by
  simp only [impl_DiskOk.f, Option.bind_some, List.nil_append, if_true, if_false, Bool.false_eq_true, nilB, nilE] at H
  refine fn_okF (E := env) Tryz.func78 (by rfl) rfl (n := 56) (by rfl) ?_
  repeat' ((conv => whnf); first
           | ((with_reducible have hp := peel_ H); clear H; obtain ⟨_, H⟩ := hp)
           | ((with_reducible have hp := peeln_ H); clear H; obtain ⟨_, H⟩ := hp)
           | (with_reducible replace H := itet_ H)
           | (with_reducible replace H := itef_ H)
           | ((with_reducible refine sideid_ ?_); refine side_ ?_)
           | ((with_reducible refine seqid_ ?_); first
             | ((with_reducible refine scg_ 1 ?_); refine scut_ 1 (fun s h => ∃ x23 x869000 x869001 x869002 x869003, impl_DiskOk.j0 kf x23 x869000 x869001 x869002 x869003 = some r ∧ s = spr 57 0 [(1, .ptr 0 0), (23, .v (.b x23))] ∧ h = [.box 46 [.v (.row (List.map e22 x869000)), .v (.row (List.map e109 x869001)), .v (.i .i64 x869002), .v (.b x869003)]]) ?_ ?_)
             | (refine sgo_ ?_))
           | ((with_reducible refine brid_ ?_); first
             | (with_reducible refine brct_ ?_)
             | (with_reducible refine brcf_ ?_)
             | (with_reducible refine brt_ ?_)
             | (with_reducible refine brf_ ?_)
             | (refine br_ H (by with_reducible first | rfl | exact bi_ _ _ | exact bd_ _ | exact bs_ _ _) (fun _ H => ?_) (fun _ H => ?_))
             | (refine brn_ H (by with_reducible first | rfl | exact bni_ _ _ | exact bin_ _ _ | exact bn_ _ | exact bs0_ _ _ | exact bnn_ _) (fun _ H => ?_) (fun _ H => ?_))
             | (refine brt_ ?_)
             | (refine brf_ ?_)
             | (refine br_ H (by exact Eq.refl _) (fun _ H => ?_) (fun _ H => ?_))
             | (refine brn_ H (by exact Eq.refl _) (fun _ H => ?_) (fun _ H => ?_)))
           | ((with_reducible refine br2id_ ?_); first
             | (refine br2t_ ?_)
             | (refine br2f_ ?_))
           | ((with_reducible refine normid_ ?_); first
             | (refine norm_nilapp ?_)
             | (refine norm_appnil ?_)
             | (refine norm_app ?_)
             | (refine norm_t ?_)
             | (refine norm_d ?_)
             | (refine norm_td ?_)
             | (refine norm_set (e := 5) (f := e5) _ rfl ?_)
             | (refine norm_rep (e := 5) (f := e5) _ rfl ?_)
             | (refine norm_set (e := 22) (f := e22) _ rfl ?_)
             | (refine norm_rep (e := 22) (f := e22) _ rfl ?_)
             | (refine norm_rep (e := 22) (f := e22) [] rfl ?_)
             | (refine norm_set (e := 22) (f := e22) [] rfl ?_)
             | (refine norm_set (e := 109) (f := e109) ⟨_, _⟩ rfl ?_)
             | (refine norm_rep (e := 109) (f := e109) ⟨_, _⟩ rfl ?_)
             | (refine norm_rep (e := 109) (f := e109) ⟨_, []⟩ rfl ?_)
             | (refine norm_set (e := 109) (f := e109) ⟨_, []⟩ rfl ?_))
           | ((with_reducible refine elemid_ ?_); first
             | (refine elem_ (f := e5) 0 (rd _ _) rfl ?_ (by first | assumption | decide | omega) (by first | assumption | omega))
             | (refine elem_ (f := e22) [] (rdOf [] _ _) rfl ?_ (by first | assumption | decide | omega) (by first | assumption | omega))
             | (refine elem_ (f := e109) z109 (rd_T109 _ _) rfl ?_ (by first | assumption | decide | omega) (by first | assumption | omega)))
           | ((with_reducible refine lenid_ ?_); refine lenm_ ?_)
           | ((with_reducible refine strid_ ?_); first
             | (refine stre_ ?_)
             | (refine stre0_ ?_))
           | ((with_reducible refine callid_ ?_); have hp := bnd_ H; clear H; obtain ⟨_, ht, H⟩ := hp; refine call_ (impl_isIn_ev ht) rfl rfl ?_)
           | ((with_reducible refine loopid_ ?_); first
             | (refine loopK_ (fun n s h => ∃ x25 x26 x27 x869000 x869001 x869002 x869003, impl_DiskOk.l0 n x25 x26 x27 x869000 x869001 x869002 x869003 = some r ∧ s = spr 57 0 [(1, .ptr 0 0), (25, .v (.row (List.map e22 x25))), (26, .v (.i .i64 x26)), (27, .v (.i .i64 x27))] ∧ h = [.box 46 [.v (.row (List.map e22 x869000)), .v (.row (List.map e109 x869001)), .v (.i .i64 x869002), .v (.b x869003)]]) [] [] [] (bsp 57 0 [1, 25, 26, 27]) _ (by (conv => whnf); refine ⟨_, _, _, _, _, _, _, H, rfl, rfl⟩) ?_; rintro n s h hn ⟨x25, x26, x27, x869000, x869001, x869002, x869003, H, rfl, rfl⟩; have hk := suc_ (g := fun k => impl_DiskOk.l0 k _ _ _ _ _ _ _) H (by simp only [impl_DiskOk.l0]); obtain ⟨kf, hk⟩ := hk; subst hk; simp only [impl_DiskOk.l0, Option.bind_some, List.nil_append, if_true, if_false, Bool.false_eq_true, nilB, nilE] at H)
             | (refine loopK_ (fun n s h => ∃ x36 x37 x38 x869000 x869001 x869002 x869003, impl_DiskOk.l1 n x36 x37 x38 x869000 x869001 x869002 x869003 = some r ∧ s = spr 57 0 [(1, .ptr 0 0), (36, .v (.row (List.map e109 x36))), (37, .v (.i .i64 x37)), (38, .v (.i .i64 x38))] ∧ h = [.box 46 [.v (.row (List.map e22 x869000)), .v (.row (List.map e109 x869001)), .v (.i .i64 x869002), .v (.b x869003)]]) [] [] [] (bsp 57 0 [1, 36, 37, 38]) _ (by (conv => whnf); refine ⟨_, _, _, _, _, _, _, H, rfl, rfl⟩) ?_; rintro n s h hn ⟨x36, x37, x38, x869000, x869001, x869002, x869003, H, rfl, rfl⟩; have hk := suc_ (g := fun k => impl_DiskOk.l1 k _ _ _ _ _ _ _) H (by simp only [impl_DiskOk.l1]); obtain ⟨kf, hk⟩ := hk; subst hk; simp only [impl_DiskOk.l1, Option.bind_some, List.nil_append, if_true, if_false, Bool.false_eq_true, nilB, nilE] at H))
           | ((with_reducible refine nextid_ ?_); first
             | (refine nextK_ (P := fun m => impl_DiskOk.l0 m _ _ _ _ _ _ _ = some _) H (bsp 57 0 [1, 25, 26, 27]) ?_ ?_ ?_; (conv => whnf); refine ⟨_, _, _, _, _, _, _, H, ?_, rfl⟩; all_goals first | omega | rfl | (repeat' (first | rfl | refine own_eq ?_ | refine cons_eq ?_ ?_ | refine vi_eq ?_ | simp only [List.length_map, List.length_set, wm_])))
             | (refine nextK_ (P := fun m => impl_DiskOk.l1 m _ _ _ _ _ _ _ = some _) H (bsp 57 0 [1, 36, 37, 38]) ?_ ?_ ?_; (conv => whnf); refine ⟨_, _, _, _, _, _, _, H, ?_, rfl⟩; all_goals first | omega | rfl | (repeat' (first | rfl | refine own_eq ?_ | refine cons_eq ?_ ?_ | refine vi_eq ?_ | simp only [List.length_map, List.length_set, wm_]))))
           | ((with_reducible refine exid_ ?_); have hk := idH_ (F := fun k => impl_DiskOk.j0 k _ _ _ _ _) H; refine weakK_ (ex := []) (us := []) (bs := []) (ms := (bsp 57 0 [1, 23])) ?_; (conv => whnf); refine ⟨_, _, _, _, _, hk, rfl, rfl⟩)
           | ((with_reducible refine allid_ ?_); intro s h hj; clear H; obtain ⟨x23, x869000, x869001, x869002, x869003, H, rfl, rfl⟩ := hj; have hk := suc_ (g := fun k => impl_DiskOk.j0 k _ _ _ _ _) H (by simp only [impl_DiskOk.j0]); obtain ⟨kf, hk⟩ := hk; subst hk; simp only [impl_DiskOk.j0, Option.bind_some, List.nil_append, if_true, if_false, Bool.false_eq_true, nilB, nilE] at H)
           | ((with_reducible refine finid_ ?_); refine finK_ [] ?_; (conv => whnf); replace H := Option.some.inj H; subst H; (conv => whnf); refine ⟨rfl, ?_⟩; first | rfl | (repeat' (first | rfl | refine own_eq ?_ | refine tup_eq ?_ | refine agg_eq ?_ | refine cons_eq ?_ ?_ | refine vi_eq ?_ | simp only [List.length_map, List.length_set, wm_]))))
end Go.Proofs.YthkepmicdpgbbaaGreatDoor.E

/- What the functions' codes come to. -/
namespace Go.Proofs.YthkepmicdpgbbaaGreatDoor.E
open Go Go.RowKit Go.Proofs.YthkepmicdpgbbaaGreatDoorW.PrintWords Go.Proofs.YthkepmicdpgbbaaGreatDoor.P
set_option linter.unusedVariables false
set_option linter.unusedSimpArgs false
set_option maxHeartbeats 0
set_option maxRecDepth 100000
theorem impl_ReadSec_ev {kf : Nat} {l0_0 : List (List Int)} {l0_1 : List (S109)} {a0_2 : Int} {a0_3 : Bool} {a1 : Int} {r : List Int} (H : impl_ReadSec.f kf l0_0 l0_1 a0_2 a0_3 a1 = some r) : Spec Tryz.prog 72 [.agg [.v (.row (List.map e22 l0_0)), .v (.row (List.map e109 l0_1)), .v (.i .i64 a0_2), .v (.b a0_3)], .v (.i .i64 a1)] [] (.own 0 (List.map e5 r).length) [.arr 1 5 false (List.map e5 r)] := by
  simp only [impl_ReadSec.f, Option.bind_some, List.nil_append, if_true, if_false, Bool.false_eq_true, nilB, nilE] at H
  refine fn_okF (E := env) Tryz.func72 (by rfl) rfl (n := 46) (by rfl) ?_
  repeat' ((conv => whnf); first
           | ((with_reducible have hp := peel_ H); clear H; obtain ⟨_, H⟩ := hp)
           | ((with_reducible have hp := peeln_ H); clear H; obtain ⟨_, H⟩ := hp)
           | (with_reducible replace H := itet_ H)
           | (with_reducible replace H := itef_ H)
           | ((with_reducible refine sideid_ ?_); refine side_ ?_)
           | ((with_reducible refine seqid_ ?_); first
             | ((with_reducible refine scg_ 1 ?_); refine scut_ 1 (fun s h => ∃ x1 x17 x876000 x876001 x876002 x876003, impl_ReadSec.j0 kf x1 x17 x876000 x876001 x876002 x876003 = some r ∧ s = spr 48 0 [(1, .v (.i .i64 x1)), (2, .ptr 0 0), (17, .v (.b x17))] ∧ h = [.box 46 [.v (.row (List.map e22 x876000)), .v (.row (List.map e109 x876001)), .v (.i .i64 x876002), .v (.b x876003)]]) ?_ ?_)
             | (refine sgo_ ?_))
           | ((with_reducible refine brid_ ?_); first
             | (with_reducible refine brct_ ?_)
             | (with_reducible refine brcf_ ?_)
             | (with_reducible refine brt_ ?_)
             | (with_reducible refine brf_ ?_)
             | (refine br_ H (by with_reducible first | rfl | exact bi_ _ _ | exact bd_ _ | exact bs_ _ _) (fun _ H => ?_) (fun _ H => ?_))
             | (refine brn_ H (by with_reducible first | rfl | exact bni_ _ _ | exact bin_ _ _ | exact bn_ _ | exact bs0_ _ _ | exact bnn_ _) (fun _ H => ?_) (fun _ H => ?_))
             | (refine brt_ ?_)
             | (refine brf_ ?_)
             | (refine br_ H (by exact Eq.refl _) (fun _ H => ?_) (fun _ H => ?_))
             | (refine brn_ H (by exact Eq.refl _) (fun _ H => ?_) (fun _ H => ?_)))
           | ((with_reducible refine br2id_ ?_); first
             | (refine br2t_ ?_)
             | (refine br2f_ ?_))
           | ((with_reducible refine normid_ ?_); first
             | (refine norm_nilapp ?_)
             | (refine norm_appnil ?_)
             | (refine norm_app ?_)
             | (refine norm_t ?_)
             | (refine norm_d ?_)
             | (refine norm_td ?_)
             | (refine norm_set (e := 5) (f := e5) _ rfl ?_)
             | (refine norm_rep (e := 5) (f := e5) _ rfl ?_)
             | (refine norm_lit (e := 5) (n := 0) (f := e5) [] rfl ?_)
             | (refine norm_set (e := 22) (f := e22) _ rfl ?_)
             | (refine norm_rep (e := 22) (f := e22) _ rfl ?_)
             | (refine norm_rep (e := 22) (f := e22) [] rfl ?_)
             | (refine norm_set (e := 22) (f := e22) [] rfl ?_)
             | (refine norm_set (e := 109) (f := e109) ⟨_, _⟩ rfl ?_)
             | (refine norm_rep (e := 109) (f := e109) ⟨_, _⟩ rfl ?_)
             | (refine norm_rep (e := 109) (f := e109) ⟨_, []⟩ rfl ?_)
             | (refine norm_set (e := 109) (f := e109) ⟨_, []⟩ rfl ?_))
           | ((with_reducible refine elemid_ ?_); first
             | (refine elem_ (f := e5) 0 (rd _ _) rfl ?_ (by first | assumption | decide | omega) (by first | assumption | omega))
             | (refine elem_ (f := e22) [] (rdOf [] _ _) rfl ?_ (by first | assumption | decide | omega) (by first | assumption | omega))
             | (refine elem_ (f := e109) z109 (rd_T109 _ _) rfl ?_ (by first | assumption | decide | omega) (by first | assumption | omega)))
           | ((with_reducible refine lenid_ ?_); refine lenm_ ?_)
           | ((with_reducible refine strid_ ?_); first
             | (refine stre_ ?_)
             | (refine stre0_ ?_))
           | ((with_reducible refine callid_ ?_); have hp := bnd_ H; clear H; obtain ⟨_, ht, H⟩ := hp; first
             | (refine call_ (impl_isIn_ev ht) rfl rfl ?_)
             | (refine call_ (impl_DiskOk_ev ht) rfl rfl ?_)
             | (refine call_ (slices_Clone_byte_byte_ev ht) rfl rfl ?_))
           | ((with_reducible refine loopid_ ?_); refine loopK_ (fun n s h => ∃ x1 x5 x876000 x876001 x876002 x876003, impl_ReadSec.l0 n x1 x5 x876000 x876001 x876002 x876003 = some r ∧ s = spr 48 0 [(1, .v (.i .i64 x1)), (2, .ptr 0 0), (5, .v (.i .i64 x5))] ∧ h = [.box 46 [.v (.row (List.map e22 x876000)), .v (.row (List.map e109 x876001)), .v (.i .i64 x876002), .v (.b x876003)]]) [] [] [] (bsp 48 0 [1, 2, 5]) _ (by (conv => whnf); refine ⟨_, _, _, _, _, _, H, rfl, rfl⟩) ?_; rintro n s h hn ⟨x1, x5, x876000, x876001, x876002, x876003, H, rfl, rfl⟩; have hk := suc_ (g := fun k => impl_ReadSec.l0 k _ _ _ _ _ _) H (by simp only [impl_ReadSec.l0]); obtain ⟨kf, hk⟩ := hk; subst hk; simp only [impl_ReadSec.l0, Option.bind_some, List.nil_append, if_true, if_false, Bool.false_eq_true, nilB, nilE] at H)
           | ((with_reducible refine nextid_ ?_); refine nextK_ (P := fun m => impl_ReadSec.l0 m _ _ _ _ _ _ = some _) H (bsp 48 0 [1, 2, 5]) ?_ ?_ ?_; (conv => whnf); refine ⟨_, _, _, _, _, _, H, ?_, rfl⟩; all_goals first | omega | rfl | (repeat' (first | rfl | refine own_eq ?_ | refine cons_eq ?_ ?_ | refine vi_eq ?_ | simp only [List.length_map, List.length_set, wm_])))
           | ((with_reducible refine exid_ ?_); have hk := idH_ (F := fun k => impl_ReadSec.j0 k _ _ _ _ _ _) H; refine weakK_ (ex := []) (us := []) (bs := []) (ms := (bsp 48 0 [1, 2, 17])) ?_; (conv => whnf); refine ⟨_, _, _, _, _, _, hk, rfl, rfl⟩)
           | ((with_reducible refine allid_ ?_); intro s h hj; clear H; obtain ⟨x1, x17, x876000, x876001, x876002, x876003, H, rfl, rfl⟩ := hj; have hk := suc_ (g := fun k => impl_ReadSec.j0 k _ _ _ _ _ _) H (by simp only [impl_ReadSec.j0]); obtain ⟨kf, hk⟩ := hk; subst hk; simp only [impl_ReadSec.j0, Option.bind_some, List.nil_append, if_true, if_false, Bool.false_eq_true, nilB, nilE] at H)
           | ((with_reducible refine finid_ ?_); refine finK_ [] ?_; (conv => whnf); replace H := Option.some.inj H; subst H; (conv => whnf); refine ⟨rfl, ?_⟩; first | rfl | (repeat' (first | rfl | refine own_eq ?_ | refine tup_eq ?_ | refine agg_eq ?_ | refine cons_eq ?_ ?_ | refine vi_eq ?_ | simp only [List.length_map, List.length_set, wm_]))))
end Go.Proofs.YthkepmicdpgbbaaGreatDoor.E

/- What the functions' codes come to. -/
namespace Go.Proofs.YthkepmicdpgbbaaGreatDoor.E
open Go Go.RowKit Go.Proofs.YthkepmicdpgbbaaGreatDoorW.PrintWords Go.Proofs.YthkepmicdpgbbaaGreatDoor.P
set_option linter.unusedVariables false
set_option linter.unusedSimpArgs false
set_option maxHeartbeats 0
set_option maxRecDepth 100000
theorem impl_sectorOf_ev {a0 : Int} {a1 : Int} {r : Int} (H : impl_sectorOf.f a0 a1 = some r) : Spec Tryz.prog 73 [.v (.i .i64 a0), .v (.i .i64 a1)] [] (.v (.i .i64 r)) [] := by
  simp only [impl_sectorOf.f, Option.bind_some, List.nil_append, if_true, if_false, Bool.false_eq_true, nilB, nilE] at H
  refine fn_okF (E := env) Tryz.func73 (by rfl) rfl (n := 9) (by rfl) ?_
  repeat' ((conv => whnf); first
           | ((with_reducible have hp := peel_ H); clear H; obtain ⟨_, H⟩ := hp)
           | ((with_reducible have hp := peeln_ H); clear H; obtain ⟨_, H⟩ := hp)
           | (with_reducible replace H := itet_ H)
           | (with_reducible replace H := itef_ H)
           | ((with_reducible refine sideid_ ?_); refine side_ ?_)
           | ((with_reducible refine seqid_ ?_); refine sgo_ ?_)
           | ((with_reducible refine brid_ ?_); first
             | (with_reducible refine brct_ ?_)
             | (with_reducible refine brcf_ ?_)
             | (with_reducible refine brt_ ?_)
             | (with_reducible refine brf_ ?_)
             | (refine br_ H (by with_reducible first | rfl | exact bi_ _ _ | exact bd_ _ | exact bs_ _ _) (fun _ H => ?_) (fun _ H => ?_))
             | (refine brn_ H (by with_reducible first | rfl | exact bni_ _ _ | exact bin_ _ _ | exact bn_ _ | exact bs0_ _ _ | exact bnn_ _) (fun _ H => ?_) (fun _ H => ?_))
             | (refine brt_ ?_)
             | (refine brf_ ?_)
             | (refine br_ H (by exact Eq.refl _) (fun _ H => ?_) (fun _ H => ?_))
             | (refine brn_ H (by exact Eq.refl _) (fun _ H => ?_) (fun _ H => ?_)))
           | ((with_reducible refine br2id_ ?_); first
             | (refine br2t_ ?_)
             | (refine br2f_ ?_))
           | ((with_reducible refine normid_ ?_); first
             | (refine norm_nilapp ?_)
             | (refine norm_appnil ?_)
             | (refine norm_app ?_)
             | (refine norm_t ?_)
             | (refine norm_d ?_)
             | (refine norm_td ?_))
           | ((with_reducible refine lenid_ ?_); refine lenm_ ?_)
           | ((with_reducible refine strid_ ?_); first
             | (refine stre_ ?_)
             | (refine stre0_ ?_))
           | ((with_reducible refine finid_ ?_); refine finK_ [] ?_; (conv => whnf); replace H := Option.some.inj H; subst H; (conv => whnf); refine ⟨rfl, ?_⟩; first | rfl | (repeat' (first | rfl | refine own_eq ?_ | refine tup_eq ?_ | refine agg_eq ?_ | refine cons_eq ?_ ?_ | refine vi_eq ?_ | simp only [List.length_map, List.length_set, wm_]))))
end Go.Proofs.YthkepmicdpgbbaaGreatDoor.E
