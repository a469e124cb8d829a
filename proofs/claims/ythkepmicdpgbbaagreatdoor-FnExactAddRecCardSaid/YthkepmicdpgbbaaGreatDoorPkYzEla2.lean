/- Texts of this seat's claims, put together: PkYEla2 -/
import Derived.Test.YthkepmicdpgbbaaGreatDoorPkYzEia4
import Derived.Test.YthkepmicdpgbbaaGreatDoorPkYzEl4
import Derived.Test.YthkepmicdpgbbaaGreatDoorPkYzEl7
import Derived.Test.YthkepmicdpgbbaaGreatDoorPkYzEs12
/- What the functions' codes come to. -/
namespace Go.Proofs.YthkepmicdpgbbaaGreatDoor.E
open Go Go.RowKit Go.Proofs.YthkepmicdpgbbaaGreatDoorW.PrintWords Go.Proofs.YthkepmicdpgbbaaGreatDoor.P
set_option linter.unusedVariables false
set_option linter.unusedSimpArgs false
set_option maxHeartbeats 0
set_option maxRecDepth 100000
theorem laws_FnExactAddRec_ev {kf : Nat} {l0_0 : List (List Int)} {l0_1 : List (S125)} {a0_2 : Int} {a0_3 : Bool} {a1_0 : Int} {a1_1 : Int} {a1_2 : Int} {a1_3 : ByteArray} {r : Bool} (H : laws_FnExactAddRec.f kf l0_0 l0_1 a0_2 a0_3 a1_0 a1_1 a1_2 a1_3 = some r) : Spec Tryz.prog 7 [.agg [.v (.row (List.map e22 l0_0)), .v (.row (List.map e125 l0_1)), .v (.i .i64 a0_2), .v (.b a0_3)], .agg [.v (.i .i64 a1_0), .v (.i .i64 a1_1), .v (.i .i64 a1_2), .v (.s a1_3)]] [] (.v (.b r)) [] := by
  simp only [laws_FnExactAddRec.f, Option.bind_some, List.nil_append, if_true, if_false, Bool.false_eq_true, nilB, nilE] at H
  refine fn_okF (E := env) Tryz.func7 (by rfl) rfl (n := 107) (by rfl) ?_
  repeat' ((conv => whnf); first | ((with_reducible have hp := peel_ H); clear H; obtain ⟨_, H⟩ := hp) | ((with_reducible have hp := peeln_ H); clear H; obtain ⟨_, H⟩ := hp) | (with_reducible replace H := itet_ H) | (with_reducible replace H := itef_ H) | ((with_reducible refine sideid_ ?_); refine side_ ?_) | ((with_reducible refine seqid_ ?_); refine sgo_ ?_) | ((with_reducible refine brid_ ?_); first | (with_reducible refine brct_ ?_) | (with_reducible refine brcf_ ?_) | (with_reducible refine brt_ ?_) | (with_reducible refine brf_ ?_) | (refine bra_ H (fun _ H => ?_) (fun _ H => ?_)) | (refine brna_ H (fun _ H => ?_) (fun _ H => ?_)) | (refine brt_ ?_) | (refine brf_ ?_) | (refine bre_ H (fun _ H => ?_) (fun _ H => ?_)) | (refine brne_ H (fun _ H => ?_) (fun _ H => ?_))) | ((with_reducible refine br2id_ ?_); first | (refine br2t_ ?_) | (refine br2f_ ?_)) | ((with_reducible refine blkid_ ?_); refine bgo_ ?_) | ((with_reducible refine lenid_ ?_); refine lenm_ ?_) | ((with_reducible refine strid_ ?_); first | (refine stre_ ?_) | (refine stre0_ ?_)) | ((with_reducible refine callid_ ?_); (first | with_reducible have hp := bnd_ H | have hp := tl_ H); clear H; obtain ⟨_, ht, H⟩ := hp; first | (refine call_ (gYl4.1 ht) rfl rfl ?_) | (refine call_ (gYl4.2.1 ht) rfl rfl ?_) | (refine call_ (laws_toDiskT_ev ht) rfl rfl ?_) | (refine call_ (gYl4.2.2 ht) rfl rfl ?_) | (refine call_ (impl_AddRec_evt ht) rfl rfl ?_) | (refine call_ (gYl1.2.2.2.1 ht) rfl rfl ?_) | (refine call_ (gYs12 ht) rfl rfl ?_) | (refine call_ (gYl1.2.2.2.2.1 ht) rfl rfl ?_) | (obtain ⟨hl1_, hl2_⟩ := laws_markDisk_len ht; refine call_ (gYl7 ht) rfl rfl ?_) | (refine call_ (gYl3.2.2.2.1 ht) rfl rfl ?_)) | ((with_reducible refine handid_ ?_); first | (with_reducible refine handb_ 36 ?_) | (with_reducible refine handc_ 31 ?_) | (refine handa_ ?_)) | ((with_reducible refine mkid_ ?_); refine mka_ ?_) | ((with_reducible refine finid_ ?_); refine finK_ [] ?_; (conv => whnf); replace H := Option.some.inj H; subst H; (conv => whnf); exact feq_ rfl))
end Go.Proofs.YthkepmicdpgbbaaGreatDoor.E
