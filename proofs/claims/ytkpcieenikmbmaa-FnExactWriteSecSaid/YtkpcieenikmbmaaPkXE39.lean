/- Texts of this seat's claims, put together: E_laws_FnExactWriteSec -/
import Derived.Laws.StructEq
import Derived.Test.YtkpcieenikmbmaaPkXB5
import Derived.Test.YtkpcieenikmbmaaPkXE1
import Derived.Test.YtkpcieenikmbmaaPkXE10
import Derived.Test.YtkpcieenikmbmaaPkXE11
import Derived.Test.YtkpcieenikmbmaaPkXE12
import Derived.Test.YtkpcieenikmbmaaPkXE13
import Derived.Test.YtkpcieenikmbmaaPkXE14
import Derived.Test.YtkpcieenikmbmaaPkXE15
import Derived.Test.YtkpcieenikmbmaaPkXE16
import Derived.Test.YtkpcieenikmbmaaPkXE17
import Derived.Test.YtkpcieenikmbmaaPkXE19
import Derived.Test.YtkpcieenikmbmaaPkXE2
import Derived.Test.YtkpcieenikmbmaaPkXE20
import Derived.Test.YtkpcieenikmbmaaPkXE21
import Derived.Test.YtkpcieenikmbmaaPkXE22
import Derived.Test.YtkpcieenikmbmaaPkXE23
import Derived.Test.YtkpcieenikmbmaaPkXE24
import Derived.Test.YtkpcieenikmbmaaPkXE25
import Derived.Test.YtkpcieenikmbmaaPkXE26
import Derived.Test.YtkpcieenikmbmaaPkXE27
import Derived.Test.YtkpcieenikmbmaaPkXE28
import Derived.Test.YtkpcieenikmbmaaPkXE3
import Derived.Test.YtkpcieenikmbmaaPkXE30
import Derived.Test.YtkpcieenikmbmaaPkXE31
import Derived.Test.YtkpcieenikmbmaaPkXE32
import Derived.Test.YtkpcieenikmbmaaPkXE33
import Derived.Test.YtkpcieenikmbmaaPkXE34
import Derived.Test.YtkpcieenikmbmaaPkXE35
import Derived.Test.YtkpcieenikmbmaaPkXE36
import Derived.Test.YtkpcieenikmbmaaPkXE37
import Derived.Test.YtkpcieenikmbmaaPkXE38
import Derived.Test.YtkpcieenikmbmaaPkXE4
import Derived.Test.YtkpcieenikmbmaaPkXE5
import Derived.Test.YtkpcieenikmbmaaPkXE6
import Derived.Test.YtkpcieenikmbmaaPkXE8
import Derived.Test.YtkpcieenikmbmaaPkXE9
/- What the functions' codes come to. -/
namespace Go.Proofs.Ytkpcieenikmbmaa.E
open Go Go.RowKit Go.Proofs.YtkpcieenikmbmaaW.PrintWords Go.Proofs.Ytkpcieenikmbmaa.P
set_option linter.unusedVariables false
set_option linter.unusedSimpArgs false
set_option maxHeartbeats 0
set_option maxRecDepth 100000
theorem laws_FnExactWriteSec_ev {kf : Nat} {l0_0 : List (List Int)} {l0_1 : List (S77)} {a0_2 : Int} {a0_3 : Bool} {a1 : Int} {l2 : List Int} {r : Bool} (H : laws_FnExactWriteSec.f kf l0_0 l0_1 a0_2 a0_3 a1 l2 = some r) : Spec Try.prog 6 [.agg [.v (.row (List.map e27 l0_0)), .v (.row (List.map e77 l0_1)), .v (.i .i64 a0_2), .v (.b a0_3)], .v (.i .i64 a1), .v (.row (List.map e5 l2))] [] (.v (.b r)) [] := by
  simp only [laws_FnExactWriteSec.f, Option.bind_some, List.nil_append, if_true, if_false, Bool.false_eq_true, nilB, nilE] at H
  refine fn_okF (E := env) Try.func6 (by rfl) rfl (n := 92) (by rfl) ?_
  repeat' ((conv => whnf); first
           | ((with_reducible have hp := peel_ H); clear H; obtain ⟨_, H⟩ := hp)
           | ((with_reducible have hp := peeln_ H); clear H; obtain ⟨_, H⟩ := hp)
           | (with_reducible replace H := itet_ H)
           | (with_reducible replace H := itef_ H)
           | ((with_reducible refine sideid_ ?_); refine side_ ?_)
           | ((with_reducible refine seqid_ ?_); refine sgo_ ?_)
           | ((with_reducible refine brid_ ?_); first
             | (with_reducible refine brct_ ?_)
             | (with_reducible refine brcf_ ?_)
             | (with_reducible refine brt_ ?_)
             | (with_reducible refine brf_ ?_)
             | (refine br_ H (by with_reducible first | rfl | exact bi_ _ _ | exact bd_ _ | exact bs_ _ _) (fun _ H => ?_) (fun _ H => ?_))
             | (refine brn_ H (by with_reducible first | rfl | exact bni_ _ _ | exact bin_ _ _ | exact bn_ _ | exact bs0_ _ _ | exact bnn_ _) (fun _ H => ?_) (fun _ H => ?_))
             | (refine brt_ ?_)
             | (refine brf_ ?_)
             | (refine br_ H (by exact Eq.refl _) (fun _ H => ?_) (fun _ H => ?_))
             | (refine brn_ H (by exact Eq.refl _) (fun _ H => ?_) (fun _ H => ?_)))
           | ((with_reducible refine br2id_ ?_); first
             | (refine br2t_ ?_)
             | (refine br2f_ ?_))
           | ((with_reducible refine blkid_ ?_); refine bgo_ ?_)
           | ((with_reducible refine normid_ ?_); first
             | (refine norm_nilapp ?_)
             | (refine norm_appnil ?_)
             | (refine norm_app ?_)
             | (refine norm_t ?_)
             | (refine norm_d ?_)
             | (refine norm_td ?_)
             | (refine norm_set (e := 5) (f := e5) _ rfl ?_)
             | (refine norm_rep (e := 5) (f := e5) _ rfl ?_))
           | ((with_reducible refine elemid_ ?_); refine elem_ (f := e5) 0 (rd _ _) rfl ?_ (by first | assumption | decide | omega) (by first | assumption | omega))
           | ((with_reducible refine lenid_ ?_); refine lenm_ ?_)
           | ((with_reducible refine strid_ ?_); first
             | (refine stre_ ?_)
             | (refine stre0_ ?_))
           | ((with_reducible refine callid_ ?_); (first | (with_reducible have hp := bnd_ H); clear H; obtain ⟨_, ht, H⟩ := hp | have hp := tl_ H; clear H; obtain ⟨_, ht, H⟩ := hp); first
             | (refine call_ (laws_szDisk_ev ht) rfl rfl ?_)
             | (refine call_ (laws_toDisk_ev ht) rfl rfl ?_)
             | (refine call_ (laws_toDiskT_ev ht) rfl rfl ?_)
             | (refine call_ (laws_eqByteS_ev ht) rfl rfl ?_)
             | (refine call_ (laws_eqDisk_ev ht) rfl rfl ?_)
             | (obtain ⟨hl1_, hl2_⟩ := laws_markDisk_len ht; refine call_ (laws_markDisk_evot ht) rfl rfl ?_)
             | (have hl_ := laws_markByteS_len ht; refine call_ (laws_markByteS_evo ht) rfl rfl ?_)
             | (refine call_ (impl_WriteSec_evt ht) rfl rfl ?_)
             | (refine call_ (spec_WriteSec_ev ht) rfl rfl ?_)
             | (refine call_ (laws_heldDisk_ev ht) rfl rfl ?_)
             | (refine call_ (laws_toByteS_ev ht) rfl rfl ?_))
           | ((with_reducible refine handid_ ?_); first
             | (with_reducible refine handb_ 16 ?_)
             | (with_reducible refine handb_ 17 ?_)
             | (with_reducible refine handc_ 21 ?_)
             | (refine handa_ ?_))
           | ((with_reducible refine mkid_ ?_); refine mka_ ?_)
           | ((with_reducible refine finid_ ?_); refine finK_ [] ?_; (conv => whnf); replace H := Option.some.inj H; subst H; (conv => whnf); refine ⟨rfl, ?_⟩; first | rfl | (repeat' (first | rfl | refine own_eq ?_ | refine tup_eq ?_ | refine agg_eq ?_ | refine cons_eq ?_ ?_ | refine vi_eq ?_ | simp only [List.length_map, List.length_set, wm_]))))
end Go.Proofs.Ytkpcieenikmbmaa.E
