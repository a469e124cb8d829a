/- Texts of this seat's claims, put together: E_impl_Format_t, E_laws_FnExactFormat -/
import Derived.Laws.StructEq
import Derived.Test.YtkpcieenikmbmaaPkXB5
import Derived.Test.YtkpcieenikmbmaaPkXE16
import Derived.Test.YtkpcieenikmbmaaPkXE17
import Derived.Test.YtkpcieenikmbmaaPkXE19
import Derived.Test.YtkpcieenikmbmaaPkXE20
import Derived.Test.YtkpcieenikmbmaaPkXE21
import Derived.Test.YtkpcieenikmbmaaPkXE22
import Derived.Test.YtkpcieenikmbmaaPkXE23
import Derived.Test.YtkpcieenikmbmaaPkXE24
import Derived.Test.YtkpcieenikmbmaaPkXE25
import Derived.Test.YtkpcieenikmbmaaPkXE26
import Derived.Test.YtkpcieenikmbmaaPkXE27
import Derived.Test.YtkpcieenikmbmaaPkXE28
import Derived.Test.YtkpcieenikmbmaaPkXE30
import Derived.Test.YtkpcieenikmbmaaPkXE31
import Derived.Test.YtkpcieenikmbmaaPkXE32
import Derived.Test.YtkpcieenikmbmaaPkXE33
import Derived.Test.YtkpcieenikmbmaaPkXE34
import Derived.Test.YtkpcieenikmbmaaPkXE35
import Derived.Test.YtkpcieenikmbmaaPkXE36
import Derived.Test.YtkpcieenikmbmaaPkXE37
import Derived.Test.YtkpcieenikmbmaaPkXE38
import Derived.Test.YtkpcieenikmbmaaPkXE40
import Derived.Test.YtkpcieenikmbmaaPkXE41
import Derived.Test.YtkpcieenikmbmaaPkXE42
import Derived.Test.YtkpcieenikmbmaaPkXE43
import Derived.Test.YtkpcieenikmbmaaPkXE44
import Derived.Test.YtkpcieenikmbmaaPkXE5
import Derived.Test.YtkpcieenikmbmaaPkXE50
import Derived.Test.YtkpcieenikmbmaaPkXE51
import Derived.Test.YtkpcieenikmbmaaPkXE52
import Derived.Test.YtkpcieenikmbmaaPkXE53
import Derived.Test.YtkpcieenikmbmaaPkXE54
import Derived.Test.YtkpcieenikmbmaaPkXE55
import Derived.Test.YtkpcieenikmbmaaPkXE56
import Derived.Test.YtkpcieenikmbmaaPkXE57
import Derived.Test.YtkpcieenikmbmaaPkXE58
import Derived.Test.YtkpcieenikmbmaaPkXE6
/- What the functions' codes come to. -/
namespace Go.Proofs.Ytkpcieenikmbmaa.E
open Go Go.RowKit Go.Proofs.YtkpcieenikmbmaaW.PrintWords Go.Proofs.Ytkpcieenikmbmaa.P
set_option linter.unusedVariables false
set_option linter.unusedSimpArgs false
set_option maxHeartbeats 0
set_option maxRecDepth 100000
theorem impl_Format_evt {kf : Nat}  {r : (List (List Int)) × (List (S54)) × Int × Bool} (H : impl_Format.f kf  = some r) : Spec Try.prog 33 [] [] (.agg [.own 0 (List.map e27 r.1).length, .own 1 (List.map e54 r.2.1).length, .v (.i .i64 r.2.2.1), .v (.b r.2.2.2)]) [.tree 1 27 5 (List.map e27 r.1), .tree 2 54 5 (List.map e54 r.2.1)] := by
  simp only [impl_Format.f, Option.bind_some, List.nil_append, if_true, if_false, Bool.false_eq_true, nilB, nilE] at H
  refine fn_okF (E := env) Try.func33 (by rfl) rfl (n := 5) (by rfl) ?_
  repeat' ((conv => whnf); first
           | ((with_reducible have hp := peel_ H); clear H; obtain ⟨_, H⟩ := hp)
           | ((with_reducible have hp := peeln_ H); clear H; obtain ⟨_, H⟩ := hp)
           | (with_reducible replace H := itet_ H)
           | (with_reducible replace H := itef_ H)
           | ((with_reducible refine sideid_ ?_); refine side_ ?_)
           | ((with_reducible refine seqid_ ?_); refine sgo_ ?_)
           | ((with_reducible refine brid_ ?_); first
             | (with_reducible refine brct_ ?_)
             | (with_reducible refine brcf_ ?_)
             | (with_reducible refine brt_ ?_)
             | (with_reducible refine brf_ ?_)
             | (refine br_ H (by with_reducible first | rfl | exact bi_ _ _ | exact bd_ _ | exact bs_ _ _) (fun _ H => ?_) (fun _ H => ?_))
             | (refine brn_ H (by with_reducible first | rfl | exact bni_ _ _ | exact bin_ _ _ | exact bn_ _ | exact bs0_ _ _ | exact bnn_ _) (fun _ H => ?_) (fun _ H => ?_))
             | (refine brt_ ?_)
             | (refine brf_ ?_)
             | (refine br_ H (by exact Eq.refl _) (fun _ H => ?_) (fun _ H => ?_))
             | (refine brn_ H (by exact Eq.refl _) (fun _ H => ?_) (fun _ H => ?_)))
           | ((with_reducible refine br2id_ ?_); first
             | (refine br2t_ ?_)
             | (refine br2f_ ?_))
           | ((with_reducible refine blkid_ ?_); refine bgo_ ?_)
           | ((with_reducible refine normid_ ?_); first
             | (refine norm_nilapp ?_)
             | (refine norm_appnil ?_)
             | (refine norm_app ?_)
             | (refine norm_t ?_)
             | (refine norm_d ?_)
             | (refine norm_td ?_)
             | (refine norm_set (e := 5) (f := e5) _ rfl ?_)
             | (refine norm_rep (e := 5) (f := e5) _ rfl ?_))
           | ((with_reducible refine elemid_ ?_); refine elem_ (f := e5) 0 (rd _ _) rfl ?_ (by first | assumption | decide | omega) (by first | assumption | omega))
           | ((with_reducible refine lenid_ ?_); refine lenm_ ?_)
           | ((with_reducible refine strid_ ?_); first
             | (refine stre_ ?_)
             | (refine stre0_ ?_))
           | ((with_reducible refine callid_ ?_); (first | (with_reducible have hp := bnd_ H); clear H; obtain ⟨_, ht, H⟩ := hp | have hp := tl_ H; clear H; obtain ⟨_, ht, H⟩ := hp); first
             | (refine call_ (impl_WriteSec_evt ht) rfl rfl ?_)
             | (refine call_ (impl_SyncDisk_evt ht) rfl rfl ?_)
             | (refine call_ (impl_DiskNew_ev ht) rfl rfl ?_)
             | (refine call_ (impl_HeadOf_ev ht) rfl rfl ?_))
           | ((with_reducible refine handid_ ?_); first
             | (with_reducible refine handc_ 28 ?_)
             | (refine handa_ ?_))
           | ((with_reducible refine mkid_ ?_); refine mka_ ?_)
           | ((with_reducible refine finid_ ?_); refine finK_ [] ?_; (conv => whnf); replace H := Option.some.inj H; subst H; (conv => whnf); refine ⟨rfl, ?_⟩; first | rfl | (repeat' (first | rfl | refine own_eq ?_ | refine tup_eq ?_ | refine agg_eq ?_ | refine cons_eq ?_ ?_ | refine vi_eq ?_ | simp only [List.length_map, List.length_set, wm_]))))
end Go.Proofs.Ytkpcieenikmbmaa.E

/- What the functions' codes come to. -/
namespace Go.Proofs.Ytkpcieenikmbmaa.E
open Go Go.RowKit Go.Proofs.YtkpcieenikmbmaaW.PrintWords Go.Proofs.Ytkpcieenikmbmaa.P
set_option linter.unusedVariables false
set_option linter.unusedSimpArgs false
set_option maxHeartbeats 0
set_option maxRecDepth 100000
theorem laws_FnExactFormat_ev {kf : Nat}  {r : Bool} (H : laws_FnExactFormat.f kf  = some r) : Spec Try.prog 7 [] [] (.v (.b r)) [] := by
  simp only [laws_FnExactFormat.f, Option.bind_some, List.nil_append, if_true, if_false, Bool.false_eq_true, nilB, nilE] at H
  refine fn_okF (E := env) Try.func7 (by rfl) rfl (n := 36) (by rfl) ?_
  repeat' ((conv => whnf); first
           | ((with_reducible have hp := peel_ H); clear H; obtain ⟨_, H⟩ := hp)
           | ((with_reducible have hp := peeln_ H); clear H; obtain ⟨_, H⟩ := hp)
           | (with_reducible replace H := itet_ H)
           | (with_reducible replace H := itef_ H)
           | ((with_reducible refine sideid_ ?_); refine side_ ?_)
           | ((with_reducible refine seqid_ ?_); refine sgo_ ?_)
           | ((with_reducible refine brid_ ?_); first
             | (with_reducible refine brct_ ?_)
             | (with_reducible refine brcf_ ?_)
             | (with_reducible refine brt_ ?_)
             | (with_reducible refine brf_ ?_)
             | (refine br_ H (by with_reducible first | rfl | exact bi_ _ _ | exact bd_ _ | exact bs_ _ _) (fun _ H => ?_) (fun _ H => ?_))
             | (refine brn_ H (by with_reducible first | rfl | exact bni_ _ _ | exact bin_ _ _ | exact bn_ _ | exact bs0_ _ _ | exact bnn_ _) (fun _ H => ?_) (fun _ H => ?_))
             | (refine brt_ ?_)
             | (refine brf_ ?_)
             | (refine br_ H (by exact Eq.refl _) (fun _ H => ?_) (fun _ H => ?_))
             | (refine brn_ H (by exact Eq.refl _) (fun _ H => ?_) (fun _ H => ?_)))
           | ((with_reducible refine br2id_ ?_); first
             | (refine br2t_ ?_)
             | (refine br2f_ ?_))
           | ((with_reducible refine blkid_ ?_); refine bgo_ ?_)
           | ((with_reducible refine normid_ ?_); first
             | (refine norm_nilapp ?_)
             | (refine norm_appnil ?_)
             | (refine norm_app ?_)
             | (refine norm_t ?_)
             | (refine norm_d ?_)
             | (refine norm_td ?_))
           | ((with_reducible refine lenid_ ?_); refine lenm_ ?_)
           | ((with_reducible refine strid_ ?_); first
             | (refine stre_ ?_)
             | (refine stre0_ ?_))
           | ((with_reducible refine callid_ ?_); (first | (with_reducible have hp := bnd_ H); clear H; obtain ⟨_, ht, H⟩ := hp | have hp := tl_ H; clear H; obtain ⟨_, ht, H⟩ := hp); first
             | (refine call_ (laws_eqDisk_ev ht) rfl rfl ?_)
             | (obtain ⟨hl1_, hl2_⟩ := laws_markDisk_len ht; refine call_ (laws_markDisk_evot ht) rfl rfl ?_)
             | (refine call_ (laws_heldDisk_ev ht) rfl rfl ?_)
             | (refine call_ (spec_Format_ev ht) rfl rfl ?_)
             | (refine call_ (impl_Format_evt ht) rfl rfl ?_))
           | ((with_reducible refine handid_ ?_); first
             | (with_reducible refine handb_ 16 ?_)
             | (refine handa_ ?_))
           | ((with_reducible refine mkid_ ?_); refine mka_ ?_)
           | ((with_reducible refine finid_ ?_); refine finK_ [] ?_; (conv => whnf); replace H := Option.some.inj H; subst H; (conv => whnf); refine ⟨rfl, ?_⟩; first | rfl | (repeat' (first | rfl | refine own_eq ?_ | refine tup_eq ?_ | refine agg_eq ?_ | refine cons_eq ?_ ?_ | refine vi_eq ?_ | simp only [List.length_map, List.length_set, wm_]))))
end Go.Proofs.Ytkpcieenikmbmaa.E
