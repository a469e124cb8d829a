/- Texts of this seat's claims, put together: E_impl_ParseConf -/
import Derived.Test.YthkepmicdpgbbaaDoorPkCB5
import Derived.Test.YthkepmicdpgbbaaDoorPkCE10
import Derived.Test.YthkepmicdpgbbaaDoorPkCE11
import Derived.Test.YthkepmicdpgbbaaDoorPkCE12
import Derived.Test.YthkepmicdpgbbaaDoorPkCE13
import Derived.Test.YthkepmicdpgbbaaDoorPkCE8
import Derived.Test.YthkepmicdpgbbaaDoorPkCE9
/- What the functions' codes come to. -/
namespace Go.Proofs.YthkepmicdpgbbaaDoor.E
open Go Go.RowKit Go.Proofs.YthkepmicdpgbbaaDoorW.PrintWords Go.Proofs.YthkepmicdpgbbaaDoor.P
set_option linter.unusedVariables false
set_option linter.unusedSimpArgs false
set_option maxHeartbeats 0
set_option maxRecDepth 100000
theorem impl_ParseConf_ev {kf : Nat} {a0 : ByteArray} {r : (List (S55)) × Bool} (H : impl_ParseConf.f kf a0 = some r) : Spec Tryd.prog 10 [.v (.s a0)] [] (.tup [.own 0 (List.map e55 r.1).length, .v (.b r.2)]) [.arr 5 55 false (List.map e55 r.1)] := by
  simp only [impl_ParseConf.f, Option.bind_some, List.nil_append, if_true, if_false, Bool.false_eq_true, nilB, nilE] at H
  refine fn_okF (E := env) Tryd.func10 (by rfl) rfl (n := 67) (by rfl) ?_
  repeat' ((conv => whnf); first
           | ((with_reducible have hp := peel_ H); clear H; obtain ⟨_, H⟩ := hp)
           | ((with_reducible have hp := peeln_ H); clear H; obtain ⟨_, H⟩ := hp)
           | (with_reducible replace H := itet_ H)
           | (with_reducible replace H := itef_ H)
           | ((with_reducible refine sideid_ ?_); refine side_ ?_)
           | ((with_reducible refine seqid_ ?_); refine sgo_ ?_)
           | ((with_reducible refine brid_ ?_); first
             | (with_reducible refine brct_ ?_)
             | (with_reducible refine brcf_ ?_)
             | (with_reducible refine brt_ ?_)
             | (with_reducible refine brf_ ?_)
             | (refine br_ H (by with_reducible first | rfl | exact bi_ _ _ | exact bd_ _ | exact bs_ _ _) (fun _ H => ?_) (fun _ H => ?_))
             | (refine brn_ H (by with_reducible first | rfl | exact bni_ _ _ | exact bin_ _ _ | exact bn_ _ | exact bs0_ _ _ | exact bnn_ _) (fun _ H => ?_) (fun _ H => ?_))
             | (refine brt_ ?_)
             | (refine brf_ ?_)
             | (refine br_ H (by exact Eq.refl _) (fun _ H => ?_) (fun _ H => ?_))
             | (refine brn_ H (by exact Eq.refl _) (fun _ H => ?_) (fun _ H => ?_)))
           | ((with_reducible refine br2id_ ?_); first
             | (refine br2t_ ?_)
             | (refine br2f_ ?_))
           | ((with_reducible refine idxid_ ?_); first
             | (refine idxc_ H 0 (by rfl) (by decide) (fun H => ?_) (fun H => ?_))
             | (refine idxc_ H 1 (by rfl) (by decide) (fun H => ?_) (fun H => ?_))
             | (refine idxc_ H 2 (by rfl) (by decide) (fun H => ?_) (fun H => ?_))
             | (refine idxc_ H 3 (by rfl) (by decide) (fun H => ?_) (fun H => ?_))
             | (refine idxc_ H 4 (by rfl) (by decide) (fun H => ?_) (fun H => ?_))
             | (refine idxa_ 0 (by omega) (by decide) ?_)
             | (refine idxa_ 1 (by omega) (by decide) ?_)
             | (refine idxa_ 2 (by omega) (by decide) ?_)
             | (refine idxa_ 3 (by omega) (by decide) ?_)
             | (refine idxa_ 4 (by omega) (by decide) ?_)
             | (cases H))
           | ((with_reducible refine normid_ ?_); first
             | (refine norm_nilapp ?_)
             | (refine norm_appnil ?_)
             | (refine norm_app ?_)
             | (refine norm_t ?_)
             | (refine norm_d ?_)
             | (refine norm_td ?_)
             | (refine norm_set (e := 9) (f := e9) _ rfl ?_)
             | (refine norm_rep (e := 9) (f := e9) _ rfl ?_)
             | (refine norm_set (e := 55) (f := e55) ⟨_, _, _, _, _⟩ rfl ?_)
             | (refine norm_rep (e := 55) (f := e55) ⟨_, _, _, _, _⟩ rfl ?_)
             | (refine norm_lit (e := 55) (n := 0) (f := e55) [] rfl ?_)
             | (refine norm_lit (e := 55) (n := 1) (f := e55) [⟨_, _, _, _, _⟩] rfl ?_))
           | ((with_reducible refine elemid_ ?_); first
             | (refine elem_ (f := e9) ByteArray.empty (rdOf ByteArray.empty _ _) rfl ?_ (by first | assumption | decide | omega) (by first | assumption | omega))
             | (refine elem_ (f := e55) z55 (rd_T55 _ _) rfl ?_ (by first | assumption | decide | omega) (by first | assumption | omega)))
           | ((with_reducible refine lenid_ ?_); refine lenm_ ?_)
           | ((with_reducible refine strid_ ?_); first
             | (refine stre_ ?_)
             | (refine stre0_ ?_))
           | ((with_reducible refine callid_ ?_); have hp := bnd_ H; clear H; obtain ⟨_, ht, H⟩ := hp; first
             | (refine call_ (impl_ConfText_ev ht) rfl rfl ?_)
             | (refine call_ (strings_Split_ev ht) rfl rfl ?_)
             | (refine call_ (strings_Cut_ev ht) rfl rfl ?_)
             | (refine call_ (strings_SplitN_ev ht) rfl rfl ?_)
             | (refine call_ (impl_ParseNum_ev ht) rfl rfl ?_))
           | ((with_reducible refine handid_ ?_); refine handa_ ?_)
           | ((with_reducible refine loopid_ ?_); first
             | (refine loopK_ (fun n s h => ∃ x0 x4 x15 x16 x17, impl_ParseConf.l0 n x0 x4 x15 x16 x17 = some r ∧ s = spr 68 0 [(0, .v (.s x0)), (4, .own 0 (List.map e55 x4).length), (15, .own 1 (List.map e9 x15).length), (16, .v (.i .i64 x16)), (17, .v (.i .i64 x17))] ∧ h = [.arr 5 55 false (List.map e55 x4), .arr 1 9 false (List.map e9 x15)]) [] [] [] (bsp 68 0 [0, 4, 15, 16, 17]) _ (by (conv => whnf); refine ⟨_, _, _, _, _, H, rfl, rfl⟩) ?_; rintro n s h hn ⟨x0, x4, x15, x16, x17, H, rfl, rfl⟩; have hk := suc_ (g := fun k => impl_ParseConf.l0 k _ _ _ _ _) H (by simp only [impl_ParseConf.l0]); obtain ⟨kf, hk⟩ := hk; subst hk; simp only [impl_ParseConf.l0, Option.bind_some, List.nil_append, if_true, if_false, Bool.false_eq_true, nilB, nilE] at H)
             | (refine loopK_ (fun n s h => ∃ x0 x4 x7 x15 x16 x17 x29 x30 x31 x212000 x212001 x212002 x212003, impl_ParseConf.l1 n x0 x4 x7 x15 x16 x17 x29 x30 x31 x212000 x212001 x212002 x212003 = some r ∧ s = spr 68 0 [(0, .v (.s x0)), (4, .own 0 (List.map e55 x4).length), (7, .v (.s x7)), (10, .ptr 1 0), (15, .own 2 (List.map e9 x15).length), (16, .v (.i .i64 x16)), (17, .v (.i .i64 x17)), (29, .own 3 (List.map e9 x29).length), (30, .v (.i .i64 x30)), (31, .v (.i .i64 x31))] ∧ h = [.arr 5 55 false (List.map e55 x4), .box 77 [.v (.i .i64 x212000), .v (.i .i64 x212001), .v (.i .i64 x212002), .v (.i .i64 x212003)], .arr 1 9 false (List.map e9 x15), .arr 1 9 false (List.map e9 x29)]) [] [] [] (bsp 68 0 [0, 4, 7, 10, 15, 16, 17, 29, 30, 31]) _ (by (conv => whnf); refine ⟨_, _, _, _, _, _, _, _, _, _, _, _, _, H, rfl, rfl⟩) ?_; rintro n s h hn ⟨x0, x4, x7, x15, x16, x17, x29, x30, x31, x212000, x212001, x212002, x212003, H, rfl, rfl⟩; have hk := suc_ (g := fun k => impl_ParseConf.l1 k _ _ _ _ _ _ _ _ _ _ _ _ _) H (by simp only [impl_ParseConf.l1]); obtain ⟨kf, hk⟩ := hk; subst hk; simp only [impl_ParseConf.l1, Option.bind_some, List.nil_append, if_true, if_false, Bool.false_eq_true, nilB, nilE] at H))
           | ((with_reducible refine nextid_ ?_); first
             | (refine nextK_ (P := fun m => impl_ParseConf.l0 m _ _ _ _ _ = some _) H (bsp 68 0 [0, 4, 15, 16, 17]) ?_ ?_ ?_; (conv => whnf); refine ⟨_, _, _, _, _, H, ?_, rfl⟩; all_goals first | omega | rfl | (repeat' (first | rfl | refine own_eq ?_ | refine cons_eq ?_ ?_ | refine vi_eq ?_ | simp only [List.length_map, List.length_set, wm_])))
             | (refine nextK_ (P := fun m => impl_ParseConf.l1 m _ _ _ _ _ _ _ _ _ _ _ _ _ = some _) H (bsp 68 0 [0, 4, 7, 10, 15, 16, 17, 29, 30, 31]) ?_ ?_ ?_; (conv => whnf); refine ⟨_, _, _, _, _, _, _, _, _, _, _, _, _, H, ?_, rfl⟩; all_goals first | omega | rfl | (repeat' (first | rfl | refine own_eq ?_ | refine cons_eq ?_ ?_ | refine vi_eq ?_ | simp only [List.length_map, List.length_set, wm_]))))
           | ((with_reducible refine finid_ ?_); refine finK_ [] ?_; (conv => whnf); replace H := Option.some.inj H; subst H; (conv => whnf); refine ⟨rfl, ?_⟩; first | rfl | (repeat' (first | rfl | refine own_eq ?_ | refine tup_eq ?_ | refine agg_eq ?_ | refine cons_eq ?_ ?_ | refine vi_eq ?_ | simp only [List.length_map, List.length_set, wm_]))))
end Go.Proofs.YthkepmicdpgbbaaDoor.E
