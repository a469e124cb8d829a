/- Texts of this seat's claims, put together: SameDisk -/
import Derived.Test.YthkepmicdpgbbaaGreatDoorPkYzP1
namespace Go.Proofs.YthkepmicdpgbbaaGreatDoor.Fn
set_option linter.unusedVariables false
set_option linter.unusedSimpArgs false
open Go.RowKit Go.Proofs.YthkepmicdpgbbaaGreatDoorW.PrintWords Go.Proofs.YthkepmicdpgbbaaGreatDoor.P Go.Proofs.YthkepmicdpgbbaaGreatDoor.Base
theorem same_refl (b : List Int) : laws_same.f b b = some true := by unfold laws_same.f; simp
theorem same_of {a b : List Int} (h : a = b) : laws_same.f a b = some true := by rw [h]; exact same_refl b
theorem laws_sameDisk_l1 (d : Dk) (hd : Fits d) (m : Nat) : ∀ (i : Nat), i + m = d.cache.length → Ev (fun k => laws_sameDisk.l1 k (i : Int) d.secs d.cache d.fuse d.down d.secs d.cache d.fuse d.down) true := by
 induction m with
 | zero => intro i hi; exact Ev.step (fun k => laws_sameDisk.l1.eq_2 _ _ _ _ _ _ _ _ _ k) (Ev.neg (by omega) (Ev.done rfl))
 | succ m ih =>
  intro i hi
  have hc := hd.2.2.1
  refine Ev.step (fun k => laws_sameDisk.l1.eq_2 _ _ _ _ _ _ _ _ _ k) (Ev.pos (by omega) (Ev.pos (by omega) (Ev.pos (by omega) (Ev.pos rfl (Ev.then (same_refl _) (Ev.pos rfl ?_))))))
  rw [w64 (n := (i : Int) + 1) (by omega) (by omega), cast_succ]
  exact ih (i + 1) (by omega)
theorem laws_sameDisk_l0 (d : Dk) (hd : Fits d) (m : Nat) : ∀ (i : Nat), i + m = d.secs.length → Ev (fun k => laws_sameDisk.l0 k (i : Int) d.secs d.cache d.fuse d.down d.secs d.cache d.fuse d.down) true := by
 induction m with
 | zero => intro i hi; exact Ev.step (fun k => laws_sameDisk.l0.eq_2 _ _ _ _ _ _ _ _ _ k) (Ev.neg (by omega) (laws_sameDisk_l1 d hd d.cache.length 0 (by omega)))
 | succ m ih =>
  intro i hi
  have hc := hd.1
  refine Ev.step (fun k => laws_sameDisk.l0.eq_2 _ _ _ _ _ _ _ _ _ k) (Ev.pos (by omega) (Ev.pos (by omega) (Ev.pos (by omega) (Ev.then (same_refl _) (Ev.pos rfl ?_)))))
  rw [w64 (n := (i : Int) + 1) (by omega) (by omega), cast_succ]
  exact ih (i + 1) (by omega)
theorem sameDisk (d : Dk) (hd : Fits d) : Ev (fun k => laws_sameDisk.f k d.secs d.cache d.fuse d.down d.secs d.cache d.fuse d.down) true := by
 unfold laws_sameDisk.f
 exact Ev.pos rfl (Ev.neg (by simp) (Ev.pos rfl (Ev.step (fun k => laws_sameDisk.j0.eq_2 _ _ _ _ _ _ _ _ _ k) (Ev.neg (by simp) (laws_sameDisk_l0 d hd d.secs.length 0 (by omega))))))
end Go.Proofs.YthkepmicdpgbbaaGreatDoor.Fn
