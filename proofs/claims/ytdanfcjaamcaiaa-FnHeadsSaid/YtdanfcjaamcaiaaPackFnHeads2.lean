/- Texts of this claim, put together: Px18, Px33, Base, Crc, Bytes, Sum, Word, Head, GetHead, Draw, DrawFrames, Heads, PureFnHeads, WSized, LawFnHeads -/
import Derived.Test.YtdanfcjaamcaiaaPackFnHeads1
import Derived.WideShapes
import Derived.Laws.BitsLemmas
import Derived.SizedLaws
import Derived.ChangeSlices
import Derived.Test.YtdanfcjaamcaiaaRows
import Derived.WalkKit
import Derived.ProofKit
import Derived.OpenShut
import Derived.ShutString
import Derived.ChangeOld
import Derived.Below
-- Written by xprint.py (by way of the kit's print program) out of the translation.
namespace Go.Proofs.Ytdanfcjaamcaiaa.P
open Go.RowKit Go.Proofs.YtdanfcjaamcaiaaW.PrintWords Go.Proofs.YtdanfcjaamcaiaaW.PrintLast Go.Proofs.YtdanfcjaamcaiaaW.PrintMore
attribute [local go_sem] max2_int min2_int max_two min_two max_three min_three max_four min_four   -- for this text's walks alone
set_option linter.unusedVariables false
set_option linter.unusedSimpArgs false

/-! ### laws_big: function 47 -/
set_option maxHeartbeats 8000000 in
set_option maxRecDepth 100000 in
theorem laws_big.calls (A0 : Option Addr) (c0 : Nat) (l0 : List Int) (r : Bool) (w : World) (hr0 : Kd.C (Kd.int .u8) w A0 l0.length l0) (hc0 : l0.length ≤ c0) (h : laws_big.f l0 = some r) :
  Calls Try.prog 47 #[.slice A0 l0.length c0] w fun e w' => e = .returned (.bool r) ∧ Drawn0 w w' := by
 have HR0 := Aside0.mk hr0
 have HC0 := Aside0.mk hc0
 clear hr0 hc0
 have H : (some (decide ((l0.length : Int) > 1048576))) = some r := h
 clear h
 obtain rfl := Option.some.inj H
 go_enter Try.func47, Try.ntmps47
 go_wp2
 go_ret
 exact ⟨by first | rfl | (simp; done) | (simp [*]; done), by repeat (first | exact Drawn0.refl _ | apply Drawn0.step)⟩

/-- A state of type 128 at block g of W; what its slices lead to came in by w0. -/
def IsS128 (w0 W : World) (g : Nat) (f0 : List Int) (f1 : Int) (f2 : Int) : Prop := ∃ A0 c0, W.heap[g]? = some (.cells #[.slice A0 f0.length c0, .int .i64 f1, .int .i64 f2] 128 (0, 0)) ∧ w0.heap.size ≤ g ∧ Kd.C (Kd.int .u8) w0 A0 f0.length f0
theorem IsS128.grown {w0 W : World} {g : Nat} {f0 : List Int} {f1 : Int} {f2 : Int} {W1 : World} {row : Option Nat} (h : IsS128 w0 W g f0 f1 f2) (hw : W.grownBy W1 row) (hne : some g ≠ row) : IsS128 w0 W1 g f0 f1 f2 := by
 obtain ⟨A0, c0, hb, hg, hr0⟩ := h
 exact ⟨A0, c0, blk_grown hb hw hne, hg, hr0⟩
theorem IsS128.kept {w0 W : World} {g : Nat} {f0 : List Int} {f1 : Int} {f2 : Int} {W1 : World} {S : Nat → Prop} (h : IsS128 w0 W g f0 f1 f2) (hk : Kept W W1 S) (hne : ¬ S g) : IsS128 w0 W1 g f0 f1 f2 := by
 obtain ⟨A0, c0, hb, hg, hr0⟩ := h
 exact ⟨A0, c0, blk_kept hb hk hne, hg, hr0⟩
theorem IsS128.below {w0 W : World} {g : Nat} {f0 : List Int} {f1 : Int} {f2 : Int} {W1 : World} (h : IsS128 w0 W g f0 f1 f2) (hw : Below W.heap.size W W1) : IsS128 w0 W1 g f0 f1 f2 := h.grown (grown_of_below hw none) (by simp)
theorem IsS128.alloc {w0 W : World} {g : Nat} {f0 : List Int} {f1 : Int} {f2 : Int} (h : IsS128 w0 W g f0 f1 f2) (o : Obj) : IsS128 w0 (W.alloc o) g f0 f1 f2 := h.below (below_alloc (Below.refl _ _) o)
theorem IsS128.drewN {w0 W : World} {g : Nat} {f0 : List Int} {f1 : Int} {f2 : Int} (h : IsS128 w0 W g f0 f1 f2) (m : Nat) : IsS128 w0 (W.drewN m) g f0 f1 f2 := h
theorem IsS128.drew {w0 W : World} {g : Nat} {f0 : List Int} {f1 : Int} {f2 : Int} (h : IsS128 w0 W g f0 f1 f2) : IsS128 w0 W.drew g f0 f1 f2 := h
theorem IsS128.at_ {w0 W : World} {g : Nat} {f0 : List Int} {f1 : Int} {f2 : Int} {w' : World} {m : Nat} (hq : W.drewN m = w') (h : IsS128 w0 W g f0 f1 f2) : IsS128 w0 w' g f0 f1 f2 := by subst hq; exact IsS128.drewN h m
theorem IsS128.apart {w0 W : World} {g : Nat} {f0 : List Int} {f1 : Int} {f2 : Int} {α : Type} {d : Kd α} {e : Nat} {base : Nat} {ok : Nat → Prop} {v : Value} {xs : List α} (h : IsS128 w0 W g f0 f1 f2) (ho : d.R e W base ok v xs) (ht : ∀ q, q ∈ e :: d.E → q ≠ 128) : d.R e W base (fun k => ok k ∧ k ≠ g) v xs := by
 obtain ⟨A0, c0, hb, hg, hr0⟩ := h
 exact Kd.R_types ho hb ht
theorem IsS128.own_ne {w0 W : World} {g : Nat} {f0 : List Int} {f1 : Int} {f2 : Int} {α : Type} {d : Kd α} {e : Nat} {base : Nat} {ok : Nat → Prop} {v : Value} {xs : List α} (h : IsS128 w0 W g f0 f1 f2) (ho : d.R e W base ok v xs) (ht : e ≠ 128) : some g ≠ v.ownBlock := by
 obtain ⟨A0, c0, hb, hg, hr0⟩ := h
 exact Kd.R_ne ho hb ht
theorem IsS128.ge {w0 W : World} {g : Nat} {f0 : List Int} {f1 : Int} {f2 : Int} (h : IsS128 w0 W g f0 f1 f2) : w0.heap.size ≤ g := by
 obtain ⟨A0, c0, hb, hg, hr0⟩ := h
 exact hg
theorem IsS128.far {w0 W : World} {g : Nat} {f0 : List Int} {f1 : Int} {f2 : Int} {p : Addr} (h : IsS128 w0 W g f0 f1 f2) (hne : g ≠ p.block) (u : Value) : IsS128 w0 (W.setCell p u) g f0 f1 f2 := by
 obtain ⟨A0, c0, hb, hg, hr0⟩ := h
 exact ⟨A0, c0, blk_far hb hne u, hg, hr0⟩
theorem cellS128_0 {W : World} {g : Nat} {A0 : Option Addr} {c0 : Nat} {f0 : List Int} {f1 : Int} {f2 : Int} (h : W.heap[g]? = some (.cells #[.slice A0 f0.length c0, .int .i64 f1, .int .i64 f2] 128 (0, 0))) : W.cell? ⟨g, 0, none⟩ = some (.slice A0 f0.length c0) := (blk_cell h 0).trans rfl
theorem cellS128_1 {W : World} {g : Nat} {A0 : Option Addr} {c0 : Nat} {f0 : List Int} {f1 : Int} {f2 : Int} (h : W.heap[g]? = some (.cells #[.slice A0 f0.length c0, .int .i64 f1, .int .i64 f2] 128 (0, 0))) : W.cell? ⟨g, 1, none⟩ = some (.int .i64 f1) := (blk_cell h 1).trans rfl
theorem IsS128.set_1 {w0 W : World} {g : Nat} {f0 : List Int} {f1 : Int} {f2 : Int} (h : IsS128 w0 W g f0 f1 f2) (x : Int) : IsS128 w0 (W.setCell ⟨g, 1, none⟩ (.int .i64 x)) g f0 x f2 := by
 obtain ⟨A0, c0, hb, hg, hr0⟩ := h
 exact ⟨A0, c0, by simpa using blk_set hb 1 (.int .i64 x), hg, hr0⟩
theorem cellS128_2 {W : World} {g : Nat} {A0 : Option Addr} {c0 : Nat} {f0 : List Int} {f1 : Int} {f2 : Int} (h : W.heap[g]? = some (.cells #[.slice A0 f0.length c0, .int .i64 f1, .int .i64 f2] 128 (0, 0))) : W.cell? ⟨g, 2, none⟩ = some (.int .i64 f2) := (blk_cell h 2).trans rfl
theorem IsS128.set_2 {w0 W : World} {g : Nat} {f0 : List Int} {f1 : Int} {f2 : Int} (h : IsS128 w0 W g f0 f1 f2) (x : Int) : IsS128 w0 (W.setCell ⟨g, 2, none⟩ (.int .i64 x)) g f0 f1 x := by
 obtain ⟨A0, c0, hb, hg, hr0⟩ := h
 exact ⟨A0, c0, by simpa using blk_set hb 2 (.int .i64 x), hg, hr0⟩

/-! ### spec_l1New: function 92 -/
set_option maxHeartbeats 8000000 in
set_option maxRecDepth 100000 in
theorem spec_l1New.calls (k : Nat) (A0 : Option Addr) (c0 : Nat) (l0 : List Int) (r1 : List Int) (r2 : Int) (r3 : Int) (w0 w : World) (hB : Below w0.heap.size w0 w) (hr0 : Kd.C (Kd.int .u8) w0 A0 l0.length l0) (hc0 : l0.length ≤ c0) (h : spec_l1New.f k l0 = some (r1, r2, r3)) :
  Calls Try.prog 92 #[.slice A0 l0.length c0] w fun e w' => ∃ g_ : Nat, e = .returned (.pointer (some ⟨g_, 0, none⟩)) ∧ IsS128 w0 w' g_ r1 r2 r3 ∧ Below w0.heap.size w0 w' ∧ Below w.heap.size w w' := by
 have hu128 := Try.underlying128
 have HR0 := Aside0.mk hr0
 have HC0 := Aside0.mk hc0
 clear hr0 hc0
 have HBW := Aside0.mk (Below.refl w.heap.size w)
 have HW0 := Aside0.mk hB.size
 have HB := Aside0.mk hB
 clear hB
 have H : (spec_l1New.l0 k l0 (wrap64 (128871 + (l0.length : Int))) 0) = some (r1, r2, r3) := h
 clear h
 have H' := Aside0.mk H
 clear H
 go_enter Try.func92, Try.ntmps92
 go_wp2
 go_loopg [3, 4] k (fun kq v3 v4 w' => ∃ (x3_1 : Int) (x4_1 : Int), v3 = .int .i64 x3_1 ∧ v4 = .int .i64 x4_1 ∧ Aside0 (spec_l1New.l0 kq l0 x3_1 x4_1 = some (r1, r2, r3)) ∧ Aside0 (kq ≤ k) ∧ Aside0 (Below w0.heap.size w0 w') ∧ Aside0 (Below w.heap.size w w'))
 case atStart => exact ⟨(wrap64 (128871 + (l0.length : Int))), (0), z7_, z7_, H', ⟨Nat.le_refl _⟩, ⟨by repeat (first | (with_reducible first | exact HB.out | apply below_alloc | apply pw_below_drewN | apply below_drew1) | exact HB.out)⟩, ⟨by repeat (first | (with_reducible first | exact HBW.out | apply below_alloc | apply pw_below_drewN | apply below_drew1) | exact HBW.out)⟩⟩
 case round =>
  clear H'
  obtain ⟨x3_1, x4_1, rfl, rfl, HA, HK1, HB, HBW⟩ := hrel
  cases gk with
  | zero => exact absurd HA.out (by simp [spec_l1New.l0])
  | succ k1 =>
   have H := HA.out
   clear HA
   simp only [spec_l1New.l0] at H
   by_cases c2 : x4_1 < (l0.length : Int)
   ·rw [if_pos c2] at H
    have c2b0 : decide (x4_1 < (l0.length : Int)) = true := decide_eq_true c2
    clear c2
    by_cases c3 : x4_1 < 4000
    ·rw [if_pos c3] at H
     have c3b0 : decide (x4_1 < 4000) = true := decide_eq_true c3
     clear c3
     by_cases c4 : 0 ≤ x4_1
     ·rw [if_pos c4] at H
      have c4b0 : decide (0 ≤ x4_1) = true := decide_eq_true c4
      clear c4
      have H' := Aside0.mk H
      clear H
      have p588 : 0 ≤ (x4_1 : Int) := of_decide_eq_true z5_
      have q588 : x4_1 < (l0.length : Int) := of_decide_eq_true z5_
      obtain ⟨ad588, e588, hx588_0⟩ := Kd.at_int HR0.out x4_1 p588 q588
      cases e588
      replace hx588_0 := pw_cell_below HB.out hx588_0
      replace p588 := eq_true p588
      replace q588 := eq_true q588
      go_wp2
      go_roundg k1
      case measure => have := HK1.out; omega
      case rel => exact ⟨(Go.bits .and .i64 (wrap64 ((wrap64 ((wrap64 (x3_1 * 137)) + (wrap64 (rd l0 x4_1)))) + 11)) 1073741823), (wrap64 (x4_1 + 1)), z7_, z7_, H', ⟨by have := HK1.out; omega⟩, ⟨by repeat (first | (with_reducible first | exact HB.out | apply below_alloc | apply pw_below_drewN | apply below_drew1) | exact HB.out)⟩, ⟨by repeat (first | (with_reducible first | exact HBW.out | apply below_alloc | apply pw_below_drewN | apply below_drew1) | exact HBW.out)⟩⟩
     ·rw [if_neg c4] at H
      exact absurd H (by simp)
    ·rw [if_neg c3] at H
     have c3b0 : decide (x4_1 < 4000) = false := decide_eq_false c3
     clear c3
     simp only [Option.some.injEq, Prod.mk.injEq] at H
     obtain ⟨rfl, rfl, rfl⟩ := H
     go_wp2_with (first | ((with_reducible refine gate_dst (N := 31) rfl ?_); refine box_event ?hg (N := 31) ?hd (cs := #[.slice A0 l0.length c0, .int .i64 0, .int .i64 x3_1]) (t := 128) ?hr ?_; (case hd => rfl); (case hg => rfl); (case hr => first | (go_simp; done) | (go_simp; rfl)); intro gb589 hg w5 hbox hb; have n0_ := Aside0.mk (below_step HBW.out hb); have n1_ := Aside0.mk (below_step z1_ hb); have n2_ := Aside0.mk (hbox); have n3_ := Aside0.mk ((by rw [hg]; exact (below_size z14_) : w.heap.size ≤ gb589)); have n4_ := Aside0.mk ((Nat.le_trans HW0.out (by rw [hg]; exact (below_size z14_) : w.heap.size ≤ gb589) : w0.heap.size ≤ gb589)); clear HBW; clear HB; have HBW := n0_; have HB := n1_; have BK589 := n2_; have GW589 := n3_; have GE589 := n4_; clear n0_ n1_ n2_ n3_ n4_; clear hb hbox hg))
     go_ret
     exact ⟨_, rfl, (show IsS128 w0 _ gb589 l0 0 x3_1 from ⟨_, _, by (with_reducible repeat (first | refine blk_drewN ?_ _ | refine blk_drew ?_ | refine blk_alloc ?_ _)); exact BK589.out, GE589.out, HR0.out⟩), by repeat (first | (with_reducible first | exact HB.out | apply below_alloc | apply pw_below_drewN | apply below_drew1 | refine below_set ?_ GE589.out) | exact HB.out), by repeat (first | (with_reducible first | exact HBW.out | apply below_alloc | apply pw_below_drewN | apply below_drew1 | refine below_set ?_ GW589.out) | exact HBW.out)⟩
   ·rw [if_neg c2] at H
    have c2b0 : decide (x4_1 < (l0.length : Int)) = false := decide_eq_false c2
    clear c2
    simp only [Option.some.injEq, Prod.mk.injEq] at H
    obtain ⟨rfl, rfl, rfl⟩ := H
    go_wp2_with (first | ((with_reducible refine gate_dst (N := 31) rfl ?_); refine box_event ?hg (N := 31) ?hd (cs := #[.slice A0 l0.length c0, .int .i64 0, .int .i64 x3_1]) (t := 128) ?hr ?_; (case hd => rfl); (case hg => rfl); (case hr => first | (go_simp; done) | (go_simp; rfl)); intro gb590 hg w6 hbox hb; have n0_ := Aside0.mk (below_step HBW.out hb); have n1_ := Aside0.mk (below_step z1_ hb); have n2_ := Aside0.mk (hbox); have n3_ := Aside0.mk ((by rw [hg]; exact (below_size z14_) : w.heap.size ≤ gb590)); have n4_ := Aside0.mk ((Nat.le_trans HW0.out (by rw [hg]; exact (below_size z14_) : w.heap.size ≤ gb590) : w0.heap.size ≤ gb590)); clear HBW; clear HB; have HBW := n0_; have HB := n1_; have BK590 := n2_; have GW590 := n3_; have GE590 := n4_; clear n0_ n1_ n2_ n3_ n4_; clear hb hbox hg))
    go_ret
    exact ⟨_, rfl, (show IsS128 w0 _ gb590 l0 0 x3_1 from ⟨_, _, by (with_reducible repeat (first | refine blk_drewN ?_ _ | refine blk_drew ?_ | refine blk_alloc ?_ _)); exact BK590.out, GE590.out, HR0.out⟩), by repeat (first | (with_reducible first | exact HB.out | apply below_alloc | apply pw_below_drewN | apply below_drew1 | refine below_set ?_ GE590.out) | exact HB.out), by repeat (first | (with_reducible first | exact HBW.out | apply below_alloc | apply pw_below_drewN | apply below_drew1 | refine below_set ?_ GW590.out) | exact HBW.out)⟩

/-! ### spec_l1Byte: function 116 -/
set_option maxHeartbeats 8000000 in
set_option maxRecDepth 100000 in
theorem spec_l1Byte.calls (g : Nat) (s0_0 : List Int) (s0_1 : Int) (s0_2 : Int) (r1 : Int) (r2 : Int) (r3 : Int) (w0 w : World) (hI : IsS128 w0 w g s0_0 s0_1 s0_2) (hB : Below w0.heap.size w0 w) (h : spec_l1Byte.f s0_0 s0_1 s0_2 = some (r1, r2, r3)) :
  Calls Try.prog 116 #[.pointer (some ⟨g, 0, none⟩)] w fun e w' => e = .returned (.int .i64 r1) ∧ IsS128 w0 w' g s0_0 r2 r3 ∧ Below w0.heap.size w0 w' ∧ KeepBut w w' g none := by
 have HI0 := Aside0.mk hI
 have HK := Aside0.mk (KeepBut.refl w g none)
 have HL := Aside0.mk hB.size
 clear hI
 have HW0 := Aside0.mk hB.size
 have HB := Aside0.mk hB
 clear hB
 have H : (if s0_1 < (s0_0.length : Int) then (if 0 ≤ s0_1 then (some (Go.bits .and .i64 (wrap64 ((Go.bits .and .i64 (Go.bits .xor .i64 ((wrap64 ((wrap64 (s0_2 * 6364136223846793005)) + 1442695040888963407)) / 8589934592) ((wrap64 ((wrap64 (s0_2 * 6364136223846793005)) + 1442695040888963407)) / 140737488355328)) 255) + (wrap64 (rd s0_0 s0_1)))) 255, wrap64 (s0_1 + 1), wrap64 ((wrap64 (s0_2 * 6364136223846793005)) + 1442695040888963407))) else (none)) else (some (Go.bits .and .i64 (Go.bits .xor .i64 ((wrap64 ((wrap64 (s0_2 * 6364136223846793005)) + 1442695040888963407)) / 8589934592) ((wrap64 ((wrap64 (s0_2 * 6364136223846793005)) + 1442695040888963407)) / 140737488355328)) 255, s0_1, wrap64 ((wrap64 (s0_2 * 6364136223846793005)) + 1442695040888963407)))) = some (r1, r2, r3) := h
 clear h
 by_cases c2 : s0_1 < (s0_0.length : Int)
 ·rw [if_pos c2] at H
  have c2b0 : decide (s0_1 < (s0_0.length : Int)) = true := decide_eq_true c2
  clear c2
  by_cases c3 : 0 ≤ s0_1
  ·rw [if_pos c3] at H
   have c3b0 : decide (0 ≤ s0_1) = true := decide_eq_true c3
   clear c3
   simp only [Option.some.injEq, Prod.mk.injEq] at H
   obtain ⟨rfl, rfl, rfl⟩ := H
   obtain ⟨ASz4_0, cSz4_0, HGz4, hgz4, HSz4_0⟩ := HI0.out
   have hcz4_0 := cellS128_0 HGz4
   have hcz4_1 := cellS128_1 HGz4
   have hcz4_2 := cellS128_2 HGz4
   have hfz4_1 := blk_frozen HGz4 1
   have hfz4_2 := blk_frozen HGz4 2
   clear HGz4 hgz4
   have p591 : 0 ≤ (s0_1 : Int) := of_decide_eq_true z5_
   have q591 : s0_1 < (s0_0.length : Int) := of_decide_eq_true z5_
   obtain ⟨ad591, e591, hx591_0⟩ := Kd.at_int HSz4_0 s0_1 p591 q591
   cases e591
   have hn591_0 : ad591.block ≠ g := Nat.ne_of_lt (Nat.lt_of_lt_of_le (by have := World.block_lt_of_cell? _ _ hx591_0; first | rwa [add_block] at this | exact this) (IsS128.ge HI0.out))
   replace hx591_0 := pw_cell_below HB.out hx591_0
   replace hx591_0 := (cell_far (p := ⟨g, 2, none⟩) (by first | (rw [add_block]; exact hn591_0) | (show (Addr.add _ _).block ≠ _; rw [add_block]; exact hn591_0) | exact hn591_0) (.int .i64 (wrap64 ((wrap64 (s0_2 * 6364136223846793005)) + 1442695040888963407)))).trans hx591_0
   (try have hy591_0 := fun (n_ : Nat) => (show (((w.drewN n_).setCell ⟨g, 2, none⟩ (.int .i64 (wrap64 ((wrap64 (s0_2 * 6364136223846793005)) + 1442695040888963407))))).cell? _ = some _ from hx591_0))
   clear hn591_0
   replace p591 := eq_true p591
   replace q591 := eq_true q591
   go_enter Try.func116, Try.ntmps116
   go_wp2
   repeat (go_quiet (fail); try go_wp2)
   go_ret
   exact ⟨by first | rfl | (simp [errW_none, errW_some] <;> rfl) | (simp [*, errW_none, errW_some] <;> rfl), by repeat (first | (with_reducible first | exact HI0.out | apply IsS128.alloc | apply IsS128.drewN | apply IsS128.drew | apply IsS128.set_1 | apply IsS128.set_2) | exact HI0.out), by repeat (first | (with_reducible first | exact HB.out | apply below_alloc | apply pw_below_drewN | apply below_drew1 | refine below_set ?_ (IsS128.ge HI0.out)) | exact HB.out), by repeat (first | (with_reducible first | exact HK.out | apply KeepBut.set_ | apply keep_drewN | apply keep_drew | apply keep_alloc) | exact HK.out)⟩
  ·rw [if_neg c3] at H
   exact absurd H (by simp)
 ·rw [if_neg c2] at H
  have c2b0 : decide (s0_1 < (s0_0.length : Int)) = false := decide_eq_false c2
  clear c2
  simp only [Option.some.injEq, Prod.mk.injEq] at H
  obtain ⟨rfl, rfl, rfl⟩ := H
  obtain ⟨ASz5_0, cSz5_0, HGz5, hgz5, HSz5_0⟩ := HI0.out
  have hcz5_0 := cellS128_0 HGz5
  have hcz5_1 := cellS128_1 HGz5
  have hcz5_2 := cellS128_2 HGz5
  have hfz5_1 := blk_frozen HGz5 1
  have hfz5_2 := blk_frozen HGz5 2
  clear HGz5 hgz5
  go_enter Try.func116, Try.ntmps116
  go_wp2
  repeat (go_quiet (fail); try go_wp2)
  go_ret
  exact ⟨by first | rfl | (simp [errW_none, errW_some] <;> rfl) | (simp [*, errW_none, errW_some] <;> rfl), by repeat (first | (with_reducible first | exact HI0.out | apply IsS128.alloc | apply IsS128.drewN | apply IsS128.drew | apply IsS128.set_1 | apply IsS128.set_2) | exact HI0.out), by repeat (first | (with_reducible first | exact HB.out | apply below_alloc | apply pw_below_drewN | apply below_drew1 | refine below_set ?_ (IsS128.ge HI0.out)) | exact HB.out), by repeat (first | (with_reducible first | exact HK.out | apply KeepBut.set_ | apply keep_drewN | apply keep_drew | apply keep_alloc) | exact HK.out)⟩

/-! ### spec_l1Below: function 96 -/
set_option maxHeartbeats 8000000 in
set_option maxRecDepth 100000 in
theorem spec_l1Below.calls (g : Nat) (s0_0 : List Int) (s0_1 : Int) (s0_2 : Int) (a1 : Int) (r1 : Int) (r2 : Int) (r3 : Int) (w0 w : World) (hI : IsS128 w0 w g s0_0 s0_1 s0_2) (hB : Below w0.heap.size w0 w) (h : spec_l1Below.f s0_0 s0_1 s0_2 a1 = some (r1, r2, r3)) :
  Calls Try.prog 96 #[.pointer (some ⟨g, 0, none⟩), .int .i64 a1] w fun e w' => e = .returned (.int .i64 r1) ∧ IsS128 w0 w' g s0_0 r2 r3 ∧ Below w0.heap.size w0 w' ∧ KeepBut w w' g none := by
 have HI0 := Aside0.mk hI
 have HK := Aside0.mk (KeepBut.refl w g none)
 have HL := Aside0.mk hB.size
 clear hI
 have HW0 := Aside0.mk hB.size
 have HB := Aside0.mk hB
 clear hB
 have H : (if a1 ≤ 0 then (some (0, s0_1, s0_2)) else (if a1 ≤ 256 then ((spec_l1Byte.f s0_0 s0_1 s0_2).bind fun bt592 => (if a1 = 0 then (none) else (some (Int.tmod bt592.1 a1, bt592.2.1, bt592.2.2)))) else ((spec_l1Byte.f s0_0 s0_1 s0_2).bind fun bt595 => ((spec_l1Byte.f s0_0 bt595.2.1 bt595.2.2).bind fun bt598 => ((spec_l1Byte.f s0_0 bt598.2.1 bt598.2.2).bind fun bt601 => (if a1 = 0 then (none) else (some (Int.tmod (wrap64 ((wrap64 ((wrap64 (bt595.1 * 65536)) + (wrap64 (bt598.1 * 256)))) + bt601.1)) a1, bt601.2.1, bt601.2.2)))))))) = some (r1, r2, r3) := h
 clear h
 by_cases c3 : a1 ≤ 0
 ·rw [if_pos c3] at H
  have c3b0 : decide (a1 ≤ 0) = true := decide_eq_true c3
  clear c3
  simp only [Option.some.injEq, Prod.mk.injEq] at H
  obtain ⟨rfl, rfl, rfl⟩ := H
  go_enter Try.func96, Try.ntmps96
  go_wp2
  go_ret
  exact ⟨by first | rfl | (simp [errW_none, errW_some] <;> rfl) | (simp [*, errW_none, errW_some] <;> rfl), by repeat (first | (with_reducible first | exact HI0.out | apply IsS128.alloc | apply IsS128.drewN | apply IsS128.drew | apply IsS128.set_1 | apply IsS128.set_2) | exact HI0.out), by repeat (first | (with_reducible first | exact HB.out | apply below_alloc | apply pw_below_drewN | apply below_drew1 | refine below_set ?_ (IsS128.ge HI0.out)) | exact HB.out), by repeat (first | (with_reducible first | exact HK.out | apply KeepBut.set_ | apply keep_drewN | apply keep_drew | apply keep_alloc) | exact HK.out)⟩
 ·rw [if_neg c3] at H
  have c3b0 : decide (a1 ≤ 0) = false := decide_eq_false c3
  clear c3
  by_cases c4 : a1 ≤ 256
  ·rw [if_pos c4] at H
   have c4b0 : decide (a1 ≤ 256) = true := decide_eq_true c4
   clear c4
   replace H := Option.bind_eq_some_iff.mp H
   obtain ⟨⟨t592, t593, t594⟩, A50, H⟩ := H
   replace H : (if a1 = 0 then (none) else (some (Int.tmod t592 a1, t593, t594))) = some (r1, r2, r3) := H
   have A5 := Aside0.mk A50
   clear A50
   by_cases c6 : a1 = 0
   ·rw [if_pos c6] at H
    exact absurd H (by simp)
   ·rw [if_neg c6] at H
    have c6b0 : (a1 == 0) = false := beq_eq_false_iff_ne.mpr c6
    have c6b1 : (a1 != 0) = true := bne_iff_ne.mpr c6
    simp only [Option.some.injEq, Prod.mk.injEq] at H
    obtain ⟨rfl, rfl, rfl⟩ := H
    go_enter Try.func96, Try.ntmps96
    go_wp2_with (first | ((with_reducible refine gate_callee (f := 116) rfl ?_); refine goesL_ (some 13) rfl rfl Try.func116 (by kernel_rfl) rfl #[.pointer (some ⟨g, 0, none⟩)] rfl z0_ ?_; (with_reducible refine (spec_l1Byte.calls g s0_0 s0_1 s0_2 t592 t593 t594 w0 _ ?side1 ?side2 A5.out).mono ?_); (case side1 => repeat (first | (with_reducible first | exact HI0.out | apply IsS128.alloc | apply IsS128.drewN | apply IsS128.drew | apply IsS128.set_1 | apply IsS128.set_2) | exact HI0.out)); (case side2 => repeat (first | (with_reducible first | exact HB.out | apply below_alloc | apply pw_below_drewN | apply below_drew1 | refine below_set ?_ (IsS128.ge HI0.out)) | exact HB.out)); rintro e w7 ⟨rfl, hi, hb, hk⟩; refine ⟨_, rfl, ?_⟩; have n0_ := Aside0.mk (KeepBut.trans z2_ hk (.inl rfl)); have n1_ := Aside0.mk (hb); have n2_ := Aside0.mk (hi); clear HK; clear HB; clear HI0; have HK := n0_; have HB := n1_; have HI0 := n2_; clear n0_ n1_ n2_; (try clear hb); (try clear hb2); (try clear hk); (try clear hi)))
    go_ret
    exact ⟨by first | rfl | (simp [errW_none, errW_some] <;> rfl) | (simp [*, errW_none, errW_some] <;> rfl), by repeat (first | (with_reducible first | exact HI0.out | apply IsS128.alloc | apply IsS128.drewN | apply IsS128.drew | apply IsS128.set_1 | apply IsS128.set_2) | exact HI0.out), by repeat (first | (with_reducible first | exact HB.out | apply below_alloc | apply pw_below_drewN | apply below_drew1 | refine below_set ?_ (IsS128.ge HI0.out)) | exact HB.out), by repeat (first | (with_reducible first | exact HK.out | apply KeepBut.set_ | apply keep_drewN | apply keep_drew | apply keep_alloc) | exact HK.out)⟩
  ·rw [if_neg c4] at H
   have c4b0 : decide (a1 ≤ 256) = false := decide_eq_false c4
   clear c4
   replace H := Option.bind_eq_some_iff.mp H
   obtain ⟨⟨t595, t596, t597⟩, A80, H⟩ := H
   replace H : ((spec_l1Byte.f s0_0 t596 t597).bind fun bt598 => ((spec_l1Byte.f s0_0 bt598.2.1 bt598.2.2).bind fun bt601 => (if a1 = 0 then (none) else (some (Int.tmod (wrap64 ((wrap64 ((wrap64 (t595 * 65536)) + (wrap64 (bt598.1 * 256)))) + bt601.1)) a1, bt601.2.1, bt601.2.2))))) = some (r1, r2, r3) := H
   have A8 := Aside0.mk A80
   clear A80
   replace H := Option.bind_eq_some_iff.mp H
   obtain ⟨⟨t598, t599, t600⟩, A90, H⟩ := H
   replace H : ((spec_l1Byte.f s0_0 t599 t600).bind fun bt601 => (if a1 = 0 then (none) else (some (Int.tmod (wrap64 ((wrap64 ((wrap64 (t595 * 65536)) + (wrap64 (t598 * 256)))) + bt601.1)) a1, bt601.2.1, bt601.2.2)))) = some (r1, r2, r3) := H
   have A9 := Aside0.mk A90
   clear A90
   replace H := Option.bind_eq_some_iff.mp H
   obtain ⟨⟨t601, t602, t603⟩, A100, H⟩ := H
   replace H : (if a1 = 0 then (none) else (some (Int.tmod (wrap64 ((wrap64 ((wrap64 (t595 * 65536)) + (wrap64 (t598 * 256)))) + t601)) a1, t602, t603))) = some (r1, r2, r3) := H
   have A10 := Aside0.mk A100
   clear A100
   by_cases c11 : a1 = 0
   ·rw [if_pos c11] at H
    exact absurd H (by simp)
   ·rw [if_neg c11] at H
    have c11b0 : (a1 == 0) = false := beq_eq_false_iff_ne.mpr c11
    have c11b1 : (a1 != 0) = true := bne_iff_ne.mpr c11
    simp only [Option.some.injEq, Prod.mk.injEq] at H
    obtain ⟨rfl, rfl, rfl⟩ := H
    go_enter Try.func96, Try.ntmps96
    go_wp2_with (first | ((with_reducible refine gate_callee (f := 116) rfl ?_); refine goesL_ (some 17) rfl rfl Try.func116 (by kernel_rfl) rfl #[.pointer (some ⟨g, 0, none⟩)] rfl z0_ ?_; (with_reducible refine (spec_l1Byte.calls g s0_0 s0_1 s0_2 t595 t596 t597 w0 _ ?side1 ?side2 A8.out).mono ?_); (case side1 => repeat (first | (with_reducible first | exact HI0.out | apply IsS128.alloc | apply IsS128.drewN | apply IsS128.drew | apply IsS128.set_1 | apply IsS128.set_2) | exact HI0.out)); (case side2 => repeat (first | (with_reducible first | exact HB.out | apply below_alloc | apply pw_below_drewN | apply below_drew1 | refine below_set ?_ (IsS128.ge HI0.out)) | exact HB.out)); rintro e w12 ⟨rfl, hi, hb, hk⟩; refine ⟨_, rfl, ?_⟩; have n0_ := Aside0.mk (KeepBut.trans z2_ hk (.inl rfl)); have n1_ := Aside0.mk (hb); have n2_ := Aside0.mk (hi); clear HK; clear HB; clear HI0; have HK := n0_; have HB := n1_; have HI0 := n2_; clear n0_ n1_ n2_; (try clear hb); (try clear hb2); (try clear hk); (try clear hi)) | ((with_reducible refine gate_callee (f := 116) rfl ?_); refine goesL_ (some 19) rfl rfl Try.func116 (by kernel_rfl) rfl #[.pointer (some ⟨g, 0, none⟩)] rfl z0_ ?_; (with_reducible refine (spec_l1Byte.calls g s0_0 t596 t597 t598 t599 t600 w0 _ ?side1 ?side2 A9.out).mono ?_); (case side1 => repeat (first | (with_reducible first | exact HI0.out | apply IsS128.alloc | apply IsS128.drewN | apply IsS128.drew | apply IsS128.set_1 | apply IsS128.set_2) | exact HI0.out)); (case side2 => repeat (first | (with_reducible first | exact HB.out | apply below_alloc | apply pw_below_drewN | apply below_drew1 | refine below_set ?_ (IsS128.ge HI0.out)) | exact HB.out)); rintro e w13 ⟨rfl, hi, hb, hk⟩; refine ⟨_, rfl, ?_⟩; have n0_ := Aside0.mk (KeepBut.trans z2_ hk (.inl rfl)); have n1_ := Aside0.mk (hb); have n2_ := Aside0.mk (hi); clear HK; clear HB; clear HI0; have HK := n0_; have HB := n1_; have HI0 := n2_; clear n0_ n1_ n2_; (try clear hb); (try clear hb2); (try clear hk); (try clear hi)) | ((with_reducible refine gate_callee (f := 116) rfl ?_); refine goesL_ (some 21) rfl rfl Try.func116 (by kernel_rfl) rfl #[.pointer (some ⟨g, 0, none⟩)] rfl z0_ ?_; (with_reducible refine (spec_l1Byte.calls g s0_0 t599 t600 t601 t602 t603 w0 _ ?side1 ?side2 A10.out).mono ?_); (case side1 => repeat (first | (with_reducible first | exact HI0.out | apply IsS128.alloc | apply IsS128.drewN | apply IsS128.drew | apply IsS128.set_1 | apply IsS128.set_2) | exact HI0.out)); (case side2 => repeat (first | (with_reducible first | exact HB.out | apply below_alloc | apply pw_below_drewN | apply below_drew1 | refine below_set ?_ (IsS128.ge HI0.out)) | exact HB.out)); rintro e w14 ⟨rfl, hi, hb, hk⟩; refine ⟨_, rfl, ?_⟩; have n0_ := Aside0.mk (KeepBut.trans z2_ hk (.inl rfl)); have n1_ := Aside0.mk (hb); have n2_ := Aside0.mk (hi); clear HK; clear HB; clear HI0; have HK := n0_; have HB := n1_; have HI0 := n2_; clear n0_ n1_ n2_; (try clear hb); (try clear hb2); (try clear hk); (try clear hi)))
    go_ret
    exact ⟨by first | rfl | (simp [errW_none, errW_some] <;> rfl) | (simp [*, errW_none, errW_some] <;> rfl), by repeat (first | (with_reducible first | exact HI0.out | apply IsS128.alloc | apply IsS128.drewN | apply IsS128.drew | apply IsS128.set_1 | apply IsS128.set_2) | exact HI0.out), by repeat (first | (with_reducible first | exact HB.out | apply below_alloc | apply pw_below_drewN | apply below_drew1 | refine below_set ?_ (IsS128.ge HI0.out)) | exact HB.out), by repeat (first | (with_reducible first | exact HK.out | apply KeepBut.set_ | apply keep_drewN | apply keep_drew | apply keep_alloc) | exact HK.out)⟩

/-! ### spec_l1Int: function 93 -/
set_option maxHeartbeats 8000000 in
set_option maxRecDepth 100000 in
theorem spec_l1Int.calls (g : Nat) (s0_0 : List Int) (s0_1 : Int) (s0_2 : Int) (A1 : Option Addr) (c1 : Nat) (l1 : List Int) (r1 : Int) (r2 : Int) (r3 : Int) (w0 w : World) (hI : IsS128 w0 w g s0_0 s0_1 s0_2) (hB : Below w0.heap.size w0 w) (hr1 : Kd.C (Kd.int .i64) w A1 l1.length l1) (hc1 : l1.length ≤ c1) (hf1 : ∀ ad, A1 = some ad → 0 < l1.length → ad.block ≠ g) (h : spec_l1Int.f s0_0 s0_1 s0_2 l1 = some (r1, r2, r3)) :
  Calls Try.prog 93 #[.pointer (some ⟨g, 0, none⟩), .slice A1 l1.length c1] w fun e w' => e = .returned (.int .i64 r1) ∧ IsS128 w0 w' g s0_0 r2 r3 ∧ Below w0.heap.size w0 w' ∧ KeepBut w w' g none := by
 have HR1 := Aside0.mk hr1
 have HC1 := Aside0.mk hc1
 clear hr1 hc1
 have HI0 := Aside0.mk hI
 have HK := Aside0.mk (KeepBut.refl w g none)
 have HL := Aside0.mk hB.size
 clear hI
 have HW0 := Aside0.mk hB.size
 have HB := Aside0.mk hB
 clear hB
 have H : ((spec_l1Below.f s0_0 s0_1 s0_2 (l1.length : Int)).bind fun bt604 => (if 0 ≤ bt604.1 then (if bt604.1 < (l1.length : Int) then (some (rd l1 bt604.1, bt604.2.1, bt604.2.2)) else (none)) else (none))) = some (r1, r2, r3) := h
 clear h
 replace H := Option.bind_eq_some_iff.mp H
 obtain ⟨⟨t604, t605, t606⟩, A30, H⟩ := H
 replace H : (if 0 ≤ t604 then (if t604 < (l1.length : Int) then (some (rd l1 t604, t605, t606)) else (none)) else (none)) = some (r1, r2, r3) := H
 have A3 := Aside0.mk A30
 clear A30
 by_cases c4 : 0 ≤ t604
 ·rw [if_pos c4] at H
  have c4b0 : decide (0 ≤ t604) = true := decide_eq_true c4
  clear c4
  by_cases c5 : t604 < (l1.length : Int)
  ·rw [if_pos c5] at H
   have c5b0 : decide (t604 < (l1.length : Int)) = true := decide_eq_true c5
   clear c5
   simp only [Option.some.injEq, Prod.mk.injEq] at H
   obtain ⟨rfl, rfl, rfl⟩ := H
   go_enter Try.func93, Try.ntmps93
   go_wp2_with (first | ((with_reducible refine gate_callee (f := 96) rfl ?_); refine goesL_ (some 9) rfl rfl Try.func96 (by kernel_rfl) rfl #[.pointer (some ⟨g, 0, none⟩), .int .i64 (l1.length : Int)] rfl z0_ ?_; (with_reducible refine (spec_l1Below.calls g s0_0 s0_1 s0_2 (l1.length : Int) t604 t605 t606 w0 _ ?side1 ?side2 A3.out).mono ?_); (case side1 => repeat (first | (with_reducible first | exact HI0.out | apply IsS128.alloc | apply IsS128.drewN | apply IsS128.drew | apply IsS128.set_1 | apply IsS128.set_2) | exact HI0.out)); (case side2 => repeat (first | (with_reducible first | exact HB.out | apply below_alloc | apply pw_below_drewN | apply below_drew1 | refine below_set ?_ (IsS128.ge HI0.out)) | exact HB.out)); rintro e w6 ⟨rfl, hi, hb, hk⟩; refine ⟨_, rfl, ?_⟩; have n0_ := Aside0.mk (KeepBut.trans z2_ hk (.inl rfl)); have n1_ := Aside0.mk (hb); have n2_ := Aside0.mk (hi); clear HK; clear HB; clear HI0; have HK := n0_; have HB := n1_; have HI0 := n2_; clear n0_ n1_ n2_; (try clear hb); (try clear hb2); (try clear hk); (try clear hi); have p607 : 0 ≤ (t604 : Int) := of_decide_eq_true z5_; have q607 : t604 < (l1.length : Int) := of_decide_eq_true z5_; obtain ⟨ad607, e607, hx607_0⟩ := Kd.at_int HR1.out t604 p607 q607; cases e607; replace hx607_0 := keep_cell HK.out hx607_0 (by first | (rw [add_block]; exact hf1 _ rfl (by omega)) | exact hf1 _ rfl (by omega) | exact hf1 ad607 rfl (by omega)); replace p607 := eq_true p607; replace q607 := eq_true q607))
   go_ret
   exact ⟨by first | rfl | (simp [errW_none, errW_some] <;> rfl) | (simp [*, errW_none, errW_some] <;> rfl), by repeat (first | (with_reducible first | exact HI0.out | apply IsS128.alloc | apply IsS128.drewN | apply IsS128.drew | apply IsS128.set_1 | apply IsS128.set_2) | exact HI0.out), by repeat (first | (with_reducible first | exact HB.out | apply below_alloc | apply pw_below_drewN | apply below_drew1 | refine below_set ?_ (IsS128.ge HI0.out)) | exact HB.out), by repeat (first | (with_reducible first | exact HK.out | apply KeepBut.set_ | apply keep_drewN | apply keep_drew | apply keep_alloc) | exact HK.out)⟩
  ·rw [if_neg c5] at H
   exact absurd H (by simp)
 ·rw [if_neg c4] at H
  exact absurd H (by simp)

/-! ### spec_l1Once: function 97 -/
set_option maxHeartbeats 8000000 in
set_option maxRecDepth 100000 in
theorem spec_l1Once.calls (g : Nat) (s0_0 : List Int) (s0_1 : Int) (s0_2 : Int) (a1 : Int) (r1 : Bool) (r2 : Int) (r3 : Int) (w0 w : World) (hI : IsS128 w0 w g s0_0 s0_1 s0_2) (hB : Below w0.heap.size w0 w) (h : spec_l1Once.f s0_0 s0_1 s0_2 a1 = some (r1, r2, r3)) :
  Calls Try.prog 97 #[.pointer (some ⟨g, 0, none⟩), .int .i64 a1] w fun e w' => e = .returned (.bool r1) ∧ IsS128 w0 w' g s0_0 r2 r3 ∧ Below w0.heap.size w0 w' ∧ KeepBut w w' g none := by
 have HI0 := Aside0.mk hI
 have HK := Aside0.mk (KeepBut.refl w g none)
 have HL := Aside0.mk hB.size
 clear hI
 have HW0 := Aside0.mk hB.size
 have HB := Aside0.mk hB
 clear hB
 have H : ((spec_l1Below.f s0_0 s0_1 s0_2 a1).bind fun bt624 => (some ((bt624.1 == 0), bt624.2.1, bt624.2.2))) = some (r1, r2, r3) := h
 clear h
 replace H := Option.bind_eq_some_iff.mp H
 obtain ⟨⟨t624, t625, t626⟩, A30, H⟩ := H
 replace H : (some ((t624 == 0), t625, t626)) = some (r1, r2, r3) := H
 have A3 := Aside0.mk A30
 clear A30
 simp only [Option.some.injEq, Prod.mk.injEq] at H
 obtain ⟨rfl, rfl, rfl⟩ := H
 go_enter Try.func97, Try.ntmps97
 go_wp2_with (first | ((with_reducible refine gate_callee (f := 96) rfl ?_); refine goesL_ (some 7) rfl rfl Try.func96 (by kernel_rfl) rfl #[.pointer (some ⟨g, 0, none⟩), .int .i64 a1] rfl z0_ ?_; (with_reducible refine (spec_l1Below.calls g s0_0 s0_1 s0_2 a1 t624 t625 t626 w0 _ ?side1 ?side2 A3.out).mono ?_); (case side1 => repeat (first | (with_reducible first | exact HI0.out | apply IsS128.alloc | apply IsS128.drewN | apply IsS128.drew | apply IsS128.set_1 | apply IsS128.set_2) | exact HI0.out)); (case side2 => repeat (first | (with_reducible first | exact HB.out | apply below_alloc | apply pw_below_drewN | apply below_drew1 | refine below_set ?_ (IsS128.ge HI0.out)) | exact HB.out)); rintro e w4 ⟨rfl, hi, hb, hk⟩; refine ⟨_, rfl, ?_⟩; have n0_ := Aside0.mk (KeepBut.trans z2_ hk (.inl rfl)); have n1_ := Aside0.mk (hb); have n2_ := Aside0.mk (hi); clear HK; clear HB; clear HI0; have HK := n0_; have HB := n1_; have HI0 := n2_; clear n0_ n1_ n2_; (try clear hb); (try clear hb2); (try clear hk); (try clear hi)))
 go_ret
 exact ⟨by first | rfl | (simp [errW_none, errW_some] <;> rfl) | (simp [*, errW_none, errW_some] <;> rfl), by repeat (first | (with_reducible first | exact HI0.out | apply IsS128.alloc | apply IsS128.drewN | apply IsS128.drew | apply IsS128.set_1 | apply IsS128.set_2) | exact HI0.out), by repeat (first | (with_reducible first | exact HB.out | apply below_alloc | apply pw_below_drewN | apply below_drew1 | refine below_set ?_ (IsS128.ge HI0.out)) | exact HB.out), by repeat (first | (with_reducible first | exact HK.out | apply KeepBut.set_ | apply keep_drewN | apply keep_drew | apply keep_alloc) | exact HK.out)⟩

/-! ### laws_same: function 51 -/
set_option maxHeartbeats 8000000 in
set_option maxRecDepth 100000 in
theorem laws_same.calls (A0 : Option Addr) (c0 : Nat) (l0 : List Int) (A1 : Option Addr) (c1 : Nat) (l1 : List Int) (r : Bool) (w : World) (hr0 : Kd.C (Kd.int .u8) w A0 l0.length l0) (hc0 : l0.length ≤ c0) (hr1 : Kd.C (Kd.int .u8) w A1 l1.length l1) (hc1 : l1.length ≤ c1) (h : laws_same.f l0 l1 = some r) :
  Calls Try.prog 51 #[.slice A0 l0.length c0, .slice A1 l1.length c1] w fun e w' => e = .returned (.bool r) ∧ Drawn0 w w' := by
 have HR0 := Aside0.mk hr0
 have HC0 := Aside0.mk hc0
 clear hr0 hc0
 have HR1 := Aside0.mk hr1
 have HC1 := Aside0.mk hc1
 clear hr1 hc1
 have H : (some ((strOfNums l0).toList == (strOfNums l1).toList)) = some r := h
 clear h
 obtain rfl := Option.some.inj H
 have hcv3 := Kd.C_string (P := Try.prog) (A := A0) (c := c0) Try.underlying33 Try.underlying5 Try.underlying9 HR0.out
 have hcv3n := fun (m_ : Nat) => Kd.C_string (P := Try.prog) (A := A0) (c := c0) Try.underlying33 Try.underlying5 Try.underlying9 (Kd.C_drewN HR0.out m_)
 have hcv3b := hcv3
 (try simp only [List.length_drop, List.length_take] at hcv3b)
 (try rw [Nat.min_eq_left (by omega)] at hcv3b)
 have hcv3c := hcv3b
 (try simp only [Int.reduceToNat] at hcv3c)
 have hcv3d := hcv3
 (try simp only [Int.reduceToNat] at hcv3d)
 have hcv3nb := hcv3n
 (try simp only [List.length_drop, List.length_take] at hcv3nb)
 (try rw [Nat.min_eq_left (by omega)] at hcv3nb)
 have hcv3nc := hcv3nb
 (try simp only [Int.reduceToNat] at hcv3nc)
 have hcv3nd := hcv3n
 (try simp only [Int.reduceToNat] at hcv3nd)
 have hcv4 := Kd.C_string (P := Try.prog) (A := A1) (c := c1) Try.underlying33 Try.underlying5 Try.underlying9 HR1.out
 have hcv4n := fun (m_ : Nat) => Kd.C_string (P := Try.prog) (A := A1) (c := c1) Try.underlying33 Try.underlying5 Try.underlying9 (Kd.C_drewN HR1.out m_)
 have hcv4b := hcv4
 (try simp only [List.length_drop, List.length_take] at hcv4b)
 (try rw [Nat.min_eq_left (by omega)] at hcv4b)
 have hcv4c := hcv4b
 (try simp only [Int.reduceToNat] at hcv4c)
 have hcv4d := hcv4
 (try simp only [Int.reduceToNat] at hcv4d)
 have hcv4nb := hcv4n
 (try simp only [List.length_drop, List.length_take] at hcv4nb)
 (try rw [Nat.min_eq_left (by omega)] at hcv4nb)
 have hcv4nc := hcv4nb
 (try simp only [Int.reduceToNat] at hcv4nc)
 have hcv4nd := hcv4n
 (try simp only [Int.reduceToNat] at hcv4nd)
 go_enter Try.func51, Try.ntmps51
 go_wp2
 go_ret
 exact ⟨by first | rfl | (simp; done) | (simp [*]; done), by repeat (first | exact Drawn0.refl _ | apply Drawn0.step)⟩

/-! ### laws_at: function 63 -/
set_option maxHeartbeats 8000000 in
set_option maxRecDepth 100000 in
theorem laws_at.calls (A0 : Option Addr) (c0 : Nat) (l0 : List Int) (a1 : Int) (r : Int) (w : World) (hr0 : Kd.C (Kd.int .u8) w A0 l0.length l0) (hc0 : l0.length ≤ c0) (h : laws_at.f l0 a1 = some r) :
  Calls Try.prog 63 #[.slice A0 l0.length c0, .int .i64 a1] w fun e w' => e = .returned (.int .i64 r) ∧ Drawn0 w w' := by
 have HR0 := Aside0.mk hr0
 have HC0 := Aside0.mk hc0
 clear hr0 hc0
 have H : (if a1 < (l0.length : Int) then (if 0 ≤ a1 then (some (wrap64 (rd l0 a1))) else (none)) else (some (Int.tmod (wrap64 ((wrap64 (a1 * 31)) + (wrap64 ((l0.length : Int) * 7)))) 256))) = some r := h
 clear h
 by_cases c3 : a1 < (l0.length : Int)
 ·rw [if_pos c3] at H
  have c3b0 : decide (a1 < (l0.length : Int)) = true := decide_eq_true c3
  clear c3
  by_cases c4 : 0 ≤ a1
  ·rw [if_pos c4] at H
   have c4b0 : decide (0 ≤ a1) = true := decide_eq_true c4
   clear c4
   obtain rfl := Option.some.inj H
   have p694 : 0 ≤ (a1 : Int) := of_decide_eq_true z5_
   have q694 : a1 < (l0.length : Int) := of_decide_eq_true z5_
   obtain ⟨ad694, e694, hx694_0⟩ := Kd.at_int HR0.out a1 p694 q694
   cases e694
   replace p694 := eq_true p694
   replace q694 := eq_true q694
   go_enter Try.func63, Try.ntmps63
   go_wp2
   go_ret
   exact ⟨by first | rfl | (simp; done) | (simp [*]; done), by repeat (first | exact Drawn0.refl _ | apply Drawn0.step)⟩
  ·rw [if_neg c4] at H
   exact absurd H (by simp)
 ·rw [if_neg c3] at H
  have c3b0 : decide (a1 < (l0.length : Int)) = false := decide_eq_false c3
  clear c3
  obtain rfl := Option.some.inj H
  go_enter Try.func63, Try.ntmps63
  go_wp2
  go_ret
  exact ⟨by first | rfl | (simp; done) | (simp [*]; done), by repeat (first | exact Drawn0.refl _ | apply Drawn0.step)⟩

end Go.Proofs.Ytdanfcjaamcaiaa.P

-- Written by xprint.py (by way of the kit's print program) out of the translation.
namespace Go.Proofs.Ytdanfcjaamcaiaa.P
open Go.RowKit Go.Proofs.YtdanfcjaamcaiaaW.PrintWords Go.Proofs.YtdanfcjaamcaiaaW.PrintLast Go.Proofs.YtdanfcjaamcaiaaW.PrintMore
attribute [local go_sem] max2_int min2_int max_two min_two max_three min_three max_four min_four   -- for this text's walks alone
set_option linter.unusedVariables false
set_option linter.unusedSimpArgs false

/-! ### spec_DrawHeadOf: function 48 -/
set_option maxHeartbeats 8000000 in
set_option maxRecDepth 100000 in
theorem spec_DrawHeadOf.calls (k : Nat) (A0 : Option Addr) (c0 : Nat) (l0 : List Int) (r1 : Int) (r2 : Int) (w : World) (hr0 : Kd.C (Kd.int .u8) w A0 l0.length l0) (hc0 : l0.length ≤ c0) (h : spec_DrawHeadOf.f k l0 = some (r1, r2)) :
  Calls Try.prog 48 #[.slice A0 l0.length c0] w fun e w' => e = .returned (.tuple #[.int .i64 r1, .int .i64 r2]) ∧ Below w.heap.size w w' := by
 have HR0 := Aside0.mk hr0
 have HC0 := Aside0.mk hc0
 clear hr0 hc0
 have HB := Aside0.mk (Below.refl w.heap.size w)
 have H : ((spec_l1New.f k l0).bind fun bt608 => ((spec_l1Int.f bt608.1 bt608.2.1 bt608.2.2 (([0, 1, 2, 60000, 60001, (-1)] : List Int))).bind fun bt615 => ((spec_l1Int.f bt608.1 bt615.2.1 bt615.2.2 (([0, 5, 18, 19, (-1)] : List Int))).bind fun bt621 => (some (bt615.1, bt621.1))))) = some (r1, r2) := h
 clear h
 replace H := Option.bind_eq_some_iff.mp H
 obtain ⟨⟨t608, t609, t610⟩, A20, H⟩ := H
 replace H : ((spec_l1Int.f t608 t609 t610 (([0, 1, 2, 60000, 60001, (-1)] : List Int))).bind fun bt615 => ((spec_l1Int.f t608 bt615.2.1 bt615.2.2 (([0, 5, 18, 19, (-1)] : List Int))).bind fun bt621 => (some (bt615.1, bt621.1)))) = some (r1, r2) := H
 have A2 := Aside0.mk A20
 clear A20
 obtain ⟨y612, hy612⟩ : ∃ y_ : List Int, y_ = (([0, 1, 2, 60000, 60001, (-1)] : List Int)) := ⟨_, rfl⟩
 replace H : ((spec_l1Int.f t608 t609 t610 y612).bind fun bt615 => ((spec_l1Int.f t608 bt615.2.1 bt615.2.2 (([0, 5, 18, 19, (-1)] : List Int))).bind fun bt621 => (some (bt615.1, bt621.1)))) = some (r1, r2) := by first | (rw [hy612]; with_reducible exact H) | (have H2_ := (Option.bind_some _ _).symm.trans H; rw [hy612]; with_reducible exact H2_) | (have H2_ := (Option.bind_some _ _).symm.trans H; with_reducible exact H2_) | with_reducible exact H | (rw [hy612]; exact H) | exact H
 have Ny612 := Aside0.mk hy612
 clear hy612
 replace H := Option.bind_eq_some_iff.mp H
 obtain ⟨⟨t615, t616, t617⟩, A30, H⟩ := H
 replace H : ((spec_l1Int.f t608 t616 t617 (([0, 5, 18, 19, (-1)] : List Int))).bind fun bt621 => (some (t615, bt621.1))) = some (r1, r2) := H
 have A3 := Aside0.mk A30
 clear A30
 obtain ⟨y618, hy618⟩ : ∃ y_ : List Int, y_ = (([0, 5, 18, 19, (-1)] : List Int)) := ⟨_, rfl⟩
 replace H : ((spec_l1Int.f t608 t616 t617 y618).bind fun bt621 => (some (t615, bt621.1))) = some (r1, r2) := by first | (rw [hy618]; with_reducible exact H) | (have H2_ := (Option.bind_some _ _).symm.trans H; rw [hy618]; with_reducible exact H2_) | (have H2_ := (Option.bind_some _ _).symm.trans H; with_reducible exact H2_) | with_reducible exact H | (rw [hy618]; exact H) | exact H
 have Ny618 := Aside0.mk hy618
 clear hy618
 replace H := Option.bind_eq_some_iff.mp H
 obtain ⟨⟨t621, t622, t623⟩, A40, H⟩ := H
 replace H : (some (t615, t621)) = some (r1, r2) := H
 have A4 := Aside0.mk A40
 clear A40
 simp only [Option.some.injEq, Prod.mk.injEq] at H
 obtain ⟨rfl, rfl⟩ := H
 go_enter Try.func48, Try.ntmps48
 go_wp2_with (first | ((with_reducible refine gate_callee (f := 92) rfl ?_); refine goesL_ (some 6) rfl rfl Try.func92 (by kernel_rfl) rfl #[.slice A0 l0.length c0] rfl z0_ ?_; (with_reducible refine (spec_l1New.calls k _ _ l0 t608 t609 t610 w _ ?side1 ?side2 ?side3 A2.out).mono ?_); (case side1 => repeat (first | (with_reducible first | exact HB.out | apply below_alloc | apply pw_below_drewN | apply below_drew1) | exact HB.out)); (case side2 => exact HR0.out); (case side3 => exact HC0.out); rintro e w5 ⟨g611, rfl, hi, hb, hb2⟩; refine ⟨_, rfl, ?_⟩; have n0_ := Aside0.mk (hb); have n1_ := Aside0.mk (hi); clear HB; have HB := n0_; have HI611 := n1_; clear n0_ n1_; (try clear hb); (try clear hb2); (try clear hk); (try clear hi)) | ((with_reducible refine gate_dst (N := 8) rfl ?_); refine Kd.R_lit (Kd.int .i64) _ 3 ?hg (N := 8) ?hd (xs := ([0, 1, 2, 60000, 60001, (-1)] : List Int)) (inner := [.int .i64 0, .int .i64 1, .int .i64 2, .int .i64 60000, .int .i64 60001, .int .i64 (-1)]) (ok := fun _ => True) (okp := fun _ => True) ?hr ?hp (fun _ hk => hk) trivial (Below.refl _ _) (Nat.le_refl _) (by simp) ?_; (case hd => rfl); (case hg => rfl); (case hr => first | (go_simp; done) | (go_simp; rfl)); (case hp => exact (Reps.one (show Kd.M (Kd.int .i64) _ _ _ 0 [.int .i64 0] from rfl) (Reps.one (show Kd.M (Kd.int .i64) _ _ _ 1 [.int .i64 1] from rfl) (Reps.one (show Kd.M (Kd.int .i64) _ _ _ 2 [.int .i64 2] from rfl) (Reps.one (show Kd.M (Kd.int .i64) _ _ _ 60000 [.int .i64 60000] from rfl) (Reps.one (show Kd.M (Kd.int .i64) _ _ _ 60001 [.int .i64 60001] from rfl) (Reps.one (show Kd.M (Kd.int .i64) _ _ _ (-1) [.int .i64 (-1)] from rfl) (Reps.none _ _)))))))); intro v613 w6 ho7 hb hg_ hnew_; clear hg_ hnew_; (first | rw [← Ny612.out] at ho7 | (simp only [Int.reduceToNat] at ho7; rw [← Ny612.out] at ho7)); have n0_ := Aside0.mk (Kd.R_lower ho7 (below_size z10_)); have n1_ := Aside0.mk (IsS128.below z23_ hb); have n2_ := Aside0.mk (below_step z10_ hb); clear HI611; clear HB; have HO614 := n0_; have HI611 := n1_; have HB := n2_; clear n0_ n1_ n2_; clear hb ho7; obtain ⟨Ao8, co8, eo8⟩ := Kd.R_slice HO614.out; subst eo8) | ((with_reducible refine gate_callee (f := 93) rfl ?_); refine goesL_ (some 9) rfl rfl Try.func93 (by kernel_rfl) rfl #[.pointer (some ⟨g611, 0, none⟩), .slice Ao8 y612.length co8] rfl z0_ ?_; (with_reducible refine (spec_l1Int.calls g611 t608 t609 t610 _ _ y612 t615 t616 t617 w _ ?side1 ?side2 ?side3 ?side4 ?side5 A3.out).mono ?_); (case side1 => repeat (first | (with_reducible first | exact HI611.out | apply IsS128.alloc | apply IsS128.drewN | apply IsS128.drew | apply IsS128.set_1 | apply IsS128.set_2) | exact HI611.out)); (case side2 => repeat (first | (with_reducible first | exact HB.out | apply below_alloc | apply pw_below_drewN | apply below_drew1 | refine below_set ?_ (IsS128.ge HI611.out)) | exact HB.out)); (case side3 => repeat (first | exact (Kd.R_reads' HO614.out).2.2 | (with_reducible refine Kd.C_alloc ?_ _) | (with_reducible refine Kd.C_drewN ?_ _) | (with_reducible refine Kd.C_drew ?_))); (case side4 => exact (Kd.R_reads' HO614.out).2.1); (case side5 => exact far_slice (IsS128.own_ne HI611.out HO614.out (by decide))); rintro e w9 ⟨rfl, hi, hb, hk⟩; refine ⟨_, rfl, ?_⟩; have n0_ := Aside0.mk (Kd.R_mono (Kd.R_keep (IsS128.apart (show IsS128 w _ g611 t608 t609 t610 from by repeat (first | (with_reducible first | exact HI611.out | apply IsS128.alloc | apply IsS128.drewN | apply IsS128.drew | apply IsS128.set_1 | apply IsS128.set_2) | exact HI611.out)) z19_ (by decide)) hk (fun _ h => h.2)) (fun _ h => h.1)); have n1_ := Aside0.mk (hb); have n2_ := Aside0.mk (hi); clear HO614; clear HB; clear HI611; have HO614 := n0_; have HB := n1_; have HI611 := n2_; clear n0_ n1_ n2_; (try clear hb); (try clear hb2); (try clear hk); (try clear hi)) | ((with_reducible refine gate_dst (N := 11) rfl ?_); refine Kd.R_lit (Kd.int .i64) _ 3 ?hg (N := 11) ?hd (xs := ([0, 5, 18, 19, (-1)] : List Int)) (inner := [.int .i64 0, .int .i64 5, .int .i64 18, .int .i64 19, .int .i64 (-1)]) (ok := fun _ => True) (okp := fun _ => True) ?hr ?hp (fun _ hk => hk) trivial (Below.refl _ _) (Nat.le_refl _) (by simp) ?_; (case hd => rfl); (case hg => rfl); (case hr => first | (go_simp; done) | (go_simp; rfl)); (case hp => exact (Reps.one (show Kd.M (Kd.int .i64) _ _ _ 0 [.int .i64 0] from rfl) (Reps.one (show Kd.M (Kd.int .i64) _ _ _ 5 [.int .i64 5] from rfl) (Reps.one (show Kd.M (Kd.int .i64) _ _ _ 18 [.int .i64 18] from rfl) (Reps.one (show Kd.M (Kd.int .i64) _ _ _ 19 [.int .i64 19] from rfl) (Reps.one (show Kd.M (Kd.int .i64) _ _ _ (-1) [.int .i64 (-1)] from rfl) (Reps.none _ _))))))); intro v619 w10 ho11 hb hg_ hnew_; clear hg_ hnew_; (first | rw [← Ny618.out] at ho11 | (simp only [Int.reduceToNat] at ho11; rw [← Ny618.out] at ho11)); have n0_ := Aside0.mk (Kd.R_elder' z19_ (Kd.R_base ho11) hb); have n1_ := Aside0.mk (Kd.R_lower (Kd.R_new' ho11 (Kd.R_lt z19_)) (below_size z10_)); have n2_ := Aside0.mk (IsS128.below z23_ hb); have n3_ := Aside0.mk (below_step z10_ hb); clear HO614; clear HI611; clear HB; have HO614 := n0_; have HO620 := n1_; have HI611 := n2_; have HB := n3_; clear n0_ n1_ n2_ n3_; clear hb ho11; obtain ⟨Ao12, co12, eo12⟩ := Kd.R_slice HO620.out; subst eo12) | ((with_reducible refine gate_callee (f := 93) rfl ?_); refine goesL_ (some 12) rfl rfl Try.func93 (by kernel_rfl) rfl #[.pointer (some ⟨g611, 0, none⟩), .slice Ao12 y618.length co12] rfl z0_ ?_; (with_reducible refine (spec_l1Int.calls g611 t608 t616 t617 _ _ y618 t621 t622 t623 w _ ?side1 ?side2 ?side3 ?side4 ?side5 A4.out).mono ?_); (case side1 => repeat (first | (with_reducible first | exact HI611.out | apply IsS128.alloc | apply IsS128.drewN | apply IsS128.drew | apply IsS128.set_1 | apply IsS128.set_2) | exact HI611.out)); (case side2 => repeat (first | (with_reducible first | exact HB.out | apply below_alloc | apply pw_below_drewN | apply below_drew1 | refine below_set ?_ (IsS128.ge HI611.out)) | exact HB.out)); (case side3 => repeat (first | exact (Kd.R_reads' HO620.out).2.2 | (with_reducible refine Kd.C_alloc ?_ _) | (with_reducible refine Kd.C_drewN ?_ _) | (with_reducible refine Kd.C_drew ?_))); (case side4 => exact (Kd.R_reads' HO620.out).2.1); (case side5 => exact far_slice (IsS128.own_ne HI611.out HO620.out (by decide))); rintro e w13 ⟨rfl, hi, hb, hk⟩; refine ⟨_, rfl, ?_⟩; have n0_ := Aside0.mk (Kd.R_mono (Kd.R_keep (IsS128.apart (show IsS128 w _ g611 t608 t616 t617 from by repeat (first | (with_reducible first | exact HI611.out | apply IsS128.alloc | apply IsS128.drewN | apply IsS128.drew | apply IsS128.set_1 | apply IsS128.set_2) | exact HI611.out)) z19_ (by decide)) hk (fun _ h => h.2)) (fun _ h => h.1)); have n1_ := Aside0.mk (Kd.R_mono (Kd.R_keep (IsS128.apart (show IsS128 w _ g611 t608 t616 t617 from by repeat (first | (with_reducible first | exact HI611.out | apply IsS128.alloc | apply IsS128.drewN | apply IsS128.drew | apply IsS128.set_1 | apply IsS128.set_2) | exact HI611.out)) (by (with_reducible repeat (first | apply Kd.R_alloc | apply Kd.R_drewN | apply Kd.R_drew)); exact HO620.out) (by decide)) hk (fun _ h => h.2)) (fun _ h => h.1)); have n2_ := Aside0.mk (hb); have n3_ := Aside0.mk (hi); clear HO614; clear HO620; clear HB; clear HI611; have HO614 := n0_; have HO620 := n1_; have HB := n2_; have HI611 := n3_; clear n0_ n1_ n2_ n3_; (try clear hb); (try clear hb2); (try clear hk); (try clear hi)))
 go_ret2
 exact ⟨by first | rfl | (simp [errW_none, errW_some] <;> rfl) | (simp [*, errW_none, errW_some] <;> rfl), by repeat (first | (with_reducible first | exact HB.out | apply below_alloc | apply pw_below_drewN | apply below_drew1 | refine below_set ?_ (IsS128.ge HI611.out)) | exact HB.out)⟩

/-! ### spec_l1Bend: function 100 -/
def spec_l1Bend.T6 : Bool × List (List Nat × List Nat) := (true, [([], []), ([], []), ([], []), ([], []), ([2, 3], [2, 3]), ([4], [4]), ([], []), ([6], [6]), ([7], [7]), ([8], [8]), ([5, 9], [5, 9]), ([0, 1, 0, 1, 2, 3, 4, 5, 6, 7, 8, 9, 10], [0, 1]), ([11, 10, 7, 0, 1, 2, 3, 4, 5, 6, 7, 8, 9, 10], [10, 11])])
def spec_l1Bend.B6 : List Nat := [0, 0, 0, 0, 12, 28, 0, 64, 192, 448, 1020, 2047, 4095]
theorem spec_l1Bend.tab6 : rtab .any (opsOf Try.f100 6) = spec_l1Bend.T6 := by kernel_rfl
theorem spec_l1Bend.bits6 : waitsOk spec_l1Bend.T6.2 spec_l1Bend.B6 = true := by kernel_rfl
set_option maxHeartbeats 8000000 in
set_option maxRecDepth 100000 in
theorem spec_l1Bend.calls (g : Nat) (s0_0 : List Int) (s0_1 : Int) (s0_2 : Int) (A1 : Option Addr) (c1 : Nat) (l1 : List Int) (r1 : List Int) (r2 : Int) (r3 : Int) (w0 w : World) (hI : IsS128 w0 w g s0_0 s0_1 s0_2) (hB : Below w0.heap.size w0 w) (hr1 : Kd.C (Kd.int .u8) w A1 l1.length l1) (hc1 : l1.length ≤ c1) (hf1 : ∀ ad, A1 = some ad → 0 < l1.length → ad.block ≠ g) (h : spec_l1Bend.f s0_0 s0_1 s0_2 l1 = some (r1, r2, r3)) :
  Calls Try.prog 100 #[.pointer (some ⟨g, 0, none⟩), .slice A1 l1.length c1] w fun e w' => ∃ v0_ : Value, e = .returned (v0_) ∧ Kd.R (Kd.int .u8) 5 w' w.heap.size (fun _ => True) v0_ r1 ∧ IsS128 w0 w' g s0_0 r2 r3 ∧ Below w0.heap.size w0 w' ∧ KeepBut w w' g none := by
 have HR1 := Aside0.mk hr1
 have HC1 := Aside0.mk hc1
 clear hr1 hc1
 have HI0 := Aside0.mk hI
 have HK := Aside0.mk (KeepBut.refl w g none)
 have HL := Aside0.mk hB.size
 clear hI
 have HW0 := Aside0.mk hB.size
 have HB := Aside0.mk hB
 clear hB
 have H : ((some (([] : List Int) : List Int)).bind fun y627 => (if y627.length + l1.length < 140737488355328 then ((some (y627 ++ l1 : List Int)).bind fun y630 => ((spec_l1Below.f s0_0 s0_1 s0_2 8).bind fun bt633 => (if bt633.1 = 0 then (if (y630.length : Int) > 0 then ((spec_l1Below.f s0_0 bt633.2.1 bt633.2.2 (y630.length : Int)).bind fun bt636 => (if 0 ≤ bt636.1 then (if bt636.1 < (y630.length : Int) then ((spec_l1Below.f s0_0 bt636.2.1 bt636.2.2 255).bind fun bt640 => (some ((y630.set (bt636.1 : Int).toNat (Go.bits .xor .u8 (rd y630 bt636.1) ((wrap64 (1 + bt640.1)) % 256))), bt640.2.1, bt640.2.2))) else (none)) else (none))) else (some (y630, bt633.2.1, bt633.2.2))) else (if bt633.1 = 1 then (if (y630.length : Int) > 0 then ((spec_l1Below.f s0_0 bt633.2.1 bt633.2.2 (y630.length : Int)).bind fun bt644 => (if 0 ≤ bt644.1 then (if bt644.1 ≤ (y630.length : Int) then (some ((y630.take (bt644.1 : Int).toNat), bt644.2.1, bt644.2.2)) else (none)) else (none))) else (some (y630, bt633.2.1, bt633.2.2))) else (if bt633.1 = 2 then ((spec_l1Byte.f s0_0 bt633.2.1 bt633.2.2).bind fun bt650 => (if y630.length < 140737488355328 then (some ((y630 ++ [(bt650.1) % 256]), bt650.2.1, bt650.2.2)) else (none))) else (some (y630, bt633.2.1, bt633.2.2))))))) else (none))) = some (r1, r2, r3) := h
 clear h
 obtain ⟨y627, hy627⟩ : ∃ y_ : List Int, y_ = (([] : List Int)) := ⟨_, rfl⟩
 replace H : (if y627.length + l1.length < 140737488355328 then ((some (y627 ++ l1 : List Int)).bind fun y630 => ((spec_l1Below.f s0_0 s0_1 s0_2 8).bind fun bt633 => (if bt633.1 = 0 then (if (y630.length : Int) > 0 then ((spec_l1Below.f s0_0 bt633.2.1 bt633.2.2 (y630.length : Int)).bind fun bt636 => (if 0 ≤ bt636.1 then (if bt636.1 < (y630.length : Int) then ((spec_l1Below.f s0_0 bt636.2.1 bt636.2.2 255).bind fun bt640 => (some ((y630.set (bt636.1 : Int).toNat (Go.bits .xor .u8 (rd y630 bt636.1) ((wrap64 (1 + bt640.1)) % 256))), bt640.2.1, bt640.2.2))) else (none)) else (none))) else (some (y630, bt633.2.1, bt633.2.2))) else (if bt633.1 = 1 then (if (y630.length : Int) > 0 then ((spec_l1Below.f s0_0 bt633.2.1 bt633.2.2 (y630.length : Int)).bind fun bt644 => (if 0 ≤ bt644.1 then (if bt644.1 ≤ (y630.length : Int) then (some ((y630.take (bt644.1 : Int).toNat), bt644.2.1, bt644.2.2)) else (none)) else (none))) else (some (y630, bt633.2.1, bt633.2.2))) else (if bt633.1 = 2 then ((spec_l1Byte.f s0_0 bt633.2.1 bt633.2.2).bind fun bt650 => (if y630.length < 140737488355328 then (some ((y630 ++ [(bt650.1) % 256]), bt650.2.1, bt650.2.2)) else (none))) else (some (y630, bt633.2.1, bt633.2.2))))))) else (none)) = some (r1, r2, r3) := by first | (rw [hy627]; with_reducible exact H) | (have H2_ := (Option.bind_some _ _).symm.trans H; rw [hy627]; with_reducible exact H2_) | (have H2_ := (Option.bind_some _ _).symm.trans H; with_reducible exact H2_) | with_reducible exact H | (rw [hy627]; exact H) | exact H
 have Ny627 := Aside0.mk hy627
 clear hy627
 by_cases c3 : y627.length + l1.length < 140737488355328
 ·rw [if_pos c3] at H
  have LMc3 := Aside0.mk c3
  clear c3
  obtain ⟨y630, hy630⟩ : ∃ y_ : List Int, y_ = (y627 ++ l1) := ⟨_, rfl⟩
  replace H : ((spec_l1Below.f s0_0 s0_1 s0_2 8).bind fun bt633 => (if bt633.1 = 0 then (if (y630.length : Int) > 0 then ((spec_l1Below.f s0_0 bt633.2.1 bt633.2.2 (y630.length : Int)).bind fun bt636 => (if 0 ≤ bt636.1 then (if bt636.1 < (y630.length : Int) then ((spec_l1Below.f s0_0 bt636.2.1 bt636.2.2 255).bind fun bt640 => (some ((y630.set (bt636.1 : Int).toNat (Go.bits .xor .u8 (rd y630 bt636.1) ((wrap64 (1 + bt640.1)) % 256))), bt640.2.1, bt640.2.2))) else (none)) else (none))) else (some (y630, bt633.2.1, bt633.2.2))) else (if bt633.1 = 1 then (if (y630.length : Int) > 0 then ((spec_l1Below.f s0_0 bt633.2.1 bt633.2.2 (y630.length : Int)).bind fun bt644 => (if 0 ≤ bt644.1 then (if bt644.1 ≤ (y630.length : Int) then (some ((y630.take (bt644.1 : Int).toNat), bt644.2.1, bt644.2.2)) else (none)) else (none))) else (some (y630, bt633.2.1, bt633.2.2))) else (if bt633.1 = 2 then ((spec_l1Byte.f s0_0 bt633.2.1 bt633.2.2).bind fun bt650 => (if y630.length < 140737488355328 then (some ((y630 ++ [(bt650.1) % 256]), bt650.2.1, bt650.2.2)) else (none))) else (some (y630, bt633.2.1, bt633.2.2)))))) = some (r1, r2, r3) := by first | (rw [hy630]; with_reducible exact H) | (have H2_ := (Option.bind_some _ _).symm.trans H; rw [hy630]; with_reducible exact H2_) | (have H2_ := (Option.bind_some _ _).symm.trans H; with_reducible exact H2_) | with_reducible exact H | (rw [hy630]; exact H) | exact H
  have Ny630 := Aside0.mk hy630
  clear hy630
  replace H := Option.bind_eq_some_iff.mp H
  obtain ⟨⟨t633, t634, t635⟩, A40, H⟩ := H
  replace H : (if t633 = 0 then (if (y630.length : Int) > 0 then ((spec_l1Below.f s0_0 t634 t635 (y630.length : Int)).bind fun bt636 => (if 0 ≤ bt636.1 then (if bt636.1 < (y630.length : Int) then ((spec_l1Below.f s0_0 bt636.2.1 bt636.2.2 255).bind fun bt640 => (some ((y630.set (bt636.1 : Int).toNat (Go.bits .xor .u8 (rd y630 bt636.1) ((wrap64 (1 + bt640.1)) % 256))), bt640.2.1, bt640.2.2))) else (none)) else (none))) else (some (y630, t634, t635))) else (if t633 = 1 then (if (y630.length : Int) > 0 then ((spec_l1Below.f s0_0 t634 t635 (y630.length : Int)).bind fun bt644 => (if 0 ≤ bt644.1 then (if bt644.1 ≤ (y630.length : Int) then (some ((y630.take (bt644.1 : Int).toNat), bt644.2.1, bt644.2.2)) else (none)) else (none))) else (some (y630, t634, t635))) else (if t633 = 2 then ((spec_l1Byte.f s0_0 t634 t635).bind fun bt650 => (if y630.length < 140737488355328 then (some ((y630 ++ [(bt650.1) % 256]), bt650.2.1, bt650.2.2)) else (none))) else (some (y630, t634, t635))))) = some (r1, r2, r3) := H
  have A4 := Aside0.mk A40
  clear A40
  by_cases c5 : t633 = 0
  ·rw [if_pos c5] at H
   have c5b0 : (t633 == 0) = true := beq_iff_eq.mpr c5
   have c5b1 : (t633 != 0) = false := bne_eq_false_iff_eq.mpr c5
   clear c5
   by_cases c6 : (y630.length : Int) > 0
   ·rw [if_pos c6] at H
    have c6b0 : decide (0 < (y630.length : Int)) = true := decide_eq_true c6
    have c6b1 : decide (0 < y630.length) = true := decide_eq_true (by omega)
    clear c6
    replace H := Option.bind_eq_some_iff.mp H
    obtain ⟨⟨t636, t637, t638⟩, A70, H⟩ := H
    replace H : (if 0 ≤ t636 then (if t636 < (y630.length : Int) then ((spec_l1Below.f s0_0 t637 t638 255).bind fun bt640 => (some ((y630.set (t636 : Int).toNat (Go.bits .xor .u8 (rd y630 t636) ((wrap64 (1 + bt640.1)) % 256))), bt640.2.1, bt640.2.2))) else (none)) else (none)) = some (r1, r2, r3) := H
    have A7 := Aside0.mk A70
    clear A70
    by_cases c8 : 0 ≤ t636
    ·rw [if_pos c8] at H
     have c8b0 : decide (0 ≤ t636) = true := decide_eq_true c8
     clear c8
     by_cases c9 : t636 < (y630.length : Int)
     ·rw [if_pos c9] at H
      have c9b0 : decide (t636 < (y630.length : Int)) = true := decide_eq_true c9
      clear c9
      replace H := Option.bind_eq_some_iff.mp H
      obtain ⟨⟨t640, t641, t642⟩, A100, H⟩ := H
      replace H : (some ((y630.set (t636 : Int).toNat (Go.bits .xor .u8 (rd y630 t636) ((wrap64 (1 + t640)) % 256))), t641, t642)) = some (r1, r2, r3) := H
      have A10 := Aside0.mk A100
      clear A100
      obtain ⟨y643, hy643⟩ : ∃ y_ : List Int, y_ = (y630.set (t636 : Int).toNat (Go.bits .xor .u8 (rd y630 t636) ((wrap64 (1 + t640)) % 256))) := ⟨_, rfl⟩
      replace H : (some (y643, t641, t642)) = some (r1, r2, r3) := by first | (rw [hy643]; with_reducible exact H) | (have H2_ := (Option.bind_some _ _).symm.trans H; rw [hy643]; with_reducible exact H2_) | (have H2_ := (Option.bind_some _ _).symm.trans H; with_reducible exact H2_) | with_reducible exact H | (rw [hy643]; exact H) | exact H
      have Ny643 := Aside0.mk hy643
      clear hy643
      simp only [Option.some.injEq, Prod.mk.injEq] at H
      obtain ⟨rfl, rfl, rfl⟩ := H
      go_enter Try.func100, Try.ntmps100
      try go_wp2_with (first | ((with_reducible refine gate_dst (N := 7) rfl ?_); refine Kd.R_lit (Kd.int .u8) _ 5 ?hg (N := 7) ?hd (xs := ([] : List Int)) (inner := []) (ok := fun _ => True) (okp := fun _ => True) ?hr ?hp (fun _ hk => hk) trivial (Below.refl _ _) (Nat.le_refl _) (by simp) ?_; (case hd => rfl); (case hg => rfl); (case hr => first | (go_simp; done) | (go_simp; rfl)); (case hp => exact (Reps.none _ _)); intro v628 w12 ho13 hb hg_ hnew_; clear hg_ hnew_; (first | rw [← Ny627.out] at ho13 | (simp only [Int.reduceToNat] at ho13; rw [← Ny627.out] at ho13)); have n0_ := Aside0.mk (Kd.R_lower ho13 (keep_size (w := w) (g := g) (row := none) z2_)); have n1_ := Aside0.mk (IsS128.below z3_ hb); have n2_ := Aside0.mk (KeepBut.trans z2_ (KeepBut.of_below hb g none) (.inl rfl)); have n3_ := Aside0.mk (below_step z4_ hb); clear HI0; clear HK; clear HB; have HO629 := n0_; have HI0 := n1_; have HK := n2_; have HB := n3_; clear n0_ n1_ n2_ n3_; clear hb ho13) | ((with_reducible refine gate_builtin (b := .append) (xs := #[.tmp 7, .tmp 8]) rfl ?_); at_builtin; refine Kd.R_append_rows (Kd.int .u8) w.heap.size rfl (.tmp 7) (.tmp 8) 33 5 (.int .u8 0) 1 rfl Try.underlying33 info5 rfl (by decide) (by omega) v628 y627 l1 _ _ _ (fun _ => True) (fun _ => False) rfl rfl ?aO ?aR (fun _ _ h => h) (fun _ h => h.elim) ?aF (Below.refl _ _) ?aS ?aL ?_; (case aR => exact Kd.C_keep 0 HR1.out z2_ hf1); (case aF => exact (fun _ _ => trivial)); (case aO => exact z12_); (case aS => exact (keep_size (w := w) (g := g) (row := none) z2_)); (case aL => have := LMc3.out; omega); intro v631 w14 ho hb hg hat; rw [← Ny630.out] at ho; have n0_ := Aside0.mk (IsS128.grown z3_ hg (IsS128.own_ne HI0.out HO629.out (by decide))); have n1_ := Aside0.mk (below_weaken z4_ HL.out hb); have n2_ := Aside0.mk (KeepBut.trans z2_ (KeepBut.of_grown hg g) (Kd.R_base2 HO629.out)); have n3_ := Aside0.mk (ho); clear HI0; clear HB; clear HK; clear HO629; have HI0 := n0_; have HB := n1_; have HK := n2_; have HO632 := n3_; clear n0_ n1_ n2_ n3_; clear ho hb hg hat) | ((with_reducible refine gate_callee (f := 96) rfl ?_); refine goesL_ (some 11) rfl rfl Try.func96 (by kernel_rfl) rfl #[.pointer (some ⟨g, 0, none⟩), .int .i64 8] rfl z0_ ?_; (with_reducible refine (spec_l1Below.calls g s0_0 s0_1 s0_2 8 t633 t634 t635 w0 _ ?side1 ?side2 A4.out).mono ?_); (case side1 => repeat (first | (with_reducible first | exact HI0.out | apply IsS128.alloc | apply IsS128.drewN | apply IsS128.drew | apply IsS128.set_1 | apply IsS128.set_2) | exact HI0.out)); (case side2 => repeat (first | (with_reducible first | exact HB.out | apply below_alloc | apply pw_below_drewN | apply below_drew1 | refine below_set ?_ (IsS128.ge HI0.out)) | exact HB.out)); rintro e w15 ⟨rfl, hi, hb, hk⟩; refine ⟨_, rfl, ?_⟩; have n0_ := Aside0.mk (Kd.R_mono (Kd.R_keep (IsS128.apart (show IsS128 w0 _ g s0_0 s0_1 s0_2 from by repeat (first | (with_reducible first | exact HI0.out | apply IsS128.alloc | apply IsS128.drewN | apply IsS128.drew | apply IsS128.set_1 | apply IsS128.set_2) | exact HI0.out)) z8_ (by decide)) hk (fun _ h => h.2)) (fun _ h => h.1)); have n1_ := Aside0.mk (KeepBut.trans z2_ hk (.inl rfl)); have n2_ := Aside0.mk (hb); have n3_ := Aside0.mk (hi); clear HO632; clear HK; clear HB; clear HI0; have HO632 := n0_; have HK := n1_; have HB := n2_; have HI0 := n3_; clear n0_ n1_ n2_ n3_; (try clear hb); (try clear hb2); (try clear hk); (try clear hi); obtain ⟨Ao16, co16, eo16⟩ := Kd.R_slice HO632.out; subst eo16) | ((with_reducible refine gate_callee (f := 96) rfl ?_); refine goesL_ (some 20) rfl rfl Try.func96 (by kernel_rfl) rfl #[.pointer (some ⟨g, 0, none⟩), .int .i64 (y630.length : Int)] rfl z0_ ?_; (with_reducible refine (spec_l1Below.calls g s0_0 t634 t635 (y630.length : Int) t636 t637 t638 w0 _ ?side1 ?side2 A7.out).mono ?_); (case side1 => repeat (first | (with_reducible first | exact HI0.out | apply IsS128.alloc | apply IsS128.drewN | apply IsS128.drew | apply IsS128.set_1 | apply IsS128.set_2) | exact HI0.out)); (case side2 => repeat (first | (with_reducible first | exact HB.out | apply below_alloc | apply pw_below_drewN | apply below_drew1 | refine below_set ?_ (IsS128.ge HI0.out)) | exact HB.out)); rintro e w17 ⟨rfl, hi, hb, hk⟩; refine ⟨_, rfl, ?_⟩; have n0_ := Aside0.mk (Kd.R_mono (Kd.R_keep (IsS128.apart (show IsS128 w0 _ g s0_0 t634 t635 from by repeat (first | (with_reducible first | exact HI0.out | apply IsS128.alloc | apply IsS128.drewN | apply IsS128.drew | apply IsS128.set_1 | apply IsS128.set_2) | exact HI0.out)) z8_ (by decide)) hk (fun _ h => h.2)) (fun _ h => h.1)); have n1_ := Aside0.mk (KeepBut.trans z2_ hk (.inl rfl)); have n2_ := Aside0.mk (hb); have n3_ := Aside0.mk (hi); clear HO632; clear HK; clear HB; clear HI0; have HO632 := n0_; have HK := n1_; have HB := n2_; have HI0 := n3_; clear n0_ n1_ n2_ n3_; (try clear hb); (try clear hb2); (try clear hk); (try clear hi)))
      have n0_ := Aside0.mk (Kd.R_drew HO632.out)
      have n1_ := Aside0.mk (IsS128.drew HI0.out)
      have n2_ := Aside0.mk (keep_drew HK.out)
      have n3_ := Aside0.mk (below_drew1 HB.out)
      clear HO632
      clear HI0
      clear HK
      clear HB
      have HO632 := n0_
      have HI0 := n1_
      have HK := n2_
      have HB := n3_
      clear n0_ n1_ n2_ n3_
      have p639 : 0 ≤ (t636 : Int) := of_decide_eq_true z5_
      have q639 : t636 < (y630.length : Int) := of_decide_eq_true z5_
      obtain ⟨ad639, e639, hx639_0⟩ := Kd.at_int (Kd.R_reads' HO632.out).2.2 t636 p639 q639
      cases e639
      replace p639 := eq_true p639
      replace q639 := eq_true q639
      refine start_ (n := 13) (S := fun w' => w'.cell? (ad639.add (t636).toNat) = some (.int .u8 (rd y630 t636))) (ds := [12]) #[false, false, false, false, false, false, false, false, false, false, false, false, false] (by kernel_rfl) rfl rfl (hx639_0) (fun hHeld => ?_); refine with_tabW spec_l1Bend.tab6 spec_l1Bend.bits6 (fun HT_ HW_ => ?_)
      generalize w17.drew = w18 at HO632 HI0 HK HB hx639_0 hHeld ⊢
      refine pure_ (i := 0) (N := some 21) (v := ?_) (a' := ?_) #[true, false, false, false, false, false, false, false, false, false, false, false, false] rfl rfl (any_of HT_.out (by kernel_rfl)) (fun _ _ _ h => h) (Or.inl ⟨by rfl, ?_⟩) ?_ ?_
      rotate_left
      ·intro w'
       go_simp
       with_reducible rfl
      rotate_left
      ·simp only [Act.put, List.setIfInBounds_toArray, List.set_cons_zero, List.set_cons_succ, i64_w, i32_w]
       rfl
      refine pure_ (i := 1) (N := some 22) (v := ?_) (a' := ?_) #[true, true, false, false, false, false, false, false, false, false, false, false, false] rfl rfl (any_of HT_.out (by kernel_rfl)) (fun _ _ _ h => h) (Or.inl ⟨by rfl, ?_⟩) ?_ ?_
      rotate_left
      ·intro w'
       go_simp
       with_reducible rfl
      rotate_left
      ·simp only [Act.put, List.setIfInBounds_toArray, List.set_cons_zero, List.set_cons_succ, i64_w, i32_w]
       rfl
      refine pure_ (i := 2) (N := some 23) (v := ?_) (a' := ?_) #[true, true, true, false, false, false, false, false, false, false, false, false, false] rfl rfl (any_of HT_.out (by kernel_rfl)) (fun _ _ _ h => h) (Or.inl ⟨by rfl, ?_⟩) ?_ ?_
      rotate_left
      ·intro w'
       go_simp
       with_reducible rfl
      rotate_left
      ·simp only [Act.put, List.setIfInBounds_toArray, List.set_cons_zero, List.set_cons_succ, i64_w, i32_w]
       rfl
      refine pure_ (i := 3) (N := some 24) (v := ?_) (a' := ?_) #[true, true, true, true, false, false, false, false, false, false, false, false, false] rfl rfl (any_of HT_.out (by kernel_rfl)) (fun _ _ _ h => h) (Or.inl ⟨by rfl, ?_⟩) ?_ ?_
      rotate_left
      ·intro w'
       go_simp
       with_reducible rfl
      rotate_left
      ·simp only [Act.put, List.setIfInBounds_toArray, List.set_cons_zero, List.set_cons_succ, i64_w, i32_w]
       rfl
      refine pure_ (i := 4) (N := some 25) (v := ?_) (a' := ?_) #[true, true, true, true, true, false, false, false, false, false, false, false, false] rfl rfl (any_of HT_.out (by kernel_rfl)) (fun _ _ _ h => h) (Or.inl ⟨by rfl, ?_⟩) ?_ ?_
      rotate_left
      ·intro w'
       go_simp
       with_reducible rfl
      rotate_left
      ·simp only [Act.put, List.setIfInBounds_toArray, List.set_cons_zero, List.set_cons_succ, i64_w, i32_w]
       rfl
      refine pure_ (i := 6) (N := some 27) (v := ?_) (a' := ?_) #[true, true, true, true, true, false, true, false, false, false, false, false, false] rfl rfl (any_of HT_.out (by kernel_rfl)) (fun _ _ _ h => h) (Or.inl ⟨by rfl, ?_⟩) ?_ ?_
      rotate_left
      ·intro w'
       go_simp
       with_reducible rfl
      rotate_left
      ·simp only [Act.put, List.setIfInBounds_toArray, List.set_cons_zero, List.set_cons_succ, i64_w, i32_w]
       rfl
      refine take_ (i := 5) (N := some 26) (v := ?_) (a' := ?_) #[true, true, true, true, true, true, true, false, false, false, false, false, false] rfl rfl (take_ofW HT_.out HW_.out (by kernel_rfl)) (fun _ _ _ h => h) (Or.inl ⟨by rfl, ?_⟩) hHeld ?_ ?_
      rotate_left
      ·intro w' s0
       go_simp
       with_reducible rfl
      rotate_left
      ·simp only [Act.put, List.setIfInBounds_toArray, List.set_cons_zero, List.set_cons_succ, i64_w, i32_w]
       rfl
      refine one_ (i := 7) (N := some 28) #[true, true, true, true, true, true, true, true, false, false, false, false, false] rfl rfl (one_of HT_.out (by kernel_rfl)) (by decide) (fun K hK => ?_)
      refine goes_ Try.func96 (by kernel_rfl) rfl #[.pointer (some ⟨g, 0, none⟩), .int .i64 255] (by rfl) rfl rfl z0_ ?_
      with_reducible refine (spec_l1Below.calls g s0_0 t637 t638 255 t640 t641 t642 w0 _ ?side1 ?side2 A10.out).mono ?_
      (case side1 => repeat (first | (with_reducible first | exact HI0.out | apply IsS128.alloc | apply IsS128.drewN | apply IsS128.drew | apply IsS128.set_1 | apply IsS128.set_2) | exact HI0.out))
      (case side2 => repeat (first | (with_reducible first | exact HB.out | apply below_alloc | apply pw_below_drewN | apply below_drew1 | refine below_set ?_ (IsS128.ge HI0.out)) | exact HB.out))
      rintro e w19 ⟨rfl, hi, hb, hk⟩
      have HS0_ := keep_cell hk (hHeld) (by first | (rw [add_block]; exact Kd.own_blk (IsS128.own_ne HI0.out HO632.out (by decide))) | (show (Addr.add _ _).block ≠ _; rw [add_block]; exact Kd.own_blk (IsS128.own_ne HI0.out HO632.out (by decide))) | exact Kd.own_blk (IsS128.own_ne HI0.out HO632.out (by decide)))
      refine ⟨_, rfl, ?_⟩
      have n0_ := Aside0.mk (Kd.R_mono (Kd.R_keep (IsS128.apart (show IsS128 w0 _ g s0_0 t637 t638 from by repeat (first | (with_reducible first | exact HI0.out | apply IsS128.alloc | apply IsS128.drewN | apply IsS128.drew | apply IsS128.set_1 | apply IsS128.set_2) | exact HI0.out)) z8_ (by decide)) hk (fun _ h => h.2)) (fun _ h => h.1))
      have n1_ := Aside0.mk (KeepBut.trans z2_ hk (.inl rfl))
      have n2_ := Aside0.mk (hb)
      have n3_ := Aside0.mk (hi)
      clear HO632
      clear HK
      clear HB
      clear HI0
      have HO632 := n0_
      have HK := n1_
      have HB := n2_
      have HI0 := n3_
      clear n0_ n1_ n2_ n3_
      (try clear hb)
      (try clear hb2)
      (try clear hk)
      (try clear hi)
      have p11 : 0 ≤ (t636 : Int) := of_decide_eq_true z5_
      have q11 : (t636 : Int) < ((y630.length : Int) : Int) := of_decide_eq_true z5_
      obtain ⟨go11, co11, eo11, gb11, gl11, cl11, HG11⟩ := Kd.R_form HO632.out (by omega)
      (first | cases eo11 | (injection eo11 with ea_ en_ ec_; (first | subst ea_ | (injection ea_ with ea_; subst ea_)); subst ec_; clear en_))
      have GB11 := Aside0.mk gb11
      have GG11 := Aside0.mk HG11
      clear gb11 gl11 HG11
      (first | simp only [add_plain] at hx639_0 | skip)
      obtain ⟨hx11_0, hf11_0⟩ := Kd.R_celln 0 HO632.out (t636 : Int) p11 q11
      replace p11 := eq_true p11
      replace q11 := eq_true q11
      have HN0_go11 := Aside0.mk (show g ≠ go11 from by have h_ := IsS128.own_ne HI0.out HO632.out (by decide); intro e_; exact h_ (by rw [e_]; rfl))
      have HP20 := Kd.R_putn HO632.out (t636 : Int) (Go.bits .xor .u8 (rd y630 t636) ((wrap64 (1 + t640)) % 256))
      rw [← Ny643.out] at HP20
      have HQ20 := Aside0.mk HP20
      clear HP20
      refine hK.out _ _ (HS0_) (fun hHeld => ?_)
      clear hK K
      refine norm_ (a' := ?_) ?_ ?_
      rotate_left
      ·show Act.put _ (some 28) _ = _
       simp only [Act.put, List.setIfInBounds_toArray, List.set_cons_zero, List.set_cons_succ, i64_w, i32_w]
       rfl
      refine pure_ (i := 8) (N := some 29) (v := ?_) (a' := ?_) #[true, true, true, true, true, true, true, true, true, false, false, false, false] rfl rfl (any_of HT_.out (by kernel_rfl)) (fun _ _ _ h => h) (Or.inl ⟨by rfl, ?_⟩) ?_ ?_
      rotate_left
      ·intro w'
       go_simp
       with_reducible rfl
      rotate_left
      ·simp only [Act.put, List.setIfInBounds_toArray, List.set_cons_zero, List.set_cons_succ, i64_w, i32_w]
       rfl
      refine pure_ (i := 9) (N := some 30) (v := ?_) (a' := ?_) #[true, true, true, true, true, true, true, true, true, true, false, false, false] rfl rfl (any_of HT_.out (by kernel_rfl)) (fun _ _ _ h => h) (Or.inl ⟨by rfl, ?_⟩) ?_ ?_
      rotate_left
      ·intro w'
       go_simp
       with_reducible rfl
      rotate_left
      ·simp only [Act.put, List.setIfInBounds_toArray, List.set_cons_zero, List.set_cons_succ, i64_w, i32_w]
       rfl
      refine pure_ (i := 10) (N := some 31) (v := ?_) (a' := ?_) #[true, true, true, true, true, true, true, true, true, true, true, false, false] rfl rfl (any_of HT_.out (by kernel_rfl)) (fun _ _ _ h => h) (Or.inl ⟨by rfl, ?_⟩) ?_ ?_
      rotate_left
      ·intro w'
       go_simp
       with_reducible rfl
      rotate_left
      ·simp only [Act.put, List.setIfInBounds_toArray, List.set_cons_zero, List.set_cons_succ, i64_w, i32_w]
       rfl
      refine pure_ (i := 11) (N := some 32) (v := ?_) (a' := ?_) #[true, true, true, true, true, true, true, true, true, true, true, true, false] rfl rfl (any_of HT_.out (by kernel_rfl)) (fun _ _ _ h => h) (Or.inl ⟨by rfl, ?_⟩) ?_ ?_
      rotate_left
      ·intro w'
       go_simp
       with_reducible rfl
      rotate_left
      ·simp only [Act.put, List.setIfInBounds_toArray, List.set_cons_zero, List.set_cons_succ, i64_w, i32_w]
       rfl
      refine last_ (i := 12) (N := none) #[true, true, true, true, true, true, true, true, true, true, true, true, true] rfl rfl (one_of HT_.out (by kernel_rfl)) (by decide) (fun K hK => ?_)
      refine skip_ (w1 := ?_) (by rfl) rfl ?_ ?_
      rotate_left
      ·go_simp
       rfl
      refine hK.out _ _ ?_
      clear hK K
      refine done_ (done_of HT_.out (by kernel_rfl)) ?_
      try go_wp2
      go_ret
      exact ⟨_, by first | rfl | (simp [errW_none, errW_some] <;> rfl) | (simp [*, errW_none, errW_some] <;> rfl), by (with_reducible repeat (first | apply Kd.R_alloc | apply Kd.R_drewN | apply Kd.R_drew)); exact HQ20.out, by repeat (first | (with_reducible first | exact HI0.out | apply IsS128.alloc | apply IsS128.drewN | apply IsS128.drew | apply IsS128.set_1 | apply IsS128.set_2 | refine IsS128.far ?_ HN0_go11.out _) | exact HI0.out), by repeat (first | (with_reducible first | exact HB.out | apply below_alloc | apply pw_below_drewN | apply below_drew1 | refine below_set ?_ (Nat.le_trans HL.out GB11.out) | refine below_set ?_ (IsS128.ge HI0.out)) | exact HB.out), by repeat (first | (with_reducible first | exact HK.out | apply KeepBut.set_ | apply keep_drewN | apply keep_drew | apply keep_alloc | refine keep_far ?_ GB11.out _) | exact HK.out)⟩
     ·rw [if_neg c9] at H
      exact absurd H (by simp)
    ·rw [if_neg c8] at H
     exact absurd H (by simp)
   ·rw [if_neg c6] at H
    have c6b0 : decide (0 < (y630.length : Int)) = false := decide_eq_false c6
    have c6b1 : decide (0 < y630.length) = false := decide_eq_false (by omega)
    clear c6
    simp only [Option.some.injEq, Prod.mk.injEq] at H
    obtain ⟨rfl, rfl, rfl⟩ := H
    go_enter Try.func100, Try.ntmps100
    go_wp2_with (first | ((with_reducible refine gate_dst (N := 7) rfl ?_); refine Kd.R_lit (Kd.int .u8) _ 5 ?hg (N := 7) ?hd (xs := ([] : List Int)) (inner := []) (ok := fun _ => True) (okp := fun _ => True) ?hr ?hp (fun _ hk => hk) trivial (Below.refl _ _) (Nat.le_refl _) (by simp) ?_; (case hd => rfl); (case hg => rfl); (case hr => first | (go_simp; done) | (go_simp; rfl)); (case hp => exact (Reps.none _ _)); intro v628 w21 ho22 hb hg_ hnew_; clear hg_ hnew_; (first | rw [← Ny627.out] at ho22 | (simp only [Int.reduceToNat] at ho22; rw [← Ny627.out] at ho22)); have n0_ := Aside0.mk (Kd.R_lower ho22 (keep_size (w := w) (g := g) (row := none) z2_)); have n1_ := Aside0.mk (IsS128.below z3_ hb); have n2_ := Aside0.mk (KeepBut.trans z2_ (KeepBut.of_below hb g none) (.inl rfl)); have n3_ := Aside0.mk (below_step z4_ hb); clear HI0; clear HK; clear HB; have HO629 := n0_; have HI0 := n1_; have HK := n2_; have HB := n3_; clear n0_ n1_ n2_ n3_; clear hb ho22) | ((with_reducible refine gate_builtin (b := .append) (xs := #[.tmp 7, .tmp 8]) rfl ?_); at_builtin; refine Kd.R_append_rows (Kd.int .u8) w.heap.size rfl (.tmp 7) (.tmp 8) 33 5 (.int .u8 0) 1 rfl Try.underlying33 info5 rfl (by decide) (by omega) v628 y627 l1 _ _ _ (fun _ => True) (fun _ => False) rfl rfl ?aO ?aR (fun _ _ h => h) (fun _ h => h.elim) ?aF (Below.refl _ _) ?aS ?aL ?_; (case aR => exact Kd.C_keep 0 HR1.out z2_ hf1); (case aF => exact (fun _ _ => trivial)); (case aO => exact z12_); (case aS => exact (keep_size (w := w) (g := g) (row := none) z2_)); (case aL => have := LMc3.out; omega); intro v631 w23 ho hb hg hat; rw [← Ny630.out] at ho; have n0_ := Aside0.mk (IsS128.grown z3_ hg (IsS128.own_ne HI0.out HO629.out (by decide))); have n1_ := Aside0.mk (below_weaken z4_ HL.out hb); have n2_ := Aside0.mk (KeepBut.trans z2_ (KeepBut.of_grown hg g) (Kd.R_base2 HO629.out)); have n3_ := Aside0.mk (ho); clear HI0; clear HB; clear HK; clear HO629; have HI0 := n0_; have HB := n1_; have HK := n2_; have HO632 := n3_; clear n0_ n1_ n2_ n3_; clear ho hb hg hat) | ((with_reducible refine gate_callee (f := 96) rfl ?_); refine goesL_ (some 11) rfl rfl Try.func96 (by kernel_rfl) rfl #[.pointer (some ⟨g, 0, none⟩), .int .i64 8] rfl z0_ ?_; (with_reducible refine (spec_l1Below.calls g s0_0 s0_1 s0_2 8 t633 t634 t635 w0 _ ?side1 ?side2 A4.out).mono ?_); (case side1 => repeat (first | (with_reducible first | exact HI0.out | apply IsS128.alloc | apply IsS128.drewN | apply IsS128.drew | apply IsS128.set_1 | apply IsS128.set_2) | exact HI0.out)); (case side2 => repeat (first | (with_reducible first | exact HB.out | apply below_alloc | apply pw_below_drewN | apply below_drew1 | refine below_set ?_ (IsS128.ge HI0.out)) | exact HB.out)); rintro e w24 ⟨rfl, hi, hb, hk⟩; refine ⟨_, rfl, ?_⟩; have n0_ := Aside0.mk (Kd.R_mono (Kd.R_keep (IsS128.apart (show IsS128 w0 _ g s0_0 s0_1 s0_2 from by repeat (first | (with_reducible first | exact HI0.out | apply IsS128.alloc | apply IsS128.drewN | apply IsS128.drew | apply IsS128.set_1 | apply IsS128.set_2) | exact HI0.out)) z8_ (by decide)) hk (fun _ h => h.2)) (fun _ h => h.1)); have n1_ := Aside0.mk (KeepBut.trans z2_ hk (.inl rfl)); have n2_ := Aside0.mk (hb); have n3_ := Aside0.mk (hi); clear HO632; clear HK; clear HB; clear HI0; have HO632 := n0_; have HK := n1_; have HB := n2_; have HI0 := n3_; clear n0_ n1_ n2_ n3_; (try clear hb); (try clear hb2); (try clear hk); (try clear hi); obtain ⟨Ao25, co25, eo25⟩ := Kd.R_slice HO632.out; subst eo25))
    go_ret
    exact ⟨_, by first | rfl | (simp [errW_none, errW_some] <;> rfl) | (simp [*, errW_none, errW_some] <;> rfl), by (with_reducible repeat (first | apply Kd.R_alloc | apply Kd.R_drewN | apply Kd.R_drew)); exact HO632.out, by repeat (first | (with_reducible first | exact HI0.out | apply IsS128.alloc | apply IsS128.drewN | apply IsS128.drew | apply IsS128.set_1 | apply IsS128.set_2) | exact HI0.out), by repeat (first | (with_reducible first | exact HB.out | apply below_alloc | apply pw_below_drewN | apply below_drew1 | refine below_set ?_ (IsS128.ge HI0.out)) | exact HB.out), by repeat (first | (with_reducible first | exact HK.out | apply KeepBut.set_ | apply keep_drewN | apply keep_drew | apply keep_alloc) | exact HK.out)⟩
  ·rw [if_neg c5] at H
   have c5b0 : (t633 == 0) = false := beq_eq_false_iff_ne.mpr c5
   have c5b1 : (t633 != 0) = true := bne_iff_ne.mpr c5
   by_cases c26 : t633 = 1
   ·rw [if_pos c26] at H
    have c26b0 : (t633 == 1) = true := beq_iff_eq.mpr c26
    have c26b1 : (t633 != 1) = false := bne_eq_false_iff_eq.mpr c26
    clear c26
    by_cases c27 : (y630.length : Int) > 0
    ·rw [if_pos c27] at H
     have c27b0 : decide (0 < (y630.length : Int)) = true := decide_eq_true c27
     have c27b1 : decide (0 < y630.length) = true := decide_eq_true (by omega)
     clear c27
     replace H := Option.bind_eq_some_iff.mp H
     obtain ⟨⟨t644, t645, t646⟩, A280, H⟩ := H
     replace H : (if 0 ≤ t644 then (if t644 ≤ (y630.length : Int) then (some ((y630.take (t644 : Int).toNat), t645, t646)) else (none)) else (none)) = some (r1, r2, r3) := H
     have A28 := Aside0.mk A280
     clear A280
     by_cases c29 : 0 ≤ t644
     ·rw [if_pos c29] at H
      have c29b0 := eq_true c29
      have c29b1 : decide (0 ≤ t644) = true := decide_eq_true c29
      clear c29
      by_cases c30 : t644 ≤ (y630.length : Int)
      ·rw [if_pos c30] at H
       have c30b0 := eq_true c30
       have c30b1 : decide (t644 ≤ (y630.length : Int)) = true := decide_eq_true c30
       clear c30
       obtain ⟨y647, hy647⟩ : ∃ y_ : List Int, y_ = (y630.take (t644 : Int).toNat) := ⟨_, rfl⟩
       replace H : (some (y647, t645, t646)) = some (r1, r2, r3) := by first | (rw [hy647]; with_reducible exact H) | (have H2_ := (Option.bind_some _ _).symm.trans H; rw [hy647]; with_reducible exact H2_) | (have H2_ := (Option.bind_some _ _).symm.trans H; with_reducible exact H2_) | with_reducible exact H | (rw [hy647]; exact H) | exact H
       have Ny647 := Aside0.mk hy647
       clear hy647
       simp only [Option.some.injEq, Prod.mk.injEq] at H
       obtain ⟨rfl, rfl, rfl⟩ := H
       go_enter Try.func100, Try.ntmps100
       go_wp2_with (first | ((with_reducible refine gate_dst (N := 7) rfl ?_); refine Kd.R_lit (Kd.int .u8) _ 5 ?hg (N := 7) ?hd (xs := ([] : List Int)) (inner := []) (ok := fun _ => True) (okp := fun _ => True) ?hr ?hp (fun _ hk => hk) trivial (Below.refl _ _) (Nat.le_refl _) (by simp) ?_; (case hd => rfl); (case hg => rfl); (case hr => first | (go_simp; done) | (go_simp; rfl)); (case hp => exact (Reps.none _ _)); intro v628 w31 ho32 hb hg_ hnew_; clear hg_ hnew_; (first | rw [← Ny627.out] at ho32 | (simp only [Int.reduceToNat] at ho32; rw [← Ny627.out] at ho32)); have n0_ := Aside0.mk (Kd.R_lower ho32 (keep_size (w := w) (g := g) (row := none) z2_)); have n1_ := Aside0.mk (IsS128.below z3_ hb); have n2_ := Aside0.mk (KeepBut.trans z2_ (KeepBut.of_below hb g none) (.inl rfl)); have n3_ := Aside0.mk (below_step z4_ hb); clear HI0; clear HK; clear HB; have HO629 := n0_; have HI0 := n1_; have HK := n2_; have HB := n3_; clear n0_ n1_ n2_ n3_; clear hb ho32) | ((with_reducible refine gate_builtin (b := .append) (xs := #[.tmp 7, .tmp 8]) rfl ?_); at_builtin; refine Kd.R_append_rows (Kd.int .u8) w.heap.size rfl (.tmp 7) (.tmp 8) 33 5 (.int .u8 0) 1 rfl Try.underlying33 info5 rfl (by decide) (by omega) v628 y627 l1 _ _ _ (fun _ => True) (fun _ => False) rfl rfl ?aO ?aR (fun _ _ h => h) (fun _ h => h.elim) ?aF (Below.refl _ _) ?aS ?aL ?_; (case aR => exact Kd.C_keep 0 HR1.out z2_ hf1); (case aF => exact (fun _ _ => trivial)); (case aO => exact z12_); (case aS => exact (keep_size (w := w) (g := g) (row := none) z2_)); (case aL => have := LMc3.out; omega); intro v631 w33 ho hb hg hat; rw [← Ny630.out] at ho; have n0_ := Aside0.mk (IsS128.grown z3_ hg (IsS128.own_ne HI0.out HO629.out (by decide))); have n1_ := Aside0.mk (below_weaken z4_ HL.out hb); have n2_ := Aside0.mk (KeepBut.trans z2_ (KeepBut.of_grown hg g) (Kd.R_base2 HO629.out)); have n3_ := Aside0.mk (ho); clear HI0; clear HB; clear HK; clear HO629; have HI0 := n0_; have HB := n1_; have HK := n2_; have HO632 := n3_; clear n0_ n1_ n2_ n3_; clear ho hb hg hat) | ((with_reducible refine gate_callee (f := 96) rfl ?_); refine goesL_ (some 11) rfl rfl Try.func96 (by kernel_rfl) rfl #[.pointer (some ⟨g, 0, none⟩), .int .i64 8] rfl z0_ ?_; (with_reducible refine (spec_l1Below.calls g s0_0 s0_1 s0_2 8 t633 t634 t635 w0 _ ?side1 ?side2 A4.out).mono ?_); (case side1 => repeat (first | (with_reducible first | exact HI0.out | apply IsS128.alloc | apply IsS128.drewN | apply IsS128.drew | apply IsS128.set_1 | apply IsS128.set_2) | exact HI0.out)); (case side2 => repeat (first | (with_reducible first | exact HB.out | apply below_alloc | apply pw_below_drewN | apply below_drew1 | refine below_set ?_ (IsS128.ge HI0.out)) | exact HB.out)); rintro e w34 ⟨rfl, hi, hb, hk⟩; refine ⟨_, rfl, ?_⟩; have n0_ := Aside0.mk (Kd.R_mono (Kd.R_keep (IsS128.apart (show IsS128 w0 _ g s0_0 s0_1 s0_2 from by repeat (first | (with_reducible first | exact HI0.out | apply IsS128.alloc | apply IsS128.drewN | apply IsS128.drew | apply IsS128.set_1 | apply IsS128.set_2) | exact HI0.out)) z8_ (by decide)) hk (fun _ h => h.2)) (fun _ h => h.1)); have n1_ := Aside0.mk (KeepBut.trans z2_ hk (.inl rfl)); have n2_ := Aside0.mk (hb); have n3_ := Aside0.mk (hi); clear HO632; clear HK; clear HB; clear HI0; have HO632 := n0_; have HK := n1_; have HB := n2_; have HI0 := n3_; clear n0_ n1_ n2_ n3_; (try clear hb); (try clear hb2); (try clear hk); (try clear hi); obtain ⟨Ao35, co35, eo35⟩ := Kd.R_slice HO632.out; subst eo35) | ((with_reducible refine gate_callee (f := 96) rfl ?_); refine goesL_ (some 42) rfl rfl Try.func96 (by kernel_rfl) rfl #[.pointer (some ⟨g, 0, none⟩), .int .i64 (y630.length : Int)] rfl z0_ ?_; (with_reducible refine (spec_l1Below.calls g s0_0 t634 t635 (y630.length : Int) t644 t645 t646 w0 _ ?side1 ?side2 A28.out).mono ?_); (case side1 => repeat (first | (with_reducible first | exact HI0.out | apply IsS128.alloc | apply IsS128.drewN | apply IsS128.drew | apply IsS128.set_1 | apply IsS128.set_2) | exact HI0.out)); (case side2 => repeat (first | (with_reducible first | exact HB.out | apply below_alloc | apply pw_below_drewN | apply below_drew1 | refine below_set ?_ (IsS128.ge HI0.out)) | exact HB.out)); rintro e w36 ⟨rfl, hi, hb, hk⟩; refine ⟨_, rfl, ?_⟩; have n0_ := Aside0.mk (Kd.R_mono (Kd.R_keep (IsS128.apart (show IsS128 w0 _ g s0_0 t634 t635 from by repeat (first | (with_reducible first | exact HI0.out | apply IsS128.alloc | apply IsS128.drewN | apply IsS128.drew | apply IsS128.set_1 | apply IsS128.set_2) | exact HI0.out)) z8_ (by decide)) hk (fun _ h => h.2)) (fun _ h => h.1)); have n1_ := Aside0.mk (KeepBut.trans z2_ hk (.inl rfl)); have n2_ := Aside0.mk (hb); have n3_ := Aside0.mk (hi); clear HO632; clear HK; clear HB; clear HI0; have HO632 := n0_; have HK := n1_; have HB := n2_; have HI0 := n3_; clear n0_ n1_ n2_ n3_; (try clear hb); (try clear hb2); (try clear hk); (try clear hi); have q37 : (t644 : Int) ≤ ((y630.length : Int) : Int) := of_decide_eq_true z5_; obtain ⟨i037, hi037, _, hsz37, _⟩ := info_parts info5; have hcut37 := cut_to (P := Try.prog) 33 5 .i64 Try.underlying33 hi037 Ao35 y630.length co35 t644 (of_decide_eq_true z5_) q37 (Kd.R_reads' HO632.out).2.1; have hr37 := Kd.R_take (m := (t644 : Int).toNat) HO632.out (by omega); have hy37 : y647.length = (t644 : Int).toNat := (by rw [Ny647.out, List.length_take]; omega); rw [← Ny647.out] at hr37; rw [← hy37] at hr37 hcut37; clear hy37 hi037 hsz37 HO632; have HO649 := Aside0.mk hr37; clear hr37; replace q37 := eq_true q37))
       go_ret
       exact ⟨_, by first | rfl | (simp [errW_none, errW_some] <;> rfl) | (simp [*, errW_none, errW_some] <;> rfl), by (with_reducible repeat (first | apply Kd.R_alloc | apply Kd.R_drewN | apply Kd.R_drew)); exact HO649.out, by repeat (first | (with_reducible first | exact HI0.out | apply IsS128.alloc | apply IsS128.drewN | apply IsS128.drew | apply IsS128.set_1 | apply IsS128.set_2) | exact HI0.out), by repeat (first | (with_reducible first | exact HB.out | apply below_alloc | apply pw_below_drewN | apply below_drew1 | refine below_set ?_ (IsS128.ge HI0.out)) | exact HB.out), by repeat (first | (with_reducible first | exact HK.out | apply KeepBut.set_ | apply keep_drewN | apply keep_drew | apply keep_alloc) | exact HK.out)⟩
      ·rw [if_neg c30] at H
       exact absurd H (by simp)
     ·rw [if_neg c29] at H
      exact absurd H (by simp)
    ·rw [if_neg c27] at H
     have c27b0 : decide (0 < (y630.length : Int)) = false := decide_eq_false c27
     have c27b1 : decide (0 < y630.length) = false := decide_eq_false (by omega)
     clear c27
     simp only [Option.some.injEq, Prod.mk.injEq] at H
     obtain ⟨rfl, rfl, rfl⟩ := H
     go_enter Try.func100, Try.ntmps100
     go_wp2_with (first | ((with_reducible refine gate_dst (N := 7) rfl ?_); refine Kd.R_lit (Kd.int .u8) _ 5 ?hg (N := 7) ?hd (xs := ([] : List Int)) (inner := []) (ok := fun _ => True) (okp := fun _ => True) ?hr ?hp (fun _ hk => hk) trivial (Below.refl _ _) (Nat.le_refl _) (by simp) ?_; (case hd => rfl); (case hg => rfl); (case hr => first | (go_simp; done) | (go_simp; rfl)); (case hp => exact (Reps.none _ _)); intro v628 w38 ho39 hb hg_ hnew_; clear hg_ hnew_; (first | rw [← Ny627.out] at ho39 | (simp only [Int.reduceToNat] at ho39; rw [← Ny627.out] at ho39)); have n0_ := Aside0.mk (Kd.R_lower ho39 (keep_size (w := w) (g := g) (row := none) z2_)); have n1_ := Aside0.mk (IsS128.below z3_ hb); have n2_ := Aside0.mk (KeepBut.trans z2_ (KeepBut.of_below hb g none) (.inl rfl)); have n3_ := Aside0.mk (below_step z4_ hb); clear HI0; clear HK; clear HB; have HO629 := n0_; have HI0 := n1_; have HK := n2_; have HB := n3_; clear n0_ n1_ n2_ n3_; clear hb ho39) | ((with_reducible refine gate_builtin (b := .append) (xs := #[.tmp 7, .tmp 8]) rfl ?_); at_builtin; refine Kd.R_append_rows (Kd.int .u8) w.heap.size rfl (.tmp 7) (.tmp 8) 33 5 (.int .u8 0) 1 rfl Try.underlying33 info5 rfl (by decide) (by omega) v628 y627 l1 _ _ _ (fun _ => True) (fun _ => False) rfl rfl ?aO ?aR (fun _ _ h => h) (fun _ h => h.elim) ?aF (Below.refl _ _) ?aS ?aL ?_; (case aR => exact Kd.C_keep 0 HR1.out z2_ hf1); (case aF => exact (fun _ _ => trivial)); (case aO => exact z12_); (case aS => exact (keep_size (w := w) (g := g) (row := none) z2_)); (case aL => have := LMc3.out; omega); intro v631 w40 ho hb hg hat; rw [← Ny630.out] at ho; have n0_ := Aside0.mk (IsS128.grown z3_ hg (IsS128.own_ne HI0.out HO629.out (by decide))); have n1_ := Aside0.mk (below_weaken z4_ HL.out hb); have n2_ := Aside0.mk (KeepBut.trans z2_ (KeepBut.of_grown hg g) (Kd.R_base2 HO629.out)); have n3_ := Aside0.mk (ho); clear HI0; clear HB; clear HK; clear HO629; have HI0 := n0_; have HB := n1_; have HK := n2_; have HO632 := n3_; clear n0_ n1_ n2_ n3_; clear ho hb hg hat) | ((with_reducible refine gate_callee (f := 96) rfl ?_); refine goesL_ (some 11) rfl rfl Try.func96 (by kernel_rfl) rfl #[.pointer (some ⟨g, 0, none⟩), .int .i64 8] rfl z0_ ?_; (with_reducible refine (spec_l1Below.calls g s0_0 s0_1 s0_2 8 t633 t634 t635 w0 _ ?side1 ?side2 A4.out).mono ?_); (case side1 => repeat (first | (with_reducible first | exact HI0.out | apply IsS128.alloc | apply IsS128.drewN | apply IsS128.drew | apply IsS128.set_1 | apply IsS128.set_2) | exact HI0.out)); (case side2 => repeat (first | (with_reducible first | exact HB.out | apply below_alloc | apply pw_below_drewN | apply below_drew1 | refine below_set ?_ (IsS128.ge HI0.out)) | exact HB.out)); rintro e w41 ⟨rfl, hi, hb, hk⟩; refine ⟨_, rfl, ?_⟩; have n0_ := Aside0.mk (Kd.R_mono (Kd.R_keep (IsS128.apart (show IsS128 w0 _ g s0_0 s0_1 s0_2 from by repeat (first | (with_reducible first | exact HI0.out | apply IsS128.alloc | apply IsS128.drewN | apply IsS128.drew | apply IsS128.set_1 | apply IsS128.set_2) | exact HI0.out)) z8_ (by decide)) hk (fun _ h => h.2)) (fun _ h => h.1)); have n1_ := Aside0.mk (KeepBut.trans z2_ hk (.inl rfl)); have n2_ := Aside0.mk (hb); have n3_ := Aside0.mk (hi); clear HO632; clear HK; clear HB; clear HI0; have HO632 := n0_; have HK := n1_; have HB := n2_; have HI0 := n3_; clear n0_ n1_ n2_ n3_; (try clear hb); (try clear hb2); (try clear hk); (try clear hi); obtain ⟨Ao42, co42, eo42⟩ := Kd.R_slice HO632.out; subst eo42))
     go_ret
     exact ⟨_, by first | rfl | (simp [errW_none, errW_some] <;> rfl) | (simp [*, errW_none, errW_some] <;> rfl), by (with_reducible repeat (first | apply Kd.R_alloc | apply Kd.R_drewN | apply Kd.R_drew)); exact HO632.out, by repeat (first | (with_reducible first | exact HI0.out | apply IsS128.alloc | apply IsS128.drewN | apply IsS128.drew | apply IsS128.set_1 | apply IsS128.set_2) | exact HI0.out), by repeat (first | (with_reducible first | exact HB.out | apply below_alloc | apply pw_below_drewN | apply below_drew1 | refine below_set ?_ (IsS128.ge HI0.out)) | exact HB.out), by repeat (first | (with_reducible first | exact HK.out | apply KeepBut.set_ | apply keep_drewN | apply keep_drew | apply keep_alloc) | exact HK.out)⟩
   ·rw [if_neg c26] at H
    have c26b0 : (t633 == 1) = false := beq_eq_false_iff_ne.mpr c26
    have c26b1 : (t633 != 1) = true := bne_iff_ne.mpr c26
    by_cases c43 : t633 = 2
    ·rw [if_pos c43] at H
     have c43b0 : (t633 == 2) = true := beq_iff_eq.mpr c43
     have c43b1 : (t633 != 2) = false := bne_eq_false_iff_eq.mpr c43
     clear c43
     replace H := Option.bind_eq_some_iff.mp H
     obtain ⟨⟨t650, t651, t652⟩, A440, H⟩ := H
     replace H : (if y630.length < 140737488355328 then (some ((y630 ++ [(t650) % 256]), t651, t652)) else (none)) = some (r1, r2, r3) := H
     have A44 := Aside0.mk A440
     clear A440
     by_cases c45 : y630.length < 140737488355328
     ·rw [if_pos c45] at H
      have LMc45 := Aside0.mk c45
      clear c45
      obtain ⟨y653, hy653⟩ : ∃ y_ : List Int, y_ = (y630 ++ [(t650) % 256]) := ⟨_, rfl⟩
      replace H : (some (y653, t651, t652)) = some (r1, r2, r3) := by first | (rw [hy653]; with_reducible exact H) | (have H2_ := (Option.bind_some _ _).symm.trans H; rw [hy653]; with_reducible exact H2_) | (have H2_ := (Option.bind_some _ _).symm.trans H; with_reducible exact H2_) | with_reducible exact H | (rw [hy653]; exact H) | exact H
      have Ny653 := Aside0.mk hy653
      clear hy653
      simp only [Option.some.injEq, Prod.mk.injEq] at H
      obtain ⟨rfl, rfl, rfl⟩ := H
      go_enter Try.func100, Try.ntmps100
      go_wp2_with (first | ((with_reducible refine gate_dst (N := 7) rfl ?_); refine Kd.R_lit (Kd.int .u8) _ 5 ?hg (N := 7) ?hd (xs := ([] : List Int)) (inner := []) (ok := fun _ => True) (okp := fun _ => True) ?hr ?hp (fun _ hk => hk) trivial (Below.refl _ _) (Nat.le_refl _) (by simp) ?_; (case hd => rfl); (case hg => rfl); (case hr => first | (go_simp; done) | (go_simp; rfl)); (case hp => exact (Reps.none _ _)); intro v628 w46 ho47 hb hg_ hnew_; clear hg_ hnew_; (first | rw [← Ny627.out] at ho47 | (simp only [Int.reduceToNat] at ho47; rw [← Ny627.out] at ho47)); have n0_ := Aside0.mk (Kd.R_lower ho47 (keep_size (w := w) (g := g) (row := none) z2_)); have n1_ := Aside0.mk (IsS128.below z3_ hb); have n2_ := Aside0.mk (KeepBut.trans z2_ (KeepBut.of_below hb g none) (.inl rfl)); have n3_ := Aside0.mk (below_step z4_ hb); clear HI0; clear HK; clear HB; have HO629 := n0_; have HI0 := n1_; have HK := n2_; have HB := n3_; clear n0_ n1_ n2_ n3_; clear hb ho47) | ((with_reducible refine gate_builtin (b := .append) (xs := #[.tmp 7, .tmp 8]) rfl ?_); at_builtin; refine Kd.R_append_rows (Kd.int .u8) w.heap.size rfl (.tmp 7) (.tmp 8) 33 5 (.int .u8 0) 1 rfl Try.underlying33 info5 rfl (by decide) (by omega) v628 y627 l1 _ _ _ (fun _ => True) (fun _ => False) rfl rfl ?aO ?aR (fun _ _ h => h) (fun _ h => h.elim) ?aF (Below.refl _ _) ?aS ?aL ?_; (case aR => exact Kd.C_keep 0 HR1.out z2_ hf1); (case aF => exact (fun _ _ => trivial)); (case aO => exact z12_); (case aS => exact (keep_size (w := w) (g := g) (row := none) z2_)); (case aL => have := LMc3.out; omega); intro v631 w48 ho hb hg hat; rw [← Ny630.out] at ho; have n0_ := Aside0.mk (IsS128.grown z3_ hg (IsS128.own_ne HI0.out HO629.out (by decide))); have n1_ := Aside0.mk (below_weaken z4_ HL.out hb); have n2_ := Aside0.mk (KeepBut.trans z2_ (KeepBut.of_grown hg g) (Kd.R_base2 HO629.out)); have n3_ := Aside0.mk (ho); clear HI0; clear HB; clear HK; clear HO629; have HI0 := n0_; have HB := n1_; have HK := n2_; have HO632 := n3_; clear n0_ n1_ n2_ n3_; clear ho hb hg hat) | ((with_reducible refine gate_callee (f := 96) rfl ?_); refine goesL_ (some 11) rfl rfl Try.func96 (by kernel_rfl) rfl #[.pointer (some ⟨g, 0, none⟩), .int .i64 8] rfl z0_ ?_; (with_reducible refine (spec_l1Below.calls g s0_0 s0_1 s0_2 8 t633 t634 t635 w0 _ ?side1 ?side2 A4.out).mono ?_); (case side1 => repeat (first | (with_reducible first | exact HI0.out | apply IsS128.alloc | apply IsS128.drewN | apply IsS128.drew | apply IsS128.set_1 | apply IsS128.set_2) | exact HI0.out)); (case side2 => repeat (first | (with_reducible first | exact HB.out | apply below_alloc | apply pw_below_drewN | apply below_drew1 | refine below_set ?_ (IsS128.ge HI0.out)) | exact HB.out)); rintro e w49 ⟨rfl, hi, hb, hk⟩; refine ⟨_, rfl, ?_⟩; have n0_ := Aside0.mk (Kd.R_mono (Kd.R_keep (IsS128.apart (show IsS128 w0 _ g s0_0 s0_1 s0_2 from by repeat (first | (with_reducible first | exact HI0.out | apply IsS128.alloc | apply IsS128.drewN | apply IsS128.drew | apply IsS128.set_1 | apply IsS128.set_2) | exact HI0.out)) z8_ (by decide)) hk (fun _ h => h.2)) (fun _ h => h.1)); have n1_ := Aside0.mk (KeepBut.trans z2_ hk (.inl rfl)); have n2_ := Aside0.mk (hb); have n3_ := Aside0.mk (hi); clear HO632; clear HK; clear HB; clear HI0; have HO632 := n0_; have HK := n1_; have HB := n2_; have HI0 := n3_; clear n0_ n1_ n2_ n3_; (try clear hb); (try clear hb2); (try clear hk); (try clear hi)) | ((with_reducible refine gate_callee (f := 116) rfl ?_); refine goesL_ (some 48) rfl rfl Try.func116 (by kernel_rfl) rfl #[.pointer (some ⟨g, 0, none⟩)] rfl z0_ ?_; (with_reducible refine (spec_l1Byte.calls g s0_0 t634 t635 t650 t651 t652 w0 _ ?side1 ?side2 A44.out).mono ?_); (case side1 => repeat (first | (with_reducible first | exact HI0.out | apply IsS128.alloc | apply IsS128.drewN | apply IsS128.drew | apply IsS128.set_1 | apply IsS128.set_2) | exact HI0.out)); (case side2 => repeat (first | (with_reducible first | exact HB.out | apply below_alloc | apply pw_below_drewN | apply below_drew1 | refine below_set ?_ (IsS128.ge HI0.out)) | exact HB.out)); rintro e w50 ⟨rfl, hi, hb, hk⟩; refine ⟨_, rfl, ?_⟩; have n0_ := Aside0.mk (Kd.R_mono (Kd.R_keep (IsS128.apart (show IsS128 w0 _ g s0_0 t634 t635 from by repeat (first | (with_reducible first | exact HI0.out | apply IsS128.alloc | apply IsS128.drewN | apply IsS128.drew | apply IsS128.set_1 | apply IsS128.set_2) | exact HI0.out)) z8_ (by decide)) hk (fun _ h => h.2)) (fun _ h => h.1)); have n1_ := Aside0.mk (KeepBut.trans z2_ hk (.inl rfl)); have n2_ := Aside0.mk (hb); have n3_ := Aside0.mk (hi); clear HO632; clear HK; clear HB; clear HI0; have HO632 := n0_; have HK := n1_; have HB := n2_; have HI0 := n3_; clear n0_ n1_ n2_ n3_; (try clear hb); (try clear hb2); (try clear hk); (try clear hi)) | ((with_reducible refine gate_builtin (b := .append) (xs := #[.tmp 46, .tmp 50]) rfl ?_); at_builtin; refine Kd.R_append (Kd.int .u8) w.heap.size rfl (.tmp 46) (.tmp 50) 33 5 (.int .u8 0) 1 rfl Try.underlying33 info5 rfl (by decide) (by omega) v631 y630 ((t650) % 256) [.int .u8 ((t650) % 256)] (fun _ => True) (fun _ => False) rfl rfl ?aP (fun _ hk => hk.elim) ?aF ?aO (Below.refl _ _) ?aS ?aL ?_; (case aP => exact rfl); (case aF => exact (fun _ _ => trivial)); (case aO => exact z8_); (case aS => exact (keep_size (w := w) (g := g) (row := none) z2_)); (case aL => have := LMc45.out; omega); intro v654 w51 ho hb hg hat; rw [← Ny653.out] at ho; have n0_ := Aside0.mk (IsS128.grown z3_ hg (IsS128.own_ne HI0.out HO632.out (by decide))); have n1_ := Aside0.mk (below_weaken z4_ HL.out hb); have n2_ := Aside0.mk (KeepBut.trans z2_ (KeepBut.of_grown hg g) (Kd.R_base2 HO632.out)); have n3_ := Aside0.mk (ho); clear HI0; clear HB; clear HK; clear HO632; have HI0 := n0_; have HB := n1_; have HK := n2_; have HO655 := n3_; clear n0_ n1_ n2_ n3_; clear ho hb hg hat))
      go_ret
      exact ⟨_, by first | rfl | (simp [errW_none, errW_some] <;> rfl) | (simp [*, errW_none, errW_some] <;> rfl), by (with_reducible repeat (first | apply Kd.R_alloc | apply Kd.R_drewN | apply Kd.R_drew)); exact HO655.out, by repeat (first | (with_reducible first | exact HI0.out | apply IsS128.alloc | apply IsS128.drewN | apply IsS128.drew | apply IsS128.set_1 | apply IsS128.set_2) | exact HI0.out), by repeat (first | (with_reducible first | exact HB.out | apply below_alloc | apply pw_below_drewN | apply below_drew1 | refine below_set ?_ (IsS128.ge HI0.out)) | exact HB.out), by repeat (first | (with_reducible first | exact HK.out | apply KeepBut.set_ | apply keep_drewN | apply keep_drew | apply keep_alloc) | exact HK.out)⟩
     ·rw [if_neg c45] at H
      exact absurd H (by simp)
    ·rw [if_neg c43] at H
     have c43b0 : (t633 == 2) = false := beq_eq_false_iff_ne.mpr c43
     have c43b1 : (t633 != 2) = true := bne_iff_ne.mpr c43
     simp only [Option.some.injEq, Prod.mk.injEq] at H
     obtain ⟨rfl, rfl, rfl⟩ := H
     go_enter Try.func100, Try.ntmps100
     go_wp2_with (first | ((with_reducible refine gate_dst (N := 7) rfl ?_); refine Kd.R_lit (Kd.int .u8) _ 5 ?hg (N := 7) ?hd (xs := ([] : List Int)) (inner := []) (ok := fun _ => True) (okp := fun _ => True) ?hr ?hp (fun _ hk => hk) trivial (Below.refl _ _) (Nat.le_refl _) (by simp) ?_; (case hd => rfl); (case hg => rfl); (case hr => first | (go_simp; done) | (go_simp; rfl)); (case hp => exact (Reps.none _ _)); intro v628 w52 ho53 hb hg_ hnew_; clear hg_ hnew_; (first | rw [← Ny627.out] at ho53 | (simp only [Int.reduceToNat] at ho53; rw [← Ny627.out] at ho53)); have n0_ := Aside0.mk (Kd.R_lower ho53 (keep_size (w := w) (g := g) (row := none) z2_)); have n1_ := Aside0.mk (IsS128.below z3_ hb); have n2_ := Aside0.mk (KeepBut.trans z2_ (KeepBut.of_below hb g none) (.inl rfl)); have n3_ := Aside0.mk (below_step z4_ hb); clear HI0; clear HK; clear HB; have HO629 := n0_; have HI0 := n1_; have HK := n2_; have HB := n3_; clear n0_ n1_ n2_ n3_; clear hb ho53) | ((with_reducible refine gate_builtin (b := .append) (xs := #[.tmp 7, .tmp 8]) rfl ?_); at_builtin; refine Kd.R_append_rows (Kd.int .u8) w.heap.size rfl (.tmp 7) (.tmp 8) 33 5 (.int .u8 0) 1 rfl Try.underlying33 info5 rfl (by decide) (by omega) v628 y627 l1 _ _ _ (fun _ => True) (fun _ => False) rfl rfl ?aO ?aR (fun _ _ h => h) (fun _ h => h.elim) ?aF (Below.refl _ _) ?aS ?aL ?_; (case aR => exact Kd.C_keep 0 HR1.out z2_ hf1); (case aF => exact (fun _ _ => trivial)); (case aO => exact z12_); (case aS => exact (keep_size (w := w) (g := g) (row := none) z2_)); (case aL => have := LMc3.out; omega); intro v631 w54 ho hb hg hat; rw [← Ny630.out] at ho; have n0_ := Aside0.mk (IsS128.grown z3_ hg (IsS128.own_ne HI0.out HO629.out (by decide))); have n1_ := Aside0.mk (below_weaken z4_ HL.out hb); have n2_ := Aside0.mk (KeepBut.trans z2_ (KeepBut.of_grown hg g) (Kd.R_base2 HO629.out)); have n3_ := Aside0.mk (ho); clear HI0; clear HB; clear HK; clear HO629; have HI0 := n0_; have HB := n1_; have HK := n2_; have HO632 := n3_; clear n0_ n1_ n2_ n3_; clear ho hb hg hat) | ((with_reducible refine gate_callee (f := 96) rfl ?_); refine goesL_ (some 11) rfl rfl Try.func96 (by kernel_rfl) rfl #[.pointer (some ⟨g, 0, none⟩), .int .i64 8] rfl z0_ ?_; (with_reducible refine (spec_l1Below.calls g s0_0 s0_1 s0_2 8 t633 t634 t635 w0 _ ?side1 ?side2 A4.out).mono ?_); (case side1 => repeat (first | (with_reducible first | exact HI0.out | apply IsS128.alloc | apply IsS128.drewN | apply IsS128.drew | apply IsS128.set_1 | apply IsS128.set_2) | exact HI0.out)); (case side2 => repeat (first | (with_reducible first | exact HB.out | apply below_alloc | apply pw_below_drewN | apply below_drew1 | refine below_set ?_ (IsS128.ge HI0.out)) | exact HB.out)); rintro e w55 ⟨rfl, hi, hb, hk⟩; refine ⟨_, rfl, ?_⟩; have n0_ := Aside0.mk (Kd.R_mono (Kd.R_keep (IsS128.apart (show IsS128 w0 _ g s0_0 s0_1 s0_2 from by repeat (first | (with_reducible first | exact HI0.out | apply IsS128.alloc | apply IsS128.drewN | apply IsS128.drew | apply IsS128.set_1 | apply IsS128.set_2) | exact HI0.out)) z8_ (by decide)) hk (fun _ h => h.2)) (fun _ h => h.1)); have n1_ := Aside0.mk (KeepBut.trans z2_ hk (.inl rfl)); have n2_ := Aside0.mk (hb); have n3_ := Aside0.mk (hi); clear HO632; clear HK; clear HB; clear HI0; have HO632 := n0_; have HK := n1_; have HB := n2_; have HI0 := n3_; clear n0_ n1_ n2_ n3_; (try clear hb); (try clear hb2); (try clear hk); (try clear hi)))
     go_ret
     exact ⟨_, by first | rfl | (simp [errW_none, errW_some] <;> rfl) | (simp [*, errW_none, errW_some] <;> rfl), by (with_reducible repeat (first | apply Kd.R_alloc | apply Kd.R_drewN | apply Kd.R_drew)); exact HO632.out, by repeat (first | (with_reducible first | exact HI0.out | apply IsS128.alloc | apply IsS128.drewN | apply IsS128.drew | apply IsS128.set_1 | apply IsS128.set_2) | exact HI0.out), by repeat (first | (with_reducible first | exact HB.out | apply below_alloc | apply pw_below_drewN | apply below_drew1 | refine below_set ?_ (IsS128.ge HI0.out)) | exact HB.out), by repeat (first | (with_reducible first | exact HK.out | apply KeepBut.set_ | apply keep_drewN | apply keep_drew | apply keep_alloc) | exact HK.out)⟩
 ·rw [if_neg c3] at H
  exact absurd H (by simp)

/-! ### spec_DrawGetHead: function 50 -/
set_option maxHeartbeats 8000000 in
set_option maxRecDepth 100000 in
theorem spec_DrawGetHead.calls (k : Nat) (A0 : Option Addr) (c0 : Nat) (l0 : List Int) (r : List Int) (w : World) (hr0 : Kd.C (Kd.int .u8) w A0 l0.length l0) (hc0 : l0.length ≤ c0) (h : spec_DrawGetHead.f k l0 = some r) :
  Calls Try.prog 50 #[.slice A0 l0.length c0] w fun e w' => ∃ v0_ : Value, e = .returned (v0_) ∧ Kd.R (Kd.int .u8) 5 w' w.heap.size (fun _ => True) v0_ r ∧ Below w.heap.size w w' := by
 have HR0 := Aside0.mk hr0
 have HC0 := Aside0.mk hc0
 clear hr0 hc0
 have HB := Aside0.mk (Below.refl w.heap.size w)
 have H : ((spec_l1New.f k l0).bind fun bt656 => ((spec_l1Below.f bt656.1 bt656.2.1 bt656.2.2 5).bind fun bt660 => ((spec_l1Below.f bt656.1 bt660.2.1 bt660.2.2 19).bind fun bt663 => ((spec_HeadOf.f k (wrap64 (1 + bt660.1)) bt663.1).bind fun t666 => ((spec_l1Once.f bt656.1 bt663.2.1 bt663.2.2 5).bind fun bt669 => (if bt669.1 = true then (if 4 ≤ (t666.length : Int) then ((some (t666.take (4 : Int).toNat : List Int)).bind fun y672 => ((spec_l1Below.f bt656.1 bt669.2.1 bt669.2.2 4).bind fun bt675 => ((spec_l1Int.f bt656.1 bt675.2.1 bt675.2.2 (([0, 19, 255] : List Int))).bind fun bt681 => (if 0 ≤ bt675.1 then (if bt675.1 < (y672.length : Int) then ((some (y672.set (bt675.1 : Int).toNat ((bt681.1) % 256) : List Int)).bind fun y684 => ((spec_Sum.f k y684).bind fun t685 => ((spec_PutWord.f y684 t685).bind fun t686 => (some t686)))) else (none)) else (none))))) else (none)) else ((spec_l1Bend.f bt656.1 bt669.2.1 bt669.2.2 t666).bind fun bt689 => (some bt689.1)))))))) = some r := h
 clear h
 replace H := Option.bind_eq_some_iff.mp H
 obtain ⟨⟨t656, t657, t658⟩, A20, H⟩ := H
 replace H : ((spec_l1Below.f t656 t657 t658 5).bind fun bt660 => ((spec_l1Below.f t656 bt660.2.1 bt660.2.2 19).bind fun bt663 => ((spec_HeadOf.f k (wrap64 (1 + bt660.1)) bt663.1).bind fun t666 => ((spec_l1Once.f t656 bt663.2.1 bt663.2.2 5).bind fun bt669 => (if bt669.1 = true then (if 4 ≤ (t666.length : Int) then ((some (t666.take (4 : Int).toNat : List Int)).bind fun y672 => ((spec_l1Below.f t656 bt669.2.1 bt669.2.2 4).bind fun bt675 => ((spec_l1Int.f t656 bt675.2.1 bt675.2.2 (([0, 19, 255] : List Int))).bind fun bt681 => (if 0 ≤ bt675.1 then (if bt675.1 < (y672.length : Int) then ((some (y672.set (bt675.1 : Int).toNat ((bt681.1) % 256) : List Int)).bind fun y684 => ((spec_Sum.f k y684).bind fun t685 => ((spec_PutWord.f y684 t685).bind fun t686 => (some t686)))) else (none)) else (none))))) else (none)) else ((spec_l1Bend.f t656 bt669.2.1 bt669.2.2 t666).bind fun bt689 => (some bt689.1))))))) = some r := H
 have A2 := Aside0.mk A20
 clear A20
 replace H := Option.bind_eq_some_iff.mp H
 obtain ⟨⟨t660, t661, t662⟩, A30, H⟩ := H
 replace H : ((spec_l1Below.f t656 t661 t662 19).bind fun bt663 => ((spec_HeadOf.f k (wrap64 (1 + t660)) bt663.1).bind fun t666 => ((spec_l1Once.f t656 bt663.2.1 bt663.2.2 5).bind fun bt669 => (if bt669.1 = true then (if 4 ≤ (t666.length : Int) then ((some (t666.take (4 : Int).toNat : List Int)).bind fun y672 => ((spec_l1Below.f t656 bt669.2.1 bt669.2.2 4).bind fun bt675 => ((spec_l1Int.f t656 bt675.2.1 bt675.2.2 (([0, 19, 255] : List Int))).bind fun bt681 => (if 0 ≤ bt675.1 then (if bt675.1 < (y672.length : Int) then ((some (y672.set (bt675.1 : Int).toNat ((bt681.1) % 256) : List Int)).bind fun y684 => ((spec_Sum.f k y684).bind fun t685 => ((spec_PutWord.f y684 t685).bind fun t686 => (some t686)))) else (none)) else (none))))) else (none)) else ((spec_l1Bend.f t656 bt669.2.1 bt669.2.2 t666).bind fun bt689 => (some bt689.1)))))) = some r := H
 have A3 := Aside0.mk A30
 clear A30
 replace H := Option.bind_eq_some_iff.mp H
 obtain ⟨⟨t663, t664, t665⟩, A40, H⟩ := H
 replace H : ((spec_HeadOf.f k (wrap64 (1 + t660)) t663).bind fun t666 => ((spec_l1Once.f t656 t664 t665 5).bind fun bt669 => (if bt669.1 = true then (if 4 ≤ (t666.length : Int) then ((some (t666.take (4 : Int).toNat : List Int)).bind fun y672 => ((spec_l1Below.f t656 bt669.2.1 bt669.2.2 4).bind fun bt675 => ((spec_l1Int.f t656 bt675.2.1 bt675.2.2 (([0, 19, 255] : List Int))).bind fun bt681 => (if 0 ≤ bt675.1 then (if bt675.1 < (y672.length : Int) then ((some (y672.set (bt675.1 : Int).toNat ((bt681.1) % 256) : List Int)).bind fun y684 => ((spec_Sum.f k y684).bind fun t685 => ((spec_PutWord.f y684 t685).bind fun t686 => (some t686)))) else (none)) else (none))))) else (none)) else ((spec_l1Bend.f t656 bt669.2.1 bt669.2.2 t666).bind fun bt689 => (some bt689.1))))) = some r := H
 have A4 := Aside0.mk A40
 clear A40
 replace H := Option.bind_eq_some_iff.mp H
 obtain ⟨t666, A50, H⟩ := H
 replace H : ((spec_l1Once.f t656 t664 t665 5).bind fun bt669 => (if bt669.1 = true then (if 4 ≤ (t666.length : Int) then ((some (t666.take (4 : Int).toNat : List Int)).bind fun y672 => ((spec_l1Below.f t656 bt669.2.1 bt669.2.2 4).bind fun bt675 => ((spec_l1Int.f t656 bt675.2.1 bt675.2.2 (([0, 19, 255] : List Int))).bind fun bt681 => (if 0 ≤ bt675.1 then (if bt675.1 < (y672.length : Int) then ((some (y672.set (bt675.1 : Int).toNat ((bt681.1) % 256) : List Int)).bind fun y684 => ((spec_Sum.f k y684).bind fun t685 => ((spec_PutWord.f y684 t685).bind fun t686 => (some t686)))) else (none)) else (none))))) else (none)) else ((spec_l1Bend.f t656 bt669.2.1 bt669.2.2 t666).bind fun bt689 => (some bt689.1)))) = some r := H
 have A5 := Aside0.mk A50
 clear A50
 replace H := Option.bind_eq_some_iff.mp H
 obtain ⟨⟨t669, t670, t671⟩, A60, H⟩ := H
 replace H : (if t669 = true then (if 4 ≤ (t666.length : Int) then ((some (t666.take (4 : Int).toNat : List Int)).bind fun y672 => ((spec_l1Below.f t656 t670 t671 4).bind fun bt675 => ((spec_l1Int.f t656 bt675.2.1 bt675.2.2 (([0, 19, 255] : List Int))).bind fun bt681 => (if 0 ≤ bt675.1 then (if bt675.1 < (y672.length : Int) then ((some (y672.set (bt675.1 : Int).toNat ((bt681.1) % 256) : List Int)).bind fun y684 => ((spec_Sum.f k y684).bind fun t685 => ((spec_PutWord.f y684 t685).bind fun t686 => (some t686)))) else (none)) else (none))))) else (none)) else ((spec_l1Bend.f t656 t670 t671 t666).bind fun bt689 => (some bt689.1))) = some r := H
 have A6 := Aside0.mk A60
 clear A60
 by_cases c7 : t669 = true
 ·subst c7
  have H1 : (if 4 ≤ (t666.length : Int) then ((some (t666.take (4 : Int).toNat : List Int)).bind fun y672 => ((spec_l1Below.f t656 t670 t671 4).bind fun bt675 => ((spec_l1Int.f t656 bt675.2.1 bt675.2.2 (([0, 19, 255] : List Int))).bind fun bt681 => (if 0 ≤ bt675.1 then (if bt675.1 < (y672.length : Int) then ((some (y672.set (bt675.1 : Int).toNat ((bt681.1) % 256) : List Int)).bind fun y684 => ((spec_Sum.f k y684).bind fun t685 => ((spec_PutWord.f y684 t685).bind fun t686 => (some t686)))) else (none)) else (none))))) else (none)) = some r := by rw [if_pos rfl] at H; exact H
  clear H
  have H := H1
  clear H1
  by_cases c8 : 4 ≤ (t666.length : Int)
  ·rw [if_pos c8] at H
   have c8b0 := eq_true c8
   have c8b1 : decide (4 ≤ (t666.length : Int)) = true := decide_eq_true c8
   clear c8
   obtain ⟨y672, hy672⟩ : ∃ y_ : List Int, y_ = (t666.take (4 : Int).toNat) := ⟨_, rfl⟩
   replace H : ((spec_l1Below.f t656 t670 t671 4).bind fun bt675 => ((spec_l1Int.f t656 bt675.2.1 bt675.2.2 (([0, 19, 255] : List Int))).bind fun bt681 => (if 0 ≤ bt675.1 then (if bt675.1 < (y672.length : Int) then ((some (y672.set (bt675.1 : Int).toNat ((bt681.1) % 256) : List Int)).bind fun y684 => ((spec_Sum.f k y684).bind fun t685 => ((spec_PutWord.f y684 t685).bind fun t686 => (some t686)))) else (none)) else (none)))) = some r := by first | (rw [hy672]; with_reducible exact H) | (have H2_ := (Option.bind_some _ _).symm.trans H; rw [hy672]; with_reducible exact H2_) | (have H2_ := (Option.bind_some _ _).symm.trans H; with_reducible exact H2_) | with_reducible exact H | (rw [hy672]; exact H) | exact H
   have Ny672 := Aside0.mk hy672
   clear hy672
   replace H := Option.bind_eq_some_iff.mp H
   obtain ⟨⟨t675, t676, t677⟩, A90, H⟩ := H
   replace H : ((spec_l1Int.f t656 t676 t677 (([0, 19, 255] : List Int))).bind fun bt681 => (if 0 ≤ t675 then (if t675 < (y672.length : Int) then ((some (y672.set (t675 : Int).toNat ((bt681.1) % 256) : List Int)).bind fun y684 => ((spec_Sum.f k y684).bind fun t685 => ((spec_PutWord.f y684 t685).bind fun t686 => (some t686)))) else (none)) else (none))) = some r := H
   have A9 := Aside0.mk A90
   clear A90
   obtain ⟨y678, hy678⟩ : ∃ y_ : List Int, y_ = (([0, 19, 255] : List Int)) := ⟨_, rfl⟩
   replace H : ((spec_l1Int.f t656 t676 t677 y678).bind fun bt681 => (if 0 ≤ t675 then (if t675 < (y672.length : Int) then ((some (y672.set (t675 : Int).toNat ((bt681.1) % 256) : List Int)).bind fun y684 => ((spec_Sum.f k y684).bind fun t685 => ((spec_PutWord.f y684 t685).bind fun t686 => (some t686)))) else (none)) else (none))) = some r := by first | (rw [hy678]; with_reducible exact H) | (have H2_ := (Option.bind_some _ _).symm.trans H; rw [hy678]; with_reducible exact H2_) | (have H2_ := (Option.bind_some _ _).symm.trans H; with_reducible exact H2_) | with_reducible exact H | (rw [hy678]; exact H) | exact H
   have Ny678 := Aside0.mk hy678
   clear hy678
   replace H := Option.bind_eq_some_iff.mp H
   obtain ⟨⟨t681, t682, t683⟩, A100, H⟩ := H
   replace H : (if 0 ≤ t675 then (if t675 < (y672.length : Int) then ((some (y672.set (t675 : Int).toNat ((t681) % 256) : List Int)).bind fun y684 => ((spec_Sum.f k y684).bind fun t685 => ((spec_PutWord.f y684 t685).bind fun t686 => (some t686)))) else (none)) else (none)) = some r := H
   have A10 := Aside0.mk A100
   clear A100
   by_cases c11 : 0 ≤ t675
   ·rw [if_pos c11] at H
    have c11b0 : decide (0 ≤ t675) = true := decide_eq_true c11
    clear c11
    by_cases c12 : t675 < (y672.length : Int)
    ·rw [if_pos c12] at H
     have c12b0 : decide (t675 < (y672.length : Int)) = true := decide_eq_true c12
     clear c12
     obtain ⟨y684, hy684⟩ : ∃ y_ : List Int, y_ = (y672.set (t675 : Int).toNat ((t681) % 256)) := ⟨_, rfl⟩
     replace H : ((spec_Sum.f k y684).bind fun t685 => ((spec_PutWord.f y684 t685).bind fun t686 => (some t686))) = some r := by first | (rw [hy684]; with_reducible exact H) | (have H2_ := (Option.bind_some _ _).symm.trans H; rw [hy684]; with_reducible exact H2_) | (have H2_ := (Option.bind_some _ _).symm.trans H; with_reducible exact H2_) | with_reducible exact H | (rw [hy684]; exact H) | exact H
     have Ny684 := Aside0.mk hy684
     clear hy684
     replace H := Option.bind_eq_some_iff.mp H
     obtain ⟨t685, A140, H⟩ := H
     replace H : ((spec_PutWord.f y684 t685).bind fun t686 => (some t686)) = some r := H
     have A14 := Aside0.mk A140
     clear A140
     replace H := Option.bind_eq_some_iff.mp H
     obtain ⟨t686, A150, H⟩ := H
     replace H : (some t686) = some r := H
     have A15 := Aside0.mk A150
     clear A150
     obtain rfl := Option.some.inj H
     go_enter Try.func50, Try.ntmps50
     go_wp2_with (first | ((with_reducible refine gate_callee (f := 92) rfl ?_); refine goesL_ (some 7) rfl rfl Try.func92 (by kernel_rfl) rfl #[.slice A0 l0.length c0] rfl z0_ ?_; (with_reducible refine (spec_l1New.calls k _ _ l0 t656 t657 t658 w _ ?side1 ?side2 ?side3 A2.out).mono ?_); (case side1 => repeat (first | (with_reducible first | exact HB.out | apply below_alloc | apply pw_below_drewN | apply below_drew1) | exact HB.out)); (case side2 => exact HR0.out); (case side3 => exact HC0.out); rintro e w16 ⟨g659, rfl, hi, hb, hb2⟩; refine ⟨_, rfl, ?_⟩; have n0_ := Aside0.mk (hb); have n1_ := Aside0.mk (hi); clear HB; have HB := n0_; have HI659 := n1_; clear n0_ n1_; (try clear hb); (try clear hb2); (try clear hk); (try clear hi)) | ((with_reducible refine gate_callee (f := 96) rfl ?_); refine goesL_ (some 9) rfl rfl Try.func96 (by kernel_rfl) rfl #[.pointer (some ⟨g659, 0, none⟩), .int .i64 5] rfl z0_ ?_; (with_reducible refine (spec_l1Below.calls g659 t656 t657 t658 5 t660 t661 t662 w _ ?side1 ?side2 A3.out).mono ?_); (case side1 => repeat (first | (with_reducible first | exact HI659.out | apply IsS128.alloc | apply IsS128.drewN | apply IsS128.drew | apply IsS128.set_1 | apply IsS128.set_2) | exact HI659.out)); (case side2 => repeat (first | (with_reducible first | exact HB.out | apply below_alloc | apply pw_below_drewN | apply below_drew1 | refine below_set ?_ (IsS128.ge HI659.out)) | exact HB.out)); rintro e w17 ⟨rfl, hi, hb, hk⟩; refine ⟨_, rfl, ?_⟩; have n0_ := Aside0.mk (hb); have n1_ := Aside0.mk (hi); clear HB; clear HI659; have HB := n0_; have HI659 := n1_; clear n0_ n1_; (try clear hb); (try clear hb2); (try clear hk); (try clear hi)) | ((with_reducible refine gate_callee (f := 96) rfl ?_); refine goesL_ (some 12) rfl rfl Try.func96 (by kernel_rfl) rfl #[.pointer (some ⟨g659, 0, none⟩), .int .i64 19] rfl z0_ ?_; (with_reducible refine (spec_l1Below.calls g659 t656 t661 t662 19 t663 t664 t665 w _ ?side1 ?side2 A4.out).mono ?_); (case side1 => repeat (first | (with_reducible first | exact HI659.out | apply IsS128.alloc | apply IsS128.drewN | apply IsS128.drew | apply IsS128.set_1 | apply IsS128.set_2) | exact HI659.out)); (case side2 => repeat (first | (with_reducible first | exact HB.out | apply below_alloc | apply pw_below_drewN | apply below_drew1 | refine below_set ?_ (IsS128.ge HI659.out)) | exact HB.out)); rintro e w18 ⟨rfl, hi, hb, hk⟩; refine ⟨_, rfl, ?_⟩; have n0_ := Aside0.mk (hb); have n1_ := Aside0.mk (hi); clear HB; clear HI659; have HB := n0_; have HI659 := n1_; clear n0_ n1_; (try clear hb); (try clear hb2); (try clear hk); (try clear hi)) | ((with_reducible refine gate_callee (f := 73) rfl ?_); refine goesL_ (some 13) rfl rfl Try.func73 (by kernel_rfl) rfl #[.int .i64 (wrap64 (1 + t660)), .int .i64 t663] rfl z0_ ?_; (with_reducible refine (spec_HeadOf.calls k (wrap64 (1 + t660)) t663 t666 _ A5.out).mono ?_); rintro e w19 ⟨v667, rfl, ho0, hb⟩; refine ⟨_, rfl, ?_⟩; have n0_ := Aside0.mk (Kd.R_lower ho0 (below_size z6_)); have n1_ := Aside0.mk (IsS128.below z9_ hb); have n2_ := Aside0.mk (below_step z6_ hb); clear HI659; clear HB; have HO668 := n0_; have HI659 := n1_; have HB := n2_; clear n0_ n1_ n2_; (try clear hb); (try clear hb2); (try clear hk); (try clear hi); (try clear ho0)) | ((with_reducible refine gate_callee (f := 97) rfl ?_); refine goesL_ (some 15) rfl rfl Try.func97 (by kernel_rfl) rfl #[.pointer (some ⟨g659, 0, none⟩), .int .i64 5] rfl z0_ ?_; (with_reducible refine (spec_l1Once.calls g659 t656 t664 t665 5 true t670 t671 w _ ?side1 ?side2 A6.out).mono ?_); (case side1 => repeat (first | (with_reducible first | exact HI659.out | apply IsS128.alloc | apply IsS128.drewN | apply IsS128.drew | apply IsS128.set_1 | apply IsS128.set_2) | exact HI659.out)); (case side2 => repeat (first | (with_reducible first | exact HB.out | apply below_alloc | apply pw_below_drewN | apply below_drew1 | refine below_set ?_ (IsS128.ge HI659.out)) | exact HB.out)); rintro e w20 ⟨rfl, hi, hb, hk⟩; refine ⟨_, rfl, ?_⟩; have n0_ := Aside0.mk (Kd.R_mono (Kd.R_keep (IsS128.apart (show IsS128 w _ g659 t656 t664 t665 from by repeat (first | (with_reducible first | exact HI659.out | apply IsS128.alloc | apply IsS128.drewN | apply IsS128.drew | apply IsS128.set_1 | apply IsS128.set_2) | exact HI659.out)) z20_ (by decide)) hk (fun _ h => h.2)) (fun _ h => h.1)); have n1_ := Aside0.mk (hb); have n2_ := Aside0.mk (hi); clear HO668; clear HB; clear HI659; have HO668 := n0_; have HB := n1_; have HI659 := n2_; clear n0_ n1_ n2_; (try clear hb); (try clear hb2); (try clear hk); (try clear hi); obtain ⟨Ao21, co21, eo21⟩ := Kd.R_slice HO668.out; subst eo21; have q22 : (4 : Int) ≤ ((t666.length : Int) : Int) := of_decide_eq_true z5_; obtain ⟨i022, hi022, _, hsz22, _⟩ := info_parts info5; have hcut22 := cut_to (P := Try.prog) 33 5 .i64 Try.underlying33 hi022 Ao21 t666.length co21 4 (by omega) q22 (Kd.R_reads' HO668.out).2.1; have hr22 := Kd.R_take (m := (4 : Int).toNat) HO668.out (by omega); have hy22 : y672.length = (4 : Int).toNat := (by rw [Ny672.out, List.length_take]; omega); rw [← Ny672.out] at hr22; rw [← hy22] at hr22 hcut22; clear hy22 hi022 hsz22 HO668; have HO674 := Aside0.mk hr22; clear hr22; replace q22 := eq_true q22) | ((with_reducible refine gate_callee (f := 96) rfl ?_); refine goesL_ (some 20) rfl rfl Try.func96 (by kernel_rfl) rfl #[.pointer (some ⟨g659, 0, none⟩), .int .i64 4] rfl z0_ ?_; (with_reducible refine (spec_l1Below.calls g659 t656 t670 t671 4 t675 t676 t677 w _ ?side1 ?side2 A9.out).mono ?_); (case side1 => repeat (first | (with_reducible first | exact HI659.out | apply IsS128.alloc | apply IsS128.drewN | apply IsS128.drew | apply IsS128.set_1 | apply IsS128.set_2) | exact HI659.out)); (case side2 => repeat (first | (with_reducible first | exact HB.out | apply below_alloc | apply pw_below_drewN | apply below_drew1 | refine below_set ?_ (IsS128.ge HI659.out)) | exact HB.out)); rintro e w23 ⟨rfl, hi, hb, hk⟩; refine ⟨_, rfl, ?_⟩; have n0_ := Aside0.mk (Kd.R_mono (Kd.R_keep (IsS128.apart (show IsS128 w _ g659 t656 t670 t671 from by repeat (first | (with_reducible first | exact HI659.out | apply IsS128.alloc | apply IsS128.drewN | apply IsS128.drew | apply IsS128.set_1 | apply IsS128.set_2) | exact HI659.out)) z15_ (by decide)) hk (fun _ h => h.2)) (fun _ h => h.1)); have n1_ := Aside0.mk (hb); have n2_ := Aside0.mk (hi); clear HO674; clear HB; clear HI659; have HO674 := n0_; have HB := n1_; have HI659 := n2_; clear n0_ n1_ n2_; (try clear hb); (try clear hb2); (try clear hk); (try clear hi)) | ((with_reducible refine gate_dst (N := 22) rfl ?_); refine Kd.R_lit (Kd.int .i64) _ 3 ?hg (N := 22) ?hd (xs := ([0, 19, 255] : List Int)) (inner := [.int .i64 0, .int .i64 19, .int .i64 255]) (ok := fun _ => True) (okp := fun _ => True) ?hr ?hp (fun _ hk => hk) trivial (Below.refl _ _) (Nat.le_refl _) (by simp) ?_; (case hd => rfl); (case hg => rfl); (case hr => first | (go_simp; done) | (go_simp; rfl)); (case hp => exact (Reps.one (show Kd.M (Kd.int .i64) _ _ _ 0 [.int .i64 0] from rfl) (Reps.one (show Kd.M (Kd.int .i64) _ _ _ 19 [.int .i64 19] from rfl) (Reps.one (show Kd.M (Kd.int .i64) _ _ _ 255 [.int .i64 255] from rfl) (Reps.none _ _))))); intro v679 w24 ho25 hb hg_ hnew_; clear hg_ hnew_; (first | rw [← Ny678.out] at ho25 | (simp only [Int.reduceToNat] at ho25; rw [← Ny678.out] at ho25)); have n0_ := Aside0.mk (Kd.R_below z15_ hb); have n1_ := Aside0.mk (Kd.R_lower ho25 (below_size z6_)); have n2_ := Aside0.mk (IsS128.below z9_ hb); have n3_ := Aside0.mk (below_step z6_ hb); clear HO674; clear HI659; clear HB; have HO674 := n0_; have HO680 := n1_; have HI659 := n2_; have HB := n3_; clear n0_ n1_ n2_ n3_; clear hb ho25; obtain ⟨Ao26, co26, eo26⟩ := Kd.R_slice HO680.out; subst eo26) | ((with_reducible refine gate_callee (f := 93) rfl ?_); refine goesL_ (some 23) rfl rfl Try.func93 (by kernel_rfl) rfl #[.pointer (some ⟨g659, 0, none⟩), .slice Ao26 y678.length co26] rfl z0_ ?_; (with_reducible refine (spec_l1Int.calls g659 t656 t676 t677 _ _ y678 t681 t682 t683 w _ ?side1 ?side2 ?side3 ?side4 ?side5 A10.out).mono ?_); (case side1 => repeat (first | (with_reducible first | exact HI659.out | apply IsS128.alloc | apply IsS128.drewN | apply IsS128.drew | apply IsS128.set_1 | apply IsS128.set_2) | exact HI659.out)); (case side2 => repeat (first | (with_reducible first | exact HB.out | apply below_alloc | apply pw_below_drewN | apply below_drew1 | refine below_set ?_ (IsS128.ge HI659.out)) | exact HB.out)); (case side3 => repeat (first | exact (Kd.R_reads' HO680.out).2.2 | (with_reducible refine Kd.C_alloc ?_ _) | (with_reducible refine Kd.C_drewN ?_ _) | (with_reducible refine Kd.C_drew ?_))); (case side4 => exact (Kd.R_reads' HO680.out).2.1); (case side5 => exact far_slice (IsS128.own_ne HI659.out HO680.out (by decide))); rintro e w27 ⟨rfl, hi, hb, hk⟩; refine ⟨_, rfl, ?_⟩; have n0_ := Aside0.mk (Kd.R_mono (Kd.R_keep (IsS128.apart (show IsS128 w _ g659 t656 t676 t677 from by repeat (first | (with_reducible first | exact HI659.out | apply IsS128.alloc | apply IsS128.drewN | apply IsS128.drew | apply IsS128.set_1 | apply IsS128.set_2) | exact HI659.out)) z15_ (by decide)) hk (fun _ h => h.2)) (fun _ h => h.1)); have n1_ := Aside0.mk (Kd.R_mono (Kd.R_keep (IsS128.apart (show IsS128 w _ g659 t656 t676 t677 from by repeat (first | (with_reducible first | exact HI659.out | apply IsS128.alloc | apply IsS128.drewN | apply IsS128.drew | apply IsS128.set_1 | apply IsS128.set_2) | exact HI659.out)) z24_ (by decide)) hk (fun _ h => h.2)) (fun _ h => h.1)); have n2_ := Aside0.mk (hb); have n3_ := Aside0.mk (hi); clear HO674; clear HO680; clear HB; clear HI659; have HO674 := n0_; have HO680 := n1_; have HB := n2_; have HI659 := n3_; clear n0_ n1_ n2_ n3_; (try clear hb); (try clear hb2); (try clear hk); (try clear hi); have p13 : 0 ≤ (t675 : Int) := of_decide_eq_true z5_; have q13 : (t675 : Int) < ((y672.length : Int) : Int) := of_decide_eq_true z5_; obtain ⟨go13, co13, eo13, gb13, gl13, cl13, HG13⟩ := Kd.R_form HO674.out (by omega); (first | cases eo13 | (injection eo13 with ea_ en_ ec_; (first | subst ea_ | (injection ea_ with ea_; subst ea_)); subst ec_; clear en_)); have GB13 := Aside0.mk gb13; have GG13 := Aside0.mk HG13; clear gb13 gl13 HG13; obtain ⟨hx13_0, hf13_0⟩ := Kd.R_celln 0 HO674.out (t675 : Int) p13 q13; replace p13 := eq_true p13; replace q13 := eq_true q13; obtain ⟨hy28_, hz28_⟩ := Kd.R_celln 0 HO674.out (t675 : Int) (of_decide_eq_true z5_) (of_decide_eq_true z5_); have HP28 := Kd.R_putg HO674.out (t675 : Int) ((t681) % 256)) | ((with_reducible refine gate_store (t := 5) (p := 25) rfl ?_); refine store_event (t := 5) (p := 25) (v := ?vo_w29) (w1 := (w27.setCell ⟨go13, (t675 : Int).toNat, none⟩ (.int .u8 ((t681) % 256)))) ?hg ?ho ?hn ?hr ?_; (case ho => rfl); (case hg => rfl); (case hn => rfl); (case hr => first | (go_simp; done) | (go_simp; rfl)); intro w29 hw; have hg : w27.grownBy w29 (some go13) := (by rw [hw]; exact HP28.2); have hp_ : Kd.R (Kd.int .u8) 5 w29 w.heap.size (fun _ => True) (.slice (some ⟨go13, 0, none⟩) y672.length co21) y684 := (by rw [hw, Ny684.out]; exact HP28.1); clear HP28; have n0_ := Aside0.mk (IsS128.grown z9_ hg (IsS128.own_ne HI659.out HO674.out (by decide))); have n1_ := Aside0.mk (hp_); have n2_ := Aside0.mk (Kd.R_over' (v := (.slice (some ⟨go13, 0, none⟩) y672.length co21)) z24_ (Kd.R_typed HO674.out) (by decide) hg); have n3_ := Aside0.mk ((by rw [hw]; exact below_set (HB.out) GB13.out : Below w.heap.size w w29)); clear HI659; clear HO674; clear HO680; clear HB; have HI659 := n0_; have HO674 := n1_; have HO680 := n2_; have HB := n3_; clear n0_ n1_ n2_ n3_; clear hg hw hp_) | ((with_reducible refine gate_callee (f := 99) rfl ?_); refine goesL_ (some 28) rfl rfl Try.func99 (by kernel_rfl) rfl #[.slice (some ⟨go13, 0, none⟩) y684.length co21] rfl z16_ ?_; (with_reducible refine (spec_Sum.calls k _ _ y684 t685 _ ?side1 ?side2 A14.out).mono ?_); (case side1 => repeat (first | exact (Kd.R_reads' HO674.out).2.2 | (with_reducible refine Kd.C_alloc ?_ _) | (with_reducible refine Kd.C_drewN ?_ _) | (with_reducible refine Kd.C_drew ?_))); (case side2 => rw [show y684.length = y672.length from (Kd.R_reads' HO674.out).1.symm]; exact (Kd.R_reads' HO674.out).2.1); rintro e w' ⟨rfl, ⟨nd, rfl⟩⟩; refine ⟨_, rfl, ?_⟩) | ((with_reducible refine gate_callee (f := 98) rfl ?_); refine goesL_ (some 29) rfl rfl Try.func98 (by kernel_rfl) rfl #[.slice (some ⟨go13, 0, none⟩) y684.length co21, .int .i64 t685] rfl z16_ ?_; (with_reducible refine (spec_PutWord.calls _ _ y684 t685 t686 _ ?side1 ?side2 A15.out).mono ?_); (case side1 => repeat (first | exact (Kd.R_reads' HO674.out).2.2 | (with_reducible refine Kd.C_alloc ?_ _) | (with_reducible refine Kd.C_drewN ?_ _) | (with_reducible refine Kd.C_drew ?_))); (case side2 => rw [show y684.length = y672.length from (Kd.R_reads' HO674.out).1.symm]; exact (Kd.R_reads' HO674.out).2.1); rintro e w30 ⟨v687, rfl, ho0, hb⟩; refine ⟨_, rfl, ?_⟩; have n0_ := Aside0.mk (Kd.R_elder' z15_ (Kd.R_base ho0) hb); have n1_ := Aside0.mk (Kd.R_below z24_ hb); have n2_ := Aside0.mk (Kd.R_lower (Kd.R_new' ho0 (Kd.R_lt z15_)) (below_size z6_)); have n3_ := Aside0.mk (IsS128.below z9_ hb); have n4_ := Aside0.mk (below_step z6_ hb); clear HO674; clear HO680; clear HI659; clear HB; have HO674 := n0_; have HO680 := n1_; have HO688 := n2_; have HI659 := n3_; have HB := n4_; clear n0_ n1_ n2_ n3_ n4_; (try clear hb); (try clear hb2); (try clear hk); (try clear hi); (try clear ho0)))
     go_ret
     exact ⟨_, by first | rfl | (simp [errW_none, errW_some] <;> rfl) | (simp [*, errW_none, errW_some] <;> rfl), by (with_reducible repeat (first | apply Kd.R_alloc | apply Kd.R_drewN | apply Kd.R_drew)); exact Kd.R_mono HO688.out (fun _ hk => trivial), by repeat (first | (with_reducible first | exact HB.out | apply below_alloc | apply pw_below_drewN | apply below_drew1 | refine below_set ?_ (IsS128.ge HI659.out)) | exact HB.out)⟩
    ·rw [if_neg c12] at H
     exact absurd H (by simp)
   ·rw [if_neg c11] at H
    exact absurd H (by simp)
  ·rw [if_neg c8] at H
   exact absurd H (by simp)
 ·replace c7 := Bool.eq_false_iff.mpr c7
  subst c7
  have H1 : ((spec_l1Bend.f t656 t670 t671 t666).bind fun bt689 => (some bt689.1)) = some r := by rw [if_neg (show ¬ (false = true) by decide)] at H; exact H
  clear H
  have H := H1
  clear H1
  replace H := Option.bind_eq_some_iff.mp H
  obtain ⟨⟨t689, t692, t693⟩, A310, H⟩ := H
  replace H : (some t689) = some r := H
  have A31 := Aside0.mk A310
  clear A310
  obtain rfl := Option.some.inj H
  go_enter Try.func50, Try.ntmps50
  go_wp2_with (first | ((with_reducible refine gate_callee (f := 92) rfl ?_); refine goesL_ (some 7) rfl rfl Try.func92 (by kernel_rfl) rfl #[.slice A0 l0.length c0] rfl z0_ ?_; (with_reducible refine (spec_l1New.calls k _ _ l0 t656 t657 t658 w _ ?side1 ?side2 ?side3 A2.out).mono ?_); (case side1 => repeat (first | (with_reducible first | exact HB.out | apply below_alloc | apply pw_below_drewN | apply below_drew1) | exact HB.out)); (case side2 => exact HR0.out); (case side3 => exact HC0.out); rintro e w32 ⟨g659, rfl, hi, hb, hb2⟩; refine ⟨_, rfl, ?_⟩; have n0_ := Aside0.mk (hb); have n1_ := Aside0.mk (hi); clear HB; have HB := n0_; have HI659 := n1_; clear n0_ n1_; (try clear hb); (try clear hb2); (try clear hk); (try clear hi)) | ((with_reducible refine gate_callee (f := 96) rfl ?_); refine goesL_ (some 9) rfl rfl Try.func96 (by kernel_rfl) rfl #[.pointer (some ⟨g659, 0, none⟩), .int .i64 5] rfl z0_ ?_; (with_reducible refine (spec_l1Below.calls g659 t656 t657 t658 5 t660 t661 t662 w _ ?side1 ?side2 A3.out).mono ?_); (case side1 => repeat (first | (with_reducible first | exact HI659.out | apply IsS128.alloc | apply IsS128.drewN | apply IsS128.drew | apply IsS128.set_1 | apply IsS128.set_2) | exact HI659.out)); (case side2 => repeat (first | (with_reducible first | exact HB.out | apply below_alloc | apply pw_below_drewN | apply below_drew1 | refine below_set ?_ (IsS128.ge HI659.out)) | exact HB.out)); rintro e w33 ⟨rfl, hi, hb, hk⟩; refine ⟨_, rfl, ?_⟩; have n0_ := Aside0.mk (hb); have n1_ := Aside0.mk (hi); clear HB; clear HI659; have HB := n0_; have HI659 := n1_; clear n0_ n1_; (try clear hb); (try clear hb2); (try clear hk); (try clear hi)) | ((with_reducible refine gate_callee (f := 96) rfl ?_); refine goesL_ (some 12) rfl rfl Try.func96 (by kernel_rfl) rfl #[.pointer (some ⟨g659, 0, none⟩), .int .i64 19] rfl z0_ ?_; (with_reducible refine (spec_l1Below.calls g659 t656 t661 t662 19 t663 t664 t665 w _ ?side1 ?side2 A4.out).mono ?_); (case side1 => repeat (first | (with_reducible first | exact HI659.out | apply IsS128.alloc | apply IsS128.drewN | apply IsS128.drew | apply IsS128.set_1 | apply IsS128.set_2) | exact HI659.out)); (case side2 => repeat (first | (with_reducible first | exact HB.out | apply below_alloc | apply pw_below_drewN | apply below_drew1 | refine below_set ?_ (IsS128.ge HI659.out)) | exact HB.out)); rintro e w34 ⟨rfl, hi, hb, hk⟩; refine ⟨_, rfl, ?_⟩; have n0_ := Aside0.mk (hb); have n1_ := Aside0.mk (hi); clear HB; clear HI659; have HB := n0_; have HI659 := n1_; clear n0_ n1_; (try clear hb); (try clear hb2); (try clear hk); (try clear hi)) | ((with_reducible refine gate_callee (f := 73) rfl ?_); refine goesL_ (some 13) rfl rfl Try.func73 (by kernel_rfl) rfl #[.int .i64 (wrap64 (1 + t660)), .int .i64 t663] rfl z0_ ?_; (with_reducible refine (spec_HeadOf.calls k (wrap64 (1 + t660)) t663 t666 _ A5.out).mono ?_); rintro e w35 ⟨v667, rfl, ho0, hb⟩; refine ⟨_, rfl, ?_⟩; have n0_ := Aside0.mk (Kd.R_lower ho0 (below_size z6_)); have n1_ := Aside0.mk (IsS128.below z9_ hb); have n2_ := Aside0.mk (below_step z6_ hb); clear HI659; clear HB; have HO668 := n0_; have HI659 := n1_; have HB := n2_; clear n0_ n1_ n2_; (try clear hb); (try clear hb2); (try clear hk); (try clear hi); (try clear ho0)) | ((with_reducible refine gate_callee (f := 97) rfl ?_); refine goesL_ (some 15) rfl rfl Try.func97 (by kernel_rfl) rfl #[.pointer (some ⟨g659, 0, none⟩), .int .i64 5] rfl z0_ ?_; (with_reducible refine (spec_l1Once.calls g659 t656 t664 t665 5 false t670 t671 w _ ?side1 ?side2 A6.out).mono ?_); (case side1 => repeat (first | (with_reducible first | exact HI659.out | apply IsS128.alloc | apply IsS128.drewN | apply IsS128.drew | apply IsS128.set_1 | apply IsS128.set_2) | exact HI659.out)); (case side2 => repeat (first | (with_reducible first | exact HB.out | apply below_alloc | apply pw_below_drewN | apply below_drew1 | refine below_set ?_ (IsS128.ge HI659.out)) | exact HB.out)); rintro e w36 ⟨rfl, hi, hb, hk⟩; refine ⟨_, rfl, ?_⟩; have n0_ := Aside0.mk (Kd.R_mono (Kd.R_keep (IsS128.apart (show IsS128 w _ g659 t656 t664 t665 from by repeat (first | (with_reducible first | exact HI659.out | apply IsS128.alloc | apply IsS128.drewN | apply IsS128.drew | apply IsS128.set_1 | apply IsS128.set_2) | exact HI659.out)) z20_ (by decide)) hk (fun _ h => h.2)) (fun _ h => h.1)); have n1_ := Aside0.mk (hb); have n2_ := Aside0.mk (hi); clear HO668; clear HB; clear HI659; have HO668 := n0_; have HB := n1_; have HI659 := n2_; clear n0_ n1_ n2_; (try clear hb); (try clear hb2); (try clear hk); (try clear hi); obtain ⟨Ao37, co37, eo37⟩ := Kd.R_slice HO668.out; subst eo37) | ((with_reducible refine gate_callee (f := 100) rfl ?_); refine goesL_ (some 32) rfl rfl Try.func100 (by kernel_rfl) rfl #[.pointer (some ⟨g659, 0, none⟩), .slice Ao37 t666.length co37] rfl z0_ ?_; (with_reducible refine (spec_l1Bend.calls g659 t656 t670 t671 _ _ t666 t689 t692 t693 w _ ?side1 ?side2 ?side3 ?side4 ?side5 A31.out).mono ?_); (case side1 => repeat (first | (with_reducible first | exact HI659.out | apply IsS128.alloc | apply IsS128.drewN | apply IsS128.drew | apply IsS128.set_1 | apply IsS128.set_2) | exact HI659.out)); (case side2 => repeat (first | (with_reducible first | exact HB.out | apply below_alloc | apply pw_below_drewN | apply below_drew1 | refine below_set ?_ (IsS128.ge HI659.out)) | exact HB.out)); (case side3 => repeat (first | exact (Kd.R_reads' HO668.out).2.2 | (with_reducible refine Kd.C_alloc ?_ _) | (with_reducible refine Kd.C_drewN ?_ _) | (with_reducible refine Kd.C_drew ?_))); (case side4 => exact (Kd.R_reads' HO668.out).2.1); (case side5 => exact far_slice (IsS128.own_ne HI659.out HO668.out (by decide))); rintro e w38 ⟨v690, rfl, ho0, hi, hb, hk⟩; refine ⟨_, rfl, ?_⟩; have n0_ := Aside0.mk (Kd.R_mono (Kd.R_told (Kd.R_oldK (IsS128.apart (show IsS128 w _ g659 t656 t670 t671 from by repeat (first | (with_reducible first | exact HI659.out | apply IsS128.alloc | apply IsS128.drewN | apply IsS128.drew | apply IsS128.set_1 | apply IsS128.set_2) | exact HI659.out)) z20_ (by decide)) hk) (Kd.R_base ho0)) (fun _ h_ => h_.1)); have n1_ := Aside0.mk (Kd.R_lower (Kd.R_new' ho0 (Kd.R_lt z20_)) (below_size z6_)); have n2_ := Aside0.mk (hb); have n3_ := Aside0.mk (hi); clear HO668; clear HB; clear HI659; have HO668 := n0_; have HO691 := n1_; have HB := n2_; have HI659 := n3_; clear n0_ n1_ n2_ n3_; (try clear hb); (try clear hb2); (try clear hk); (try clear hi); (try clear ho0)))
  go_ret
  exact ⟨_, by first | rfl | (simp [errW_none, errW_some] <;> rfl) | (simp [*, errW_none, errW_some] <;> rfl), by (with_reducible repeat (first | apply Kd.R_alloc | apply Kd.R_drewN | apply Kd.R_drew)); exact Kd.R_mono HO691.out (fun _ hk => trivial), by repeat (first | (with_reducible first | exact HB.out | apply below_alloc | apply pw_below_drewN | apply below_drew1 | refine below_set ?_ (IsS128.ge HI659.out)) | exact HB.out)⟩

/-! ### laws_bent: function 52 -/
def laws_bent.T4 : Bool × List (List Nat × List Nat) := (true, [([], []), ([], []), ([], []), ([], []), ([2, 3], [2, 3]), ([4], [4]), ([], []), ([6], [6]), ([7], [7]), ([8], [8]), ([9], [9]), ([5, 10], [5, 10]), ([0, 1, 0, 1, 2, 3, 4, 5, 6, 7, 8, 9, 10, 11], [0, 1]), ([12, 11, 7, 0, 1, 2, 3, 4, 5, 6, 7, 8, 9, 10, 11], [11, 12])])
def laws_bent.B4 : List Nat := [0, 0, 0, 0, 12, 28, 0, 64, 192, 448, 960, 2044, 4095, 8191]
theorem laws_bent.tab4 : rtab .any (opsOf Try.f52 4) = laws_bent.T4 := by kernel_rfl
theorem laws_bent.bits4 : waitsOk laws_bent.T4.2 laws_bent.B4 = true := by kernel_rfl
set_option maxHeartbeats 8000000 in
set_option maxRecDepth 100000 in
theorem laws_bent.calls (A0 : Option Addr) (c0 : Nat) (l0 : List Int) (A1 : Option Addr) (c1 : Nat) (l1 : List Int) (r : List Int) (w : World) (hr0 : Kd.C (Kd.int .u8) w A0 l0.length l0) (hc0 : l0.length ≤ c0) (hr1 : Kd.C (Kd.int .u8) w A1 l1.length l1) (hc1 : l1.length ≤ c1) (h : laws_bent.f l0 l1 = some r) :
  Calls Try.prog 52 #[.slice A0 l0.length c0, .slice A1 l1.length c1] w fun e w' => ∃ v0_ : Value, e = .returned (v0_) ∧ Kd.R (Kd.int .u8) 5 w' w.heap.size (fun _ => True) v0_ r ∧ Below w.heap.size w w' := by
 have HR0 := Aside0.mk hr0
 have HC0 := Aside0.mk hc0
 clear hr0 hc0
 have HR1 := Aside0.mk hr1
 have HC1 := Aside0.mk hc1
 clear hr1 hc1
 have HB := Aside0.mk (Below.refl w.heap.size w)
 have H : ((some (([] : List Int) : List Int)).bind fun y695 => (if y695.length + l1.length < 140737488355328 then ((some (y695 ++ l1 : List Int)).bind fun y698 => (if (y698.length : Int) > 0 then ((laws_at.f l0 2).bind fun t701 => ((laws_at.f l0 3).bind fun t702 => (if (y698.length : Int) = 0 then (none) else (if 0 ≤ (Int.tmod (wrap64 ((wrap64 (t701 * 256)) + t702)) (y698.length : Int)) then (if (Int.tmod (wrap64 ((wrap64 (t701 * 256)) + t702)) (y698.length : Int)) < (y698.length : Int) then ((laws_at.f l0 4).bind fun t704 => (some (y698.set ((Int.tmod (wrap64 ((wrap64 (t701 * 256)) + t702)) (y698.length : Int)) : Int).toNat (Go.bits .xor .u8 (rd y698 (Int.tmod (wrap64 ((wrap64 (t701 * 256)) + t702)) (y698.length : Int))) ((wrap64 (1 + (Int.tmod t704 255))) % 256))))) else (none)) else (none))))) else (some y698))) else (none))) = some r := h
 clear h
 obtain ⟨y695, hy695⟩ : ∃ y_ : List Int, y_ = (([] : List Int)) := ⟨_, rfl⟩
 replace H : (if y695.length + l1.length < 140737488355328 then ((some (y695 ++ l1 : List Int)).bind fun y698 => (if (y698.length : Int) > 0 then ((laws_at.f l0 2).bind fun t701 => ((laws_at.f l0 3).bind fun t702 => (if (y698.length : Int) = 0 then (none) else (if 0 ≤ (Int.tmod (wrap64 ((wrap64 (t701 * 256)) + t702)) (y698.length : Int)) then (if (Int.tmod (wrap64 ((wrap64 (t701 * 256)) + t702)) (y698.length : Int)) < (y698.length : Int) then ((laws_at.f l0 4).bind fun t704 => (some (y698.set ((Int.tmod (wrap64 ((wrap64 (t701 * 256)) + t702)) (y698.length : Int)) : Int).toNat (Go.bits .xor .u8 (rd y698 (Int.tmod (wrap64 ((wrap64 (t701 * 256)) + t702)) (y698.length : Int))) ((wrap64 (1 + (Int.tmod t704 255))) % 256))))) else (none)) else (none))))) else (some y698))) else (none)) = some r := by first | (rw [hy695]; with_reducible exact H) | (have H2_ := (Option.bind_some _ _).symm.trans H; rw [hy695]; with_reducible exact H2_) | (have H2_ := (Option.bind_some _ _).symm.trans H; with_reducible exact H2_) | with_reducible exact H | (rw [hy695]; exact H) | exact H
 have Ny695 := Aside0.mk hy695
 clear hy695
 by_cases c3 : y695.length + l1.length < 140737488355328
 ·rw [if_pos c3] at H
  have LMc3 := Aside0.mk c3
  clear c3
  obtain ⟨y698, hy698⟩ : ∃ y_ : List Int, y_ = (y695 ++ l1) := ⟨_, rfl⟩
  replace H : (if (y698.length : Int) > 0 then ((laws_at.f l0 2).bind fun t701 => ((laws_at.f l0 3).bind fun t702 => (if (y698.length : Int) = 0 then (none) else (if 0 ≤ (Int.tmod (wrap64 ((wrap64 (t701 * 256)) + t702)) (y698.length : Int)) then (if (Int.tmod (wrap64 ((wrap64 (t701 * 256)) + t702)) (y698.length : Int)) < (y698.length : Int) then ((laws_at.f l0 4).bind fun t704 => (some (y698.set ((Int.tmod (wrap64 ((wrap64 (t701 * 256)) + t702)) (y698.length : Int)) : Int).toNat (Go.bits .xor .u8 (rd y698 (Int.tmod (wrap64 ((wrap64 (t701 * 256)) + t702)) (y698.length : Int))) ((wrap64 (1 + (Int.tmod t704 255))) % 256))))) else (none)) else (none))))) else (some y698)) = some r := by first | (rw [hy698]; with_reducible exact H) | (have H2_ := (Option.bind_some _ _).symm.trans H; rw [hy698]; with_reducible exact H2_) | (have H2_ := (Option.bind_some _ _).symm.trans H; with_reducible exact H2_) | with_reducible exact H | (rw [hy698]; exact H) | exact H
  have Ny698 := Aside0.mk hy698
  clear hy698
  by_cases c4 : (y698.length : Int) > 0
  ·rw [if_pos c4] at H
   have c4b0 : decide (0 < (y698.length : Int)) = true := decide_eq_true c4
   have c4b1 : decide (0 < y698.length) = true := decide_eq_true (by omega)
   clear c4
   replace H := Option.bind_eq_some_iff.mp H
   obtain ⟨t701, A50, H⟩ := H
   replace H : ((laws_at.f l0 3).bind fun t702 => (if (y698.length : Int) = 0 then (none) else (if 0 ≤ (Int.tmod (wrap64 ((wrap64 (t701 * 256)) + t702)) (y698.length : Int)) then (if (Int.tmod (wrap64 ((wrap64 (t701 * 256)) + t702)) (y698.length : Int)) < (y698.length : Int) then ((laws_at.f l0 4).bind fun t704 => (some (y698.set ((Int.tmod (wrap64 ((wrap64 (t701 * 256)) + t702)) (y698.length : Int)) : Int).toNat (Go.bits .xor .u8 (rd y698 (Int.tmod (wrap64 ((wrap64 (t701 * 256)) + t702)) (y698.length : Int))) ((wrap64 (1 + (Int.tmod t704 255))) % 256))))) else (none)) else (none)))) = some r := H
   have A5 := Aside0.mk A50
   clear A50
   replace H := Option.bind_eq_some_iff.mp H
   obtain ⟨t702, A60, H⟩ := H
   replace H : (if (y698.length : Int) = 0 then (none) else (if 0 ≤ (Int.tmod (wrap64 ((wrap64 (t701 * 256)) + t702)) (y698.length : Int)) then (if (Int.tmod (wrap64 ((wrap64 (t701 * 256)) + t702)) (y698.length : Int)) < (y698.length : Int) then ((laws_at.f l0 4).bind fun t704 => (some (y698.set ((Int.tmod (wrap64 ((wrap64 (t701 * 256)) + t702)) (y698.length : Int)) : Int).toNat (Go.bits .xor .u8 (rd y698 (Int.tmod (wrap64 ((wrap64 (t701 * 256)) + t702)) (y698.length : Int))) ((wrap64 (1 + (Int.tmod t704 255))) % 256))))) else (none)) else (none))) = some r := H
   have A6 := Aside0.mk A60
   clear A60
   by_cases c7 : (y698.length : Int) = 0
   ·rw [if_pos c7] at H
    exact absurd H (by simp)
   ·rw [if_neg c7] at H
    have c7b0 : ((y698.length : Int) == 0) = false := beq_eq_false_iff_ne.mpr c7
    have c7b1 : ((y698.length : Int) != 0) = true := bne_iff_ne.mpr c7
    have c7b2 : ¬ (y698 = []) := fun h_ => c7 (by rw [h_]; rfl)
    obtain ⟨ji8, hji8⟩ : ∃ j_ : Int, (Int.tmod (wrap64 ((wrap64 (t701 * 256)) + t702)) (y698.length : Int)) = j_ := ⟨_, rfl⟩
    replace H : (if 0 ≤ (ji8) then (if (ji8) < (y698.length : Int) then ((laws_at.f l0 4).bind fun t704 => (some (y698.set ((ji8) : Int).toNat (Go.bits .xor .u8 (rd y698 (ji8)) ((wrap64 (1 + (Int.tmod t704 255))) % 256))))) else (none)) else (none)) = some r := by first | (rw [hji8] at H; exact H) | (simp only [hji8] at H ⊢; exact H)
    (try rw [hji8] at A5)
    (try rw [hji8] at A6)
    by_cases c9 : 0 ≤ (ji8)
    ·rw [if_pos c9] at H
     have c9b0 : decide (0 ≤ (ji8)) = true := decide_eq_true c9
     clear c9
     by_cases c10 : (ji8) < (y698.length : Int)
     ·rw [if_pos c10] at H
      have c10b0 : decide ((ji8) < (y698.length : Int)) = true := decide_eq_true c10
      clear c10
      replace H := Option.bind_eq_some_iff.mp H
      obtain ⟨t704, A110, H⟩ := H
      replace H : (some (y698.set ((ji8) : Int).toNat (Go.bits .xor .u8 (rd y698 (ji8)) ((wrap64 (1 + (Int.tmod t704 255))) % 256)))) = some r := H
      have A11 := Aside0.mk A110
      clear A110
      obtain ⟨y705, hy705⟩ : ∃ y_ : List Int, y_ = (y698.set ((ji8) : Int).toNat (Go.bits .xor .u8 (rd y698 (ji8)) ((wrap64 (1 + (Int.tmod t704 255))) % 256))) := ⟨_, rfl⟩
      replace H : (some y705) = some r := by first | (rw [hy705]; with_reducible exact H) | (have H2_ := (Option.bind_some _ _).symm.trans H; rw [hy705]; with_reducible exact H2_) | (have H2_ := (Option.bind_some _ _).symm.trans H; with_reducible exact H2_) | with_reducible exact H | (rw [hy705]; exact H) | exact H
      have Ny705 := Aside0.mk hy705
      clear hy705
      obtain rfl := Option.some.inj H
      go_enter Try.func52, Try.ntmps52
      try go_wp2_with (first | ((with_reducible refine gate_dst (N := 7) rfl ?_); refine Kd.R_lit (Kd.int .u8) _ 5 ?hg (N := 7) ?hd (xs := ([] : List Int)) (inner := []) (ok := fun _ => True) (okp := fun _ => True) ?hr ?hp (fun _ hk => hk) trivial (Below.refl _ _) (Nat.le_refl _) (by simp) ?_; (case hd => rfl); (case hg => rfl); (case hr => first | (go_simp; done) | (go_simp; rfl)); (case hp => exact (Reps.none _ _)); intro v696 w13 ho14 hb hg_ hnew_; clear hg_ hnew_; (first | rw [← Ny695.out] at ho14 | (simp only [Int.reduceToNat] at ho14; rw [← Ny695.out] at ho14)); have n0_ := Aside0.mk (Kd.R_lower ho14 (below_size z1_)); have n1_ := Aside0.mk (below_step z1_ hb); clear HB; have HO697 := n0_; have HB := n1_; clear n0_ n1_; clear hb ho14) | ((with_reducible refine gate_builtin (b := .append) (xs := #[.tmp 7, .tmp 8]) rfl ?_); at_builtin; refine Kd.R_append_rows (Kd.int .u8) (w0 := w) w.heap.size rfl (.tmp 7) (.tmp 8) 33 5 (.int .u8 0) 1 rfl Try.underlying33 info5 rfl (by decide) (by omega) v696 y695 l1 _ _ _ (fun _ => True) (fun _ => False) rfl rfl ?aO ?aR (fun _ _ h => h) (fun _ h => h.elim) ?aF ?aB ?aS ?aL ?_; (case aR => repeat (first | exact (Kd.C_below HR1.out HB.out) | (with_reducible refine Kd.C_alloc ?_ _) | (with_reducible refine Kd.C_drewN ?_ _) | (with_reducible refine Kd.C_drew ?_))); (case aB => exact z1_); (case aF => exact (fun _ _ => trivial)); (case aO => exact z31_); (case aS => exact (below_size z1_)); (case aL => have := LMc3.out; omega); intro v699 w15 ho hb hg hat; rw [← Ny698.out] at ho; have n0_ := Aside0.mk (hb); have n1_ := Aside0.mk (ho); clear HB; clear HO697; have HB := n0_; have HO700 := n1_; clear n0_ n1_; clear ho hb hg hat; obtain ⟨Ao16, co16, eo16⟩ := Kd.R_slice HO700.out; subst eo16) | ((with_reducible refine gate_callee (f := 63) rfl ?_); refine goesL_ (some 14) rfl rfl Try.func63 (by kernel_rfl) rfl #[.slice A0 l0.length c0, .int .i64 2] rfl z0_ ?_; (with_reducible refine (laws_at.calls _ _ l0 2 t701 _ ?side1 ?side2 A5.out).mono ?_); (case side1 => repeat (first | exact (Kd.C_below HR0.out HB.out) | (with_reducible refine Kd.C_alloc ?_ _) | (with_reducible refine Kd.C_drewN ?_ _) | (with_reducible refine Kd.C_drew ?_))); (case side2 => exact HC0.out); rintro e w' ⟨rfl, ⟨nd, rfl⟩⟩; refine ⟨_, rfl, ?_⟩; (try (rw [drewN_self w15]; generalize hq_ : World.drewN w15 _ = w15; have n0_ : Aside0 (Kd.R (Kd.int .u8) 5 w15 w.heap.size (fun _ => True) (.slice Ao16 y698.length co16) y698) := ⟨by rw [← hq_]; exact z32_⟩; have n1_ : Aside0 (Below w.heap.size w w15) := ⟨by rw [← hq_]; exact z1_⟩; clear HO700 HB hq_; have HO700 := n0_; have HB := n1_; clear n0_ n1_))) | ((with_reducible refine gate_callee (f := 63) rfl ?_); refine goesL_ (some 17) rfl rfl Try.func63 (by kernel_rfl) rfl #[.slice A0 l0.length c0, .int .i64 3] rfl z0_ ?_; (with_reducible refine (laws_at.calls _ _ l0 3 t702 _ ?side1 ?side2 A6.out).mono ?_); (case side1 => repeat (first | exact (Kd.C_below HR0.out HB.out) | (with_reducible refine Kd.C_alloc ?_ _) | (with_reducible refine Kd.C_drewN ?_ _) | (with_reducible refine Kd.C_drew ?_))); (case side2 => exact HC0.out); rintro e w' ⟨rfl, ⟨nd, rfl⟩⟩; refine ⟨_, rfl, ?_⟩; (try (rw [drewN_self w15]; generalize hq_ : World.drewN w15 _ = w15; have n0_ : Aside0 (Kd.R (Kd.int .u8) 5 w15 w.heap.size (fun _ => True) (.slice Ao16 y698.length co16) y698) := ⟨by rw [← hq_]; exact z32_⟩; have n1_ : Aside0 (Below w.heap.size w w15) := ⟨by rw [← hq_]; exact z1_⟩; clear HO700 HB hq_; have HO700 := n0_; have HB := n1_; clear n0_ n1_))))
      have n0_ := Aside0.mk (Kd.R_drew HO700.out)
      have n1_ := Aside0.mk (below_drew1 HB.out)
      clear HO700
      clear HB
      have HO700 := n0_
      have HB := n1_
      clear n0_ n1_
      have p703 : 0 ≤ ((ji8) : Int) := of_decide_eq_true z5_
      have q703 : (ji8) < (y698.length : Int) := of_decide_eq_true z5_
      obtain ⟨ad703, e703, hx703_0⟩ := Kd.at_int (Kd.R_reads' HO700.out).2.2 (ji8) p703 q703
      cases e703
      replace p703 := eq_true p703
      replace q703 := eq_true q703
      refine start_ (n := 14) (S := fun w' => w'.cell? (ad703.add ((ji8)).toNat) = some (.int .u8 (rd y698 (ji8)))) (ds := [13]) #[false, false, false, false, false, false, false, false, false, false, false, false, false, false] (by kernel_rfl) rfl rfl (hx703_0) (fun hHeld => ?_); refine with_tabW laws_bent.tab4 laws_bent.bits4 (fun HT_ HW_ => ?_)
      generalize w15.drew = w17 at HO700 HB hx703_0 hHeld ⊢
      refine pure_ (i := 0) (N := some 22) (v := ?_) (a' := ?_) #[true, false, false, false, false, false, false, false, false, false, false, false, false, false] rfl rfl (any_of HT_.out (by kernel_rfl)) (fun _ _ _ h => h) (Or.inl ⟨by rfl, ?_⟩) ?_ ?_
      rotate_left
      ·intro w'
       go_simp
       with_reducible rfl
      rotate_left
      ·simp only [Act.put, List.setIfInBounds_toArray, List.set_cons_zero, List.set_cons_succ, i64_w, i32_w]
       rfl
      refine pure_ (i := 1) (N := some 23) (v := ?_) (a' := ?_) #[true, true, false, false, false, false, false, false, false, false, false, false, false, false] rfl rfl (any_of HT_.out (by kernel_rfl)) (fun _ _ _ h => h) (Or.inl ⟨by rfl, ?_⟩) ?_ ?_
      rotate_left
      ·intro w'
       go_simp
       with_reducible rfl
      rotate_left
      ·simp only [Act.put, List.setIfInBounds_toArray, List.set_cons_zero, List.set_cons_succ, i64_w, i32_w]
       rfl
      refine pure_ (i := 2) (N := some 24) (v := ?_) (a' := ?_) #[true, true, true, false, false, false, false, false, false, false, false, false, false, false] rfl rfl (any_of HT_.out (by kernel_rfl)) (fun _ _ _ h => h) (Or.inl ⟨by rfl, ?_⟩) ?_ ?_
      rotate_left
      ·intro w'
       go_simp
       with_reducible rfl
      rotate_left
      ·simp only [Act.put, List.setIfInBounds_toArray, List.set_cons_zero, List.set_cons_succ, i64_w, i32_w]
       rfl
      refine pure_ (i := 3) (N := some 25) (v := ?_) (a' := ?_) #[true, true, true, true, false, false, false, false, false, false, false, false, false, false] rfl rfl (any_of HT_.out (by kernel_rfl)) (fun _ _ _ h => h) (Or.inl ⟨by rfl, ?_⟩) ?_ ?_
      rotate_left
      ·intro w'
       go_simp
       with_reducible rfl
      rotate_left
      ·simp only [Act.put, List.setIfInBounds_toArray, List.set_cons_zero, List.set_cons_succ, i64_w, i32_w]
       rfl
      refine pure_ (i := 4) (N := some 26) (v := ?_) (a' := ?_) #[true, true, true, true, true, false, false, false, false, false, false, false, false, false] rfl rfl (any_of HT_.out (by kernel_rfl)) (fun _ _ _ h => h) (Or.inl ⟨by rfl, ?_⟩) ?_ ?_
      rotate_left
      ·intro w'
       go_simp
       with_reducible rfl
      rotate_left
      ·simp only [Act.put, List.setIfInBounds_toArray, List.set_cons_zero, List.set_cons_succ, i64_w, i32_w]
       rfl
      refine pure_ (i := 6) (N := some 28) (v := ?_) (a' := ?_) #[true, true, true, true, true, false, true, false, false, false, false, false, false, false] rfl rfl (any_of HT_.out (by kernel_rfl)) (fun _ _ _ h => h) (Or.inl ⟨by rfl, ?_⟩) ?_ ?_
      rotate_left
      ·intro w'
       go_simp
       with_reducible rfl
      rotate_left
      ·simp only [Act.put, List.setIfInBounds_toArray, List.set_cons_zero, List.set_cons_succ, i64_w, i32_w]
       rfl
      refine take_ (i := 5) (N := some 27) (v := ?_) (a' := ?_) #[true, true, true, true, true, true, true, false, false, false, false, false, false, false] rfl rfl (take_ofW HT_.out HW_.out (by kernel_rfl)) (fun _ _ _ h => h) (Or.inl ⟨by rfl, ?_⟩) hHeld ?_ ?_
      rotate_left
      ·intro w' s0
       go_simp
       with_reducible rfl
      rotate_left
      ·simp only [Act.put, List.setIfInBounds_toArray, List.set_cons_zero, List.set_cons_succ, i64_w, i32_w]
       rfl
      refine one_ (i := 7) (N := some 29) #[true, true, true, true, true, true, true, true, false, false, false, false, false, false] rfl rfl (one_of HT_.out (by kernel_rfl)) (by decide) (fun K hK => ?_)
      refine goes_ Try.func63 (by kernel_rfl) rfl #[.slice A0 l0.length c0, .int .i64 4] (by rfl) rfl rfl z0_ ?_
      with_reducible refine (laws_at.calls _ _ l0 4 t704 _ ?side1 ?side2 A11.out).mono ?_
      (case side1 => repeat (first | exact (Kd.C_below HR0.out HB.out) | (with_reducible refine Kd.C_alloc ?_ _) | (with_reducible refine Kd.C_drewN ?_ _) | (with_reducible refine Kd.C_drew ?_)))
      (case side2 => exact HC0.out)
      rintro e w' ⟨rfl, ⟨nd, rfl⟩⟩
      refine ⟨_, rfl, ?_⟩
      have p12 : 0 ≤ ((ji8) : Int) := of_decide_eq_true z5_
      have q12 : ((ji8) : Int) < ((y698.length : Int) : Int) := of_decide_eq_true z5_
      obtain ⟨go12, co12, eo12, gb12, gl12, cl12, HG12⟩ := Kd.R_form HO700.out (by omega)
      (first | cases eo12 | (injection eo12 with ea_ en_ ec_; (first | subst ea_ | (injection ea_ with ea_; subst ea_)); subst ec_; clear en_))
      have GB12 := Aside0.mk gb12
      have GG12 := Aside0.mk HG12
      clear gb12 gl12 HG12
      (first | simp only [add_plain] at hx703_0 | skip)
      obtain ⟨hx12_0, hf12_0⟩ := Kd.R_celln 0 HO700.out ((ji8) : Int) p12 q12
      replace p12 := eq_true p12
      replace q12 := eq_true q12
      have HP18 := Kd.R_putn HO700.out ((ji8) : Int) (Go.bits .xor .u8 (rd y698 (ji8)) ((wrap64 (1 + (Int.tmod t704 255))) % 256))
      rw [← Ny705.out] at HP18
      have HQ18 := Aside0.mk HP18
      clear HP18
      refine hK.out _ _ (hHeld) (fun hHeld => ?_)
      clear hK K
      refine norm_ (a' := ?_) ?_ ?_
      rotate_left
      ·show Act.put _ (some 29) _ = _
       simp only [Act.put, List.setIfInBounds_toArray, List.set_cons_zero, List.set_cons_succ, i64_w, i32_w]
       rfl
      refine pure_ (i := 8) (N := some 30) (v := ?_) (a' := ?_) #[true, true, true, true, true, true, true, true, true, false, false, false, false, false] rfl rfl (any_of HT_.out (by kernel_rfl)) (fun _ _ _ h => h) (Or.inl ⟨by rfl, ?_⟩) ?_ ?_
      rotate_left
      ·intro w'
       go_simp
       with_reducible rfl
      rotate_left
      ·simp only [Act.put, List.setIfInBounds_toArray, List.set_cons_zero, List.set_cons_succ, i64_w, i32_w]
       rfl
      refine pure_ (i := 9) (N := some 31) (v := ?_) (a' := ?_) #[true, true, true, true, true, true, true, true, true, true, false, false, false, false] rfl rfl (any_of HT_.out (by kernel_rfl)) (fun _ _ _ h => h) (Or.inl ⟨by rfl, ?_⟩) ?_ ?_
      rotate_left
      ·intro w'
       go_simp
       with_reducible rfl
      rotate_left
      ·simp only [Act.put, List.setIfInBounds_toArray, List.set_cons_zero, List.set_cons_succ, i64_w, i32_w]
       rfl
      refine pure_ (i := 10) (N := some 32) (v := ?_) (a' := ?_) #[true, true, true, true, true, true, true, true, true, true, true, false, false, false] rfl rfl (any_of HT_.out (by kernel_rfl)) (fun _ _ _ h => h) (Or.inl ⟨by rfl, ?_⟩) ?_ ?_
      rotate_left
      ·intro w'
       go_simp
       with_reducible rfl
      rotate_left
      ·simp only [Act.put, List.setIfInBounds_toArray, List.set_cons_zero, List.set_cons_succ, i64_w, i32_w]
       rfl
      refine pure_ (i := 11) (N := some 33) (v := ?_) (a' := ?_) #[true, true, true, true, true, true, true, true, true, true, true, true, false, false] rfl rfl (any_of HT_.out (by kernel_rfl)) (fun _ _ _ h => h) (Or.inl ⟨by rfl, ?_⟩) ?_ ?_
      rotate_left
      ·intro w'
       go_simp
       with_reducible rfl
      rotate_left
      ·simp only [Act.put, List.setIfInBounds_toArray, List.set_cons_zero, List.set_cons_succ, i64_w, i32_w]
       rfl
      refine pure_ (i := 12) (N := some 34) (v := ?_) (a' := ?_) #[true, true, true, true, true, true, true, true, true, true, true, true, true, false] rfl rfl (any_of HT_.out (by kernel_rfl)) (fun _ _ _ h => h) (Or.inl ⟨by rfl, ?_⟩) ?_ ?_
      rotate_left
      ·intro w'
       go_simp
       with_reducible rfl
      rotate_left
      ·simp only [Act.put, List.setIfInBounds_toArray, List.set_cons_zero, List.set_cons_succ, i64_w, i32_w]
       rfl
      refine last_ (i := 13) (N := none) #[true, true, true, true, true, true, true, true, true, true, true, true, true, true] rfl rfl (one_of HT_.out (by kernel_rfl)) (by decide) (fun K hK => ?_)
      refine skip_ (w1 := ?_) (by rfl) rfl ?_ ?_
      rotate_left
      ·go_simp
       rfl
      refine hK.out _ _ ?_
      clear hK K
      refine done_ (done_of HT_.out (by kernel_rfl)) ?_
      try go_wp2
      go_ret
      exact ⟨_, by first | rfl | (simp [errW_none, errW_some] <;> rfl) | (simp only [← hji8]; first | rfl | (simp [errW_none, errW_some] <;> rfl)) | (simp [*, errW_none, errW_some] <;> rfl), by (with_reducible repeat (first | apply Kd.R_alloc | apply Kd.R_drewN | apply Kd.R_drew)); exact HQ18.out, by repeat (first | (with_reducible first | exact HB.out | apply below_alloc | apply pw_below_drewN | apply below_drew1 | refine below_set ?_ GB12.out) | exact HB.out)⟩
     ·rw [if_neg c10] at H
      exact absurd H (by simp)
    ·rw [if_neg c9] at H
     exact absurd H (by simp)
  ·rw [if_neg c4] at H
   have c4b0 : decide (0 < (y698.length : Int)) = false := decide_eq_false c4
   have c4b1 : decide (0 < y698.length) = false := decide_eq_false (by omega)
   clear c4
   obtain rfl := Option.some.inj H
   go_enter Try.func52, Try.ntmps52
   go_wp2_with (first | ((with_reducible refine gate_dst (N := 7) rfl ?_); refine Kd.R_lit (Kd.int .u8) _ 5 ?hg (N := 7) ?hd (xs := ([] : List Int)) (inner := []) (ok := fun _ => True) (okp := fun _ => True) ?hr ?hp (fun _ hk => hk) trivial (Below.refl _ _) (Nat.le_refl _) (by simp) ?_; (case hd => rfl); (case hg => rfl); (case hr => first | (go_simp; done) | (go_simp; rfl)); (case hp => exact (Reps.none _ _)); intro v696 w19 ho20 hb hg_ hnew_; clear hg_ hnew_; (first | rw [← Ny695.out] at ho20 | (simp only [Int.reduceToNat] at ho20; rw [← Ny695.out] at ho20)); have n0_ := Aside0.mk (Kd.R_lower ho20 (below_size z1_)); have n1_ := Aside0.mk (below_step z1_ hb); clear HB; have HO697 := n0_; have HB := n1_; clear n0_ n1_; clear hb ho20) | ((with_reducible refine gate_builtin (b := .append) (xs := #[.tmp 7, .tmp 8]) rfl ?_); at_builtin; refine Kd.R_append_rows (Kd.int .u8) (w0 := w) w.heap.size rfl (.tmp 7) (.tmp 8) 33 5 (.int .u8 0) 1 rfl Try.underlying33 info5 rfl (by decide) (by omega) v696 y695 l1 _ _ _ (fun _ => True) (fun _ => False) rfl rfl ?aO ?aR (fun _ _ h => h) (fun _ h => h.elim) ?aF ?aB ?aS ?aL ?_; (case aR => repeat (first | exact (Kd.C_below HR1.out HB.out) | (with_reducible refine Kd.C_alloc ?_ _) | (with_reducible refine Kd.C_drewN ?_ _) | (with_reducible refine Kd.C_drew ?_))); (case aB => exact z1_); (case aF => exact (fun _ _ => trivial)); (case aO => exact z31_); (case aS => exact (below_size z1_)); (case aL => have := LMc3.out; omega); intro v699 w21 ho hb hg hat; rw [← Ny698.out] at ho; have n0_ := Aside0.mk (hb); have n1_ := Aside0.mk (ho); clear HB; clear HO697; have HB := n0_; have HO700 := n1_; clear n0_ n1_; clear ho hb hg hat; obtain ⟨Ao22, co22, eo22⟩ := Kd.R_slice HO700.out; subst eo22))
   go_ret
   exact ⟨_, by first | rfl | (simp [errW_none, errW_some] <;> rfl) | (simp [*, errW_none, errW_some] <;> rfl), by (with_reducible repeat (first | apply Kd.R_alloc | apply Kd.R_drewN | apply Kd.R_drew)); exact HO700.out, by repeat (first | (with_reducible first | exact HB.out | apply below_alloc | apply pw_below_drewN | apply below_drew1) | exact HB.out)⟩
 ·rw [if_neg c3] at H
  exact absurd H (by simp)

/-! ### laws_FnHeads: function 10 -/
set_option maxHeartbeats 8000000 in
set_option maxRecDepth 100000 in
theorem laws_FnHeads.calls (k : Nat) (A0 : Option Addr) (c0 : Nat) (l0 : List Int) (r : Bool) (w : World) (hr0 : Kd.C (Kd.int .u8) w A0 l0.length l0) (hc0 : l0.length ≤ c0) (hr_ : Aside0 (r = true)) (h : laws_FnHeads.f k l0 = some r) :
  Calls Try.prog 10 #[.slice A0 l0.length c0] w fun e w' => e = .returned (.bool r) ∧ Below w.heap.size w w' := by
 have HR0 := Aside0.mk hr0
 have HC0 := Aside0.mk hc0
 clear hr0 hc0
 have HB := Aside0.mk (Below.refl w.heap.size w)
 have H : ((laws_big.f l0).bind fun t706 => (if t706 = true then (some true) else ((spec_DrawHeadOf.f k l0).bind fun bt707 => ((impl_HeadOf.f k bt707.1 bt707.2).bind fun t709 => ((spec_DrawGetHead.f k l0).bind fun t712 => ((impl_GetHead.f k t712).bind fun bt715 => ((spec_GetHead.f k t712).bind fun bt718 => (if (bt715.2.2 != bt718.2.2) = true then (laws_FnHeads.j0 k l0 bt707.1 bt707.2 t709 true) else (if bt715.2.2 = true then ((impl_HeadOf.f k bt715.1 bt715.2.1).bind fun t721 => ((laws_same.f t721 t712).bind fun t724 => (laws_FnHeads.j0 k l0 bt707.1 bt707.2 t709 (!t724)))) else (laws_FnHeads.j0 k l0 bt707.1 bt707.2 t709 false)))))))))) = some r := h
 clear h
 replace H := Option.bind_eq_some_iff.mp H
 obtain ⟨t706, A20, H⟩ := H
 replace H : (if t706 = true then (some true) else ((spec_DrawHeadOf.f k l0).bind fun bt707 => ((impl_HeadOf.f k bt707.1 bt707.2).bind fun t709 => ((spec_DrawGetHead.f k l0).bind fun t712 => ((impl_GetHead.f k t712).bind fun bt715 => ((spec_GetHead.f k t712).bind fun bt718 => (if (bt715.2.2 != bt718.2.2) = true then (laws_FnHeads.j0 k l0 bt707.1 bt707.2 t709 true) else (if bt715.2.2 = true then ((impl_HeadOf.f k bt715.1 bt715.2.1).bind fun t721 => ((laws_same.f t721 t712).bind fun t724 => (laws_FnHeads.j0 k l0 bt707.1 bt707.2 t709 (!t724)))) else (laws_FnHeads.j0 k l0 bt707.1 bt707.2 t709 false))))))))) = some r := H
 have A2 := Aside0.mk A20
 clear A20
 by_cases c3 : t706 = true
 ·subst c3
  have H1 : (some true) = some r := by rw [if_pos rfl] at H; exact H
  clear H
  have H := H1
  clear H1
  obtain rfl := Option.some.inj H
  go_enter Try.func10, Try.ntmps10
  go_wp2_with (first | ((with_reducible refine gate_callee (f := 47) rfl ?_); refine goesL_ (some 20) rfl rfl Try.func47 (by kernel_rfl) rfl #[.slice A0 l0.length c0] rfl z0_ ?_; (with_reducible refine (laws_big.calls _ _ l0 true _ ?side1 ?side2 A2.out).mono ?_); (case side1 => repeat (first | exact HR0.out | (with_reducible refine Kd.C_alloc ?_ _) | (with_reducible refine Kd.C_drewN ?_ _) | (with_reducible refine Kd.C_drew ?_))); (case side2 => exact HC0.out); rintro e w' ⟨rfl, ⟨nd, rfl⟩⟩; refine ⟨_, rfl, ?_⟩))
  go_ret
  exact ⟨by first | rfl | (simp [errW_none, errW_some] <;> rfl) | (simp [*, errW_none, errW_some] <;> rfl), by repeat (first | (with_reducible first | exact HB.out | apply below_alloc | apply pw_below_drewN | apply below_drew1) | exact HB.out)⟩
 ·replace c3 := Bool.eq_false_iff.mpr c3
  subst c3
  have H1 : ((spec_DrawHeadOf.f k l0).bind fun bt707 => ((impl_HeadOf.f k bt707.1 bt707.2).bind fun t709 => ((spec_DrawGetHead.f k l0).bind fun t712 => ((impl_GetHead.f k t712).bind fun bt715 => ((spec_GetHead.f k t712).bind fun bt718 => (if (bt715.2.2 != bt718.2.2) = true then (laws_FnHeads.j0 k l0 bt707.1 bt707.2 t709 true) else (if bt715.2.2 = true then ((impl_HeadOf.f k bt715.1 bt715.2.1).bind fun t721 => ((laws_same.f t721 t712).bind fun t724 => (laws_FnHeads.j0 k l0 bt707.1 bt707.2 t709 (!t724)))) else (laws_FnHeads.j0 k l0 bt707.1 bt707.2 t709 false)))))))) = some r := by rw [if_neg (show ¬ (false = true) by decide)] at H; exact H
  clear H
  have H := H1
  clear H1
  replace H := Option.bind_eq_some_iff.mp H
  obtain ⟨⟨t707, t708⟩, A40, H⟩ := H
  replace H : ((impl_HeadOf.f k t707 t708).bind fun t709 => ((spec_DrawGetHead.f k l0).bind fun t712 => ((impl_GetHead.f k t712).bind fun bt715 => ((spec_GetHead.f k t712).bind fun bt718 => (if (bt715.2.2 != bt718.2.2) = true then (laws_FnHeads.j0 k l0 t707 t708 t709 true) else (if bt715.2.2 = true then ((impl_HeadOf.f k bt715.1 bt715.2.1).bind fun t721 => ((laws_same.f t721 t712).bind fun t724 => (laws_FnHeads.j0 k l0 t707 t708 t709 (!t724)))) else (laws_FnHeads.j0 k l0 t707 t708 t709 false))))))) = some r := H
  have A4 := Aside0.mk A40
  clear A40
  replace H := Option.bind_eq_some_iff.mp H
  obtain ⟨t709, A50, H⟩ := H
  replace H : ((spec_DrawGetHead.f k l0).bind fun t712 => ((impl_GetHead.f k t712).bind fun bt715 => ((spec_GetHead.f k t712).bind fun bt718 => (if (bt715.2.2 != bt718.2.2) = true then (laws_FnHeads.j0 k l0 t707 t708 t709 true) else (if bt715.2.2 = true then ((impl_HeadOf.f k bt715.1 bt715.2.1).bind fun t721 => ((laws_same.f t721 t712).bind fun t724 => (laws_FnHeads.j0 k l0 t707 t708 t709 (!t724)))) else (laws_FnHeads.j0 k l0 t707 t708 t709 false)))))) = some r := H
  have A5 := Aside0.mk A50
  clear A50
  replace H := Option.bind_eq_some_iff.mp H
  obtain ⟨t712, A60, H⟩ := H
  replace H : ((impl_GetHead.f k t712).bind fun bt715 => ((spec_GetHead.f k t712).bind fun bt718 => (if (bt715.2.2 != bt718.2.2) = true then (laws_FnHeads.j0 k l0 t707 t708 t709 true) else (if bt715.2.2 = true then ((impl_HeadOf.f k bt715.1 bt715.2.1).bind fun t721 => ((laws_same.f t721 t712).bind fun t724 => (laws_FnHeads.j0 k l0 t707 t708 t709 (!t724)))) else (laws_FnHeads.j0 k l0 t707 t708 t709 false))))) = some r := H
  have A6 := Aside0.mk A60
  clear A60
  replace H := Option.bind_eq_some_iff.mp H
  obtain ⟨⟨t715, t716, t717⟩, A70, H⟩ := H
  replace H : ((spec_GetHead.f k t712).bind fun bt718 => (if (t717 != bt718.2.2) = true then (laws_FnHeads.j0 k l0 t707 t708 t709 true) else (if t717 = true then ((impl_HeadOf.f k t715 t716).bind fun t721 => ((laws_same.f t721 t712).bind fun t724 => (laws_FnHeads.j0 k l0 t707 t708 t709 (!t724)))) else (laws_FnHeads.j0 k l0 t707 t708 t709 false)))) = some r := H
  have A7 := Aside0.mk A70
  clear A70
  replace H := Option.bind_eq_some_iff.mp H
  obtain ⟨⟨t718, t719, t720⟩, A80, H⟩ := H
  replace H : (if (t717 != t720) = true then (laws_FnHeads.j0 k l0 t707 t708 t709 true) else (if t717 = true then ((impl_HeadOf.f k t715 t716).bind fun t721 => ((laws_same.f t721 t712).bind fun t724 => (laws_FnHeads.j0 k l0 t707 t708 t709 (!t724)))) else (laws_FnHeads.j0 k l0 t707 t708 t709 false))) = some r := H
  have A8 := Aside0.mk A80
  clear A80
  have HC9 := Aside0.mk H
  clear H
  go_enter Try.func10, Try.ntmps10
  go_upto_region 8 with (first | ((with_reducible refine gate_callee (f := 47) rfl ?_); refine goesL_ (some 20) rfl rfl Try.func47 (by kernel_rfl) rfl #[.slice A0 l0.length c0] rfl z0_ ?_; (with_reducible refine (laws_big.calls _ _ l0 false _ ?side1 ?side2 A2.out).mono ?_); (case side1 => repeat (first | exact HR0.out | (with_reducible refine Kd.C_alloc ?_ _) | (with_reducible refine Kd.C_drewN ?_ _) | (with_reducible refine Kd.C_drew ?_))); (case side2 => exact HC0.out); rintro e w' ⟨rfl, ⟨nd, rfl⟩⟩; refine ⟨_, rfl, ?_⟩) | ((with_reducible refine gate_callee (f := 48) rfl ?_); refine goesL_ (some 23) rfl rfl Try.func48 (by kernel_rfl) rfl #[.slice A0 l0.length c0] rfl z0_ ?_; (with_reducible refine (spec_DrawHeadOf.calls k _ _ l0 t707 t708 _ ?side1 ?side2 A4.out).mono ?_); (case side1 => repeat (first | exact HR0.out | (with_reducible refine Kd.C_alloc ?_ _) | (with_reducible refine Kd.C_drewN ?_ _) | (with_reducible refine Kd.C_drew ?_))); (case side2 => exact HC0.out); rintro e w10 ⟨rfl, hb⟩; refine ⟨_, rfl, ?_⟩; have n0_ := Aside0.mk (below_step z1_ hb); clear HB; have HB := n0_; clear n0_; (try clear hb); (try clear hb2); (try clear hk); (try clear hi)) | ((with_reducible refine gate_callee (f := 49) rfl ?_); refine goesL_ (some 28) rfl rfl Try.func49 (by kernel_rfl) rfl #[.int .i64 t707, .int .i64 t708] rfl z0_ ?_; (with_reducible refine (impl_HeadOf.calls k t707 t708 t709 _ A5.out).mono ?_); rintro e w11 ⟨v710, rfl, ho0, hb⟩; refine ⟨_, rfl, ?_⟩; have n0_ := Aside0.mk (Kd.R_lower ho0 (below_size z1_)); have n1_ := Aside0.mk (below_step z1_ hb); clear HB; have HO711 := n0_; have HB := n1_; clear n0_ n1_; (try clear hb); (try clear hb2); (try clear hk); (try clear hi); (try clear ho0)) | ((with_reducible refine gate_callee (f := 50) rfl ?_); refine goesL_ (some 30) rfl rfl Try.func50 (by kernel_rfl) rfl #[.slice A0 l0.length c0] rfl z0_ ?_; (with_reducible refine (spec_DrawGetHead.calls k _ _ l0 t712 _ ?side1 ?side2 A6.out).mono ?_); (case side1 => repeat (first | exact (Kd.C_below HR0.out HB.out) | (with_reducible refine Kd.C_alloc ?_ _) | (with_reducible refine Kd.C_drewN ?_ _) | (with_reducible refine Kd.C_drew ?_))); (case side2 => exact HC0.out); rintro e w12 ⟨v713, rfl, ho0, hb⟩; refine ⟨_, rfl, ?_⟩; have n0_ := Aside0.mk (Kd.R_elder' z13_ (Kd.R_base ho0) hb); have n1_ := Aside0.mk (Kd.R_lower (Kd.R_new' ho0 (Kd.R_lt z13_)) (below_size z1_)); have n2_ := Aside0.mk (below_step z1_ hb); clear HO711; clear HB; have HO711 := n0_; have HO714 := n1_; have HB := n2_; clear n0_ n1_ n2_; (try clear hb); (try clear hb2); (try clear hk); (try clear hi); (try clear ho0); obtain ⟨Ao13, co13, eo13⟩ := Kd.R_slice HO714.out; subst eo13) | ((with_reducible refine gate_callee (f := 22) rfl ?_); refine goesL_ (some 33) rfl rfl Try.func22 (by kernel_rfl) rfl #[.slice Ao13 t712.length co13] rfl z0_ ?_; (with_reducible refine (impl_GetHead.calls k _ _ t712 t715 t716 t717 _ ?side1 ?side2 A7.out).mono ?_); (case side1 => repeat (first | exact (Kd.R_reads' HO714.out).2.2 | (with_reducible refine Kd.C_alloc ?_ _) | (with_reducible refine Kd.C_drewN ?_ _) | (with_reducible refine Kd.C_drew ?_))); (case side2 => exact (Kd.R_reads' HO714.out).2.1); rintro e w14 ⟨rfl, hb⟩; refine ⟨_, rfl, ?_⟩; have n0_ := Aside0.mk (Kd.R_below z13_ hb); have n1_ := Aside0.mk (Kd.R_below z21_ hb); have n2_ := Aside0.mk (below_step z1_ hb); clear HO711; clear HO714; clear HB; have HO711 := n0_; have HO714 := n1_; have HB := n2_; clear n0_ n1_ n2_; (try clear hb); (try clear hb2); (try clear hk); (try clear hi)) | ((with_reducible refine gate_callee (f := 20) rfl ?_); refine goesL_ (some 39) rfl rfl Try.func20 (by kernel_rfl) rfl #[.slice Ao13 t712.length co13] rfl z0_ ?_; (with_reducible refine (spec_GetHead.calls k _ _ t712 t718 t719 t720 _ ?side1 ?side2 A8.out).mono ?_); (case side1 => repeat (first | exact (Kd.R_reads' HO714.out).2.2 | (with_reducible refine Kd.C_alloc ?_ _) | (with_reducible refine Kd.C_drewN ?_ _) | (with_reducible refine Kd.C_drew ?_))); (case side2 => exact (Kd.R_reads' HO714.out).2.1); rintro e w15 ⟨rfl, hb⟩; refine ⟨_, rfl, ?_⟩; have n0_ := Aside0.mk (Kd.R_below z13_ hb); have n1_ := Aside0.mk (Kd.R_below z21_ hb); have n2_ := Aside0.mk (below_step z1_ hb); clear HO711; clear HO714; clear HB; have HO711 := n0_; have HO714 := n1_; have HB := n2_; clear n0_ n1_ n2_; (try clear hb); (try clear hb2); (try clear hk); (try clear hi)))
  (try simp only [Act.put, List.setIfInBounds_toArray, List.set_cons_zero, List.set_cons_succ])
  go_cut [56] (fun v56 wc => ∃ (kq : Nat) (x56_8 : Bool), v56 = .bool x56_8 ∧ Aside0 (laws_FnHeads.j0 kq l0 t707 t708 t709 x56_8 = some r) ∧ Aside0 (kq ≤ k) ∧ Aside0 (Kd.R (Kd.int .u8) 5 wc w.heap.size (fun _ => True) v710 t709) ∧ Aside0 (Below w.heap.size w wc))
  case first =>
   have H := HC9.out
   clear HC9
   by_cases c16 : (t717 != t720) = true
   ·rw [if_pos c16] at H
    have c16b0 : (t717 != t720) = true := c16
    (try (have c16b1 : decide (t717 = t720) = false := by simpa using c16))
    (try (have c16b2 : (t717 == t720) = false := by simpa using c16))
    (try (have c16b3 : ¬ (t717 = t720) := by simpa using c16))
    clear c16
    (first | rw [c16b0] | (simp only [i64_w, i32_w]; rw [c16b0]) | skip)
    have H' := Aside0.mk H
    clear H
    go_wp2
    go_meet
    case rel => exact ⟨_, (true), z7_, H', ⟨by first | omega | exact Nat.le_refl _⟩, ⟨by (with_reducible repeat (first | apply Kd.R_alloc | apply Kd.R_drewN | apply Kd.R_drew)); exact Kd.R_mono HO711.out (fun _ hk => trivial)⟩, ⟨by repeat (first | (with_reducible first | exact HB.out | apply below_alloc | apply pw_below_drewN | apply below_drew1) | exact HB.out)⟩⟩
   ·rw [if_neg c16] at H
    have c16b0 : (t717 != t720) = false := by simpa using c16
    (try (have c16b1 : decide (t717 = t720) = true := by simpa using c16))
    (try (have c16b2 : (t717 == t720) = true := by simpa using c16))
    clear c16
    (first | rw [c16b0] | (simp only [i64_w, i32_w]; rw [c16b0]) | skip)
    by_cases c17 : t717 = true
    ·subst c17
     have H1 : ((impl_HeadOf.f k t715 t716).bind fun t721 => ((laws_same.f t721 t712).bind fun t724 => (laws_FnHeads.j0 k l0 t707 t708 t709 (!t724)))) = some r := by rw [if_pos rfl] at H; exact H
     clear H
     have H := H1
     clear H1
     replace H := Option.bind_eq_some_iff.mp H
     obtain ⟨t721, A180, H⟩ := H
     replace H : ((laws_same.f t721 t712).bind fun t724 => (laws_FnHeads.j0 k l0 t707 t708 t709 (!t724))) = some r := H
     have A18 := Aside0.mk A180
     clear A180
     replace H := Option.bind_eq_some_iff.mp H
     obtain ⟨t724, A190, H⟩ := H
     replace H : (laws_FnHeads.j0 k l0 t707 t708 t709 (!t724)) = some r := H
     have A19 := Aside0.mk A190
     clear A190
     have H' := Aside0.mk H
     clear H
     go_wp2_with (first | (go_at_call 49; (with_reducible refine (impl_HeadOf.calls k t715 t716 t721 _ A18.out).mono ?_); rintro e w20 ⟨v722, rfl, ho0, hb⟩; have n0_ := Aside0.mk (Kd.R_elder' z13_ (Kd.R_base ho0) hb); have n1_ := Aside0.mk (Kd.R_elder' z21_ (Kd.R_base ho0) hb); have n2_ := Aside0.mk (Kd.R_lower (Kd.R_new' (Kd.R_new' ho0 (Kd.R_lt z13_)) (Kd.R_lt z21_)) (below_size z1_)); have n3_ := Aside0.mk (below_step z1_ hb); clear HO711; clear HO714; clear HB; have HO711 := n0_; have HO714 := n1_; have HO723 := n2_; have HB := n3_; clear n0_ n1_ n2_ n3_; (try clear hb); (try clear hb2); (try clear hk); (try clear hi); (try clear ho0); obtain ⟨Ao21, co21, eo21⟩ := Kd.R_slice HO723.out; subst eo21) | (go_at_call 51; (with_reducible refine (laws_same.calls _ _ t721 _ _ t712 t724 _ ?side1 ?side2 ?side3 ?side4 A19.out).mono ?_); (case side1 => repeat (first | exact (Kd.R_reads' HO723.out).2.2 | (with_reducible refine Kd.C_alloc ?_ _) | (with_reducible refine Kd.C_drewN ?_ _) | (with_reducible refine Kd.C_drew ?_))); (case side2 => exact (Kd.R_reads' HO723.out).2.1); (case side3 => repeat (first | exact (Kd.R_reads' HO714.out).2.2 | (with_reducible refine Kd.C_alloc ?_ _) | (with_reducible refine Kd.C_drewN ?_ _) | (with_reducible refine Kd.C_drew ?_))); (case side4 => exact (Kd.R_reads' HO714.out).2.1); rintro e w' ⟨rfl, ⟨nd, rfl⟩⟩))
     go_meet
     case rel => exact ⟨_, (!t724), z7_, H', ⟨by first | omega | exact Nat.le_refl _⟩, ⟨by (with_reducible repeat (first | apply Kd.R_alloc | apply Kd.R_drewN | apply Kd.R_drew)); exact Kd.R_mono HO711.out (fun _ hk => trivial)⟩, ⟨by repeat (first | (with_reducible first | exact HB.out | apply below_alloc | apply pw_below_drewN | apply below_drew1) | exact HB.out)⟩⟩
    ·replace c17 := Bool.eq_false_iff.mpr c17
     subst c17
     have H1 : (laws_FnHeads.j0 k l0 t707 t708 t709 false) = some r := by rw [if_neg (show ¬ (false = true) by decide)] at H; exact H
     clear H
     have H := H1
     clear H1
     have H' := Aside0.mk H
     clear H
     go_wp2
     go_meet
     case rel => exact ⟨_, (false), z7_, H', ⟨by first | omega | exact Nat.le_refl _⟩, ⟨by (with_reducible repeat (first | apply Kd.R_alloc | apply Kd.R_drewN | apply Kd.R_drew)); exact Kd.R_mono HO711.out (fun _ hk => trivial)⟩, ⟨by repeat (first | (with_reducible first | exact HB.out | apply below_alloc | apply pw_below_drewN | apply below_drew1) | exact HB.out)⟩⟩
  case rest =>
   clear HC9
   try clear c1
   try clear c2
   try clear p2
   try clear c3
   try clear c4
   try clear c5
   try clear c10
   try clear c16
   try clear c16b0
   try clear c16b1
   try clear c16b2
   try clear c17
   try clear c20
   obtain ⟨kq, x56_8, rfl, HA, HJ8, HO_5, HB⟩ := hcut
   cases kq with
   | zero => exact absurd HA.out (by simp [laws_FnHeads.j0])
   | succ kj8 =>
    have H := HA.out
    clear HA
    simp only [laws_FnHeads.j0] at H
    by_cases c22 : x56_8 = true
    ·subst c22
     have H1 : (some false) = some r := by rw [if_pos rfl] at H; exact H
     clear H
     have H := H1
     clear H1
     exact absurd ((Option.some.inj H).trans hr_.out) (by decide)
    ·replace c22 := Bool.eq_false_iff.mpr c22
     subst c22
     have H1 : (if t707 < 1 then (laws_FnHeads.j1 kj8 l0 t707 t708 t709 true) else (if t707 > 60000 then (laws_FnHeads.j1 kj8 l0 t707 t708 t709 true) else (if t708 < 0 then (laws_FnHeads.j1 kj8 l0 t707 t708 t709 true) else (laws_FnHeads.j1 kj8 l0 t707 t708 t709 (decide (t708 > 18)))))) = some r := by rw [if_neg (show ¬ (false = true) by decide)] at H; exact H
     clear H
     have H := H1
     clear H1
     have HC23 := Aside0.mk H
     clear H
     go_upto_region 10 with (fail)
     go_cut [70] (fun v70 wc => ∃ (kq : Nat) (x70_22 : Bool), v70 = .bool x70_22 ∧ Aside0 (laws_FnHeads.j1 kq l0 t707 t708 t709 x70_22 = some r) ∧ Aside0 (kq ≤ kj8) ∧ Aside0 (Kd.R (Kd.int .u8) 5 wc w.heap.size (fun _ => True) v710 t709) ∧ Aside0 (Below w.heap.size w wc))
     case first =>
      have H := HC23.out
      clear HC23
      by_cases c24 : t707 < 1
      ·rw [if_pos c24] at H
       have c24b0 : decide (t707 < 1) = true := decide_eq_true c24
       clear c24
       (first | rw [c24b0] | (simp only [i64_w, i32_w]; rw [c24b0]) | skip)
       have H' := Aside0.mk H
       clear H
       go_wp2
       go_meet
       case rel => exact ⟨_, (true), z7_, H', ⟨by have := HJ8.out; first | omega | exact Nat.le_refl _⟩, ⟨by (with_reducible repeat (first | apply Kd.R_alloc | apply Kd.R_drewN | apply Kd.R_drew)); exact HO_5.out⟩, ⟨by repeat (first | (with_reducible first | exact HB.out | apply below_alloc | apply pw_below_drewN | apply below_drew1) | exact HB.out)⟩⟩
      ·rw [if_neg c24] at H
       have c24b0 : decide (t707 < 1) = false := decide_eq_false c24
       clear c24
       (first | rw [c24b0] | (simp only [i64_w, i32_w]; rw [c24b0]) | skip)
       by_cases c25 : t707 > 60000
       ·rw [if_pos c25] at H
        have c25b0 : decide (60000 < t707) = true := decide_eq_true c25
        clear c25
        have H' := Aside0.mk H
        clear H
        go_wp2
        go_meet
        case rel => exact ⟨_, (true), z7_, H', ⟨by have := HJ8.out; first | omega | exact Nat.le_refl _⟩, ⟨by (with_reducible repeat (first | apply Kd.R_alloc | apply Kd.R_drewN | apply Kd.R_drew)); exact HO_5.out⟩, ⟨by repeat (first | (with_reducible first | exact HB.out | apply below_alloc | apply pw_below_drewN | apply below_drew1) | exact HB.out)⟩⟩
       ·rw [if_neg c25] at H
        have c25b0 : decide (60000 < t707) = false := decide_eq_false c25
        clear c25
        by_cases c26 : t708 < 0
        ·rw [if_pos c26] at H
         have c26b0 : decide (t708 < 0) = true := decide_eq_true c26
         clear c26
         have H' := Aside0.mk H
         clear H
         go_wp2
         go_meet
         case rel => exact ⟨_, (true), z7_, H', ⟨by have := HJ8.out; first | omega | exact Nat.le_refl _⟩, ⟨by (with_reducible repeat (first | apply Kd.R_alloc | apply Kd.R_drewN | apply Kd.R_drew)); exact HO_5.out⟩, ⟨by repeat (first | (with_reducible first | exact HB.out | apply below_alloc | apply pw_below_drewN | apply below_drew1) | exact HB.out)⟩⟩
        ·rw [if_neg c26] at H
         have c26b0 : decide (t708 < 0) = false := decide_eq_false c26
         clear c26
         have H' := Aside0.mk H
         clear H
         go_wp2
         go_meet
         case rel => exact ⟨_, (decide (t708 > 18)), z7_, H', ⟨by have := HJ8.out; first | omega | exact Nat.le_refl _⟩, ⟨by (with_reducible repeat (first | apply Kd.R_alloc | apply Kd.R_drewN | apply Kd.R_drew)); exact HO_5.out⟩, ⟨by repeat (first | (with_reducible first | exact HB.out | apply below_alloc | apply pw_below_drewN | apply below_drew1) | exact HB.out)⟩⟩
     case rest =>
      clear HC23
      try clear c1
      try clear c2
      try clear p2
      try clear c3
      try clear c4
      try clear c5
      try clear c10
      try clear c16
      try clear c16b0
      try clear c16b1
      try clear c16b2
      try clear c17
      try clear c20
      try clear c22
      try clear c24
      try clear c24b0
      try clear c25
      try clear c25b0
      try clear c26
      try clear c26b0
      try clear p2
      obtain ⟨kq, x70_22, rfl, HA, HJ22, HO_5, HB⟩ := hcut
      cases kq with
      | zero => exact absurd HA.out (by simp [laws_FnHeads.j1])
      | succ kj22 =>
       have H := HA.out
       clear HA
       simp only [laws_FnHeads.j1] at H
       by_cases c27 : x70_22 = true
       ·subst c27
        have H1 : (some ((t709.length : Int) == 0)) = some r := by rw [if_pos rfl] at H; exact H
        clear H
        have H := H1
        clear H1
        obtain rfl := Option.some.inj H
        obtain ⟨Ao28, co28, eo28⟩ := Kd.R_slice HO_5.out
        subst eo28
        go_wp2
        go_ret
        exact ⟨by first | rfl | (simp [errW_none, errW_some] <;> rfl) | (simp [*, errW_none, errW_some] <;> rfl), by repeat (first | (with_reducible first | exact HB.out | apply below_alloc | apply pw_below_drewN | apply below_drew1) | exact HB.out)⟩
       ·replace c27 := Bool.eq_false_iff.mpr c27
        subst c27
        have H1 : ((impl_GetHead.f kj22 t709).bind fun bt725 => ((laws_bent.f l0 t709).bind fun t728 => ((impl_GetHead.f kj22 t728).bind fun bt731 => (if bt725.2.2 = true then (if bt725.1 = t707 then (if bt725.2.1 = t708 then (some (!bt731.2.2)) else (some false)) else (some false)) else (some false))))) = some r := by rw [if_neg (show ¬ (false = true) by decide)] at H; exact H
        clear H
        have H := H1
        clear H1
        replace H := Option.bind_eq_some_iff.mp H
        obtain ⟨⟨t725, t726, t727⟩, A290, H⟩ := H
        replace H : ((laws_bent.f l0 t709).bind fun t728 => ((impl_GetHead.f kj22 t728).bind fun bt731 => (if t727 = true then (if t725 = t707 then (if t726 = t708 then (some (!bt731.2.2)) else (some false)) else (some false)) else (some false)))) = some r := H
        have A29 := Aside0.mk A290
        clear A290
        replace H := Option.bind_eq_some_iff.mp H
        obtain ⟨t728, A300, H⟩ := H
        replace H : ((impl_GetHead.f kj22 t728).bind fun bt731 => (if t727 = true then (if t725 = t707 then (if t726 = t708 then (some (!bt731.2.2)) else (some false)) else (some false)) else (some false))) = some r := H
        have A30 := Aside0.mk A300
        clear A300
        replace H := Option.bind_eq_some_iff.mp H
        obtain ⟨⟨t731, t732, t733⟩, A310, H⟩ := H
        replace H : (if t727 = true then (if t725 = t707 then (if t726 = t708 then (some (!t733)) else (some false)) else (some false)) else (some false)) = some r := H
        have A31 := Aside0.mk A310
        clear A310
        by_cases c32 : t727 = true
        ·subst c32
         have H1 : (if t725 = t707 then (if t726 = t708 then (some (!t733)) else (some false)) else (some false)) = some r := by rw [if_pos rfl] at H; exact H
         clear H
         have H := H1
         clear H1
         by_cases c33 : t725 = t707
         ·rw [if_pos c33] at H
          have c33b0 : (t725 == t707) = true := beq_iff_eq.mpr c33
          have c33b1 : (t725 != t707) = false := bne_eq_false_iff_eq.mpr c33
          clear c33
          by_cases c34 : t726 = t708
          ·rw [if_pos c34] at H
           have c34b0 : (t726 == t708) = true := beq_iff_eq.mpr c34
           have c34b1 : (t726 != t708) = false := bne_eq_false_iff_eq.mpr c34
           clear c34
           obtain rfl := Option.some.inj H
           obtain ⟨Ao35, co35, eo35⟩ := Kd.R_slice HO_5.out
           subst eo35
           go_wp2_with (first | ((with_reducible refine gate_callee (f := 22) rfl ?_); refine goesL_ (some 76) rfl rfl Try.func22 (by kernel_rfl) rfl #[.slice Ao35 t709.length co35] rfl z0_ ?_; (with_reducible refine (impl_GetHead.calls kj22 _ _ t709 t725 t726 true _ ?side1 ?side2 A29.out).mono ?_); (case side1 => repeat (first | exact (Kd.R_reads' HO_5.out).2.2 | (with_reducible refine Kd.C_alloc ?_ _) | (with_reducible refine Kd.C_drewN ?_ _) | (with_reducible refine Kd.C_drew ?_))); (case side2 => exact (Kd.R_reads' HO_5.out).2.1); rintro e w36 ⟨rfl, hb⟩; refine ⟨_, rfl, ?_⟩; have n0_ := Aside0.mk (Kd.R_below z22_ hb); have n1_ := Aside0.mk (below_step z1_ hb); clear HO_5; clear HB; have HO_5 := n0_; have HB := n1_; clear n0_ n1_; (try clear hb); (try clear hb2); (try clear hk); (try clear hi)) | ((with_reducible refine gate_callee (f := 52) rfl ?_); refine goesL_ (some 83) rfl rfl Try.func52 (by kernel_rfl) rfl #[.slice A0 l0.length c0, .slice Ao35 t709.length co35] rfl z0_ ?_; (with_reducible refine (laws_bent.calls _ _ l0 _ _ t709 t728 _ ?side1 ?side2 ?side3 ?side4 A30.out).mono ?_); (case side1 => repeat (first | exact (Kd.C_below HR0.out HB.out) | (with_reducible refine Kd.C_alloc ?_ _) | (with_reducible refine Kd.C_drewN ?_ _) | (with_reducible refine Kd.C_drew ?_))); (case side2 => exact HC0.out); (case side3 => repeat (first | exact (Kd.R_reads' HO_5.out).2.2 | (with_reducible refine Kd.C_alloc ?_ _) | (with_reducible refine Kd.C_drewN ?_ _) | (with_reducible refine Kd.C_drew ?_))); (case side4 => exact (Kd.R_reads' HO_5.out).2.1); rintro e w37 ⟨v729, rfl, ho0, hb⟩; refine ⟨_, rfl, ?_⟩; have n0_ := Aside0.mk (Kd.R_elder' z22_ (Kd.R_base ho0) hb); have n1_ := Aside0.mk (Kd.R_lower (Kd.R_new' ho0 (Kd.R_lt z22_)) (below_size z1_)); have n2_ := Aside0.mk (below_step z1_ hb); clear HO_5; clear HB; have HO_5 := n0_; have HO730 := n1_; have HB := n2_; clear n0_ n1_ n2_; (try clear hb); (try clear hb2); (try clear hk); (try clear hi); (try clear ho0); obtain ⟨Ao38, co38, eo38⟩ := Kd.R_slice HO730.out; subst eo38) | ((with_reducible refine gate_callee (f := 22) rfl ?_); refine goesL_ (some 84) rfl rfl Try.func22 (by kernel_rfl) rfl #[.slice Ao38 t728.length co38] rfl z0_ ?_; (with_reducible refine (impl_GetHead.calls kj22 _ _ t728 t731 t732 t733 _ ?side1 ?side2 A31.out).mono ?_); (case side1 => repeat (first | exact (Kd.R_reads' HO730.out).2.2 | (with_reducible refine Kd.C_alloc ?_ _) | (with_reducible refine Kd.C_drewN ?_ _) | (with_reducible refine Kd.C_drew ?_))); (case side2 => exact (Kd.R_reads' HO730.out).2.1); rintro e w39 ⟨rfl, hb⟩; refine ⟨_, rfl, ?_⟩; have n0_ := Aside0.mk (Kd.R_below z22_ hb); have n1_ := Aside0.mk (Kd.R_below (by (with_reducible repeat (first | apply Kd.R_alloc | apply Kd.R_drewN | apply Kd.R_drew)); exact HO730.out) hb); have n2_ := Aside0.mk (below_step z1_ hb); clear HO_5; clear HO730; clear HB; have HO_5 := n0_; have HO730 := n1_; have HB := n2_; clear n0_ n1_ n2_; (try clear hb); (try clear hb2); (try clear hk); (try clear hi)))
           go_ret
           exact ⟨by first | rfl | (simp [errW_none, errW_some] <;> rfl) | (simp [*, errW_none, errW_some] <;> rfl), by repeat (first | (with_reducible first | exact HB.out | apply below_alloc | apply pw_below_drewN | apply below_drew1) | exact HB.out)⟩
          ·rw [if_neg c34] at H
           have c34b0 : (t726 == t708) = false := beq_eq_false_iff_ne.mpr c34
           have c34b1 : (t726 != t708) = true := bne_iff_ne.mpr c34
           exact absurd ((Option.some.inj H).trans hr_.out) (by decide)
         ·rw [if_neg c33] at H
          have c33b0 : (t725 == t707) = false := beq_eq_false_iff_ne.mpr c33
          have c33b1 : (t725 != t707) = true := bne_iff_ne.mpr c33
          exact absurd ((Option.some.inj H).trans hr_.out) (by decide)
        ·replace c32 := Bool.eq_false_iff.mpr c32
         subst c32
         have H1 : (some false) = some r := by rw [if_neg (show ¬ (false = true) by decide)] at H; exact H
         clear H
         have H := H1
         clear H1
         exact absurd ((Option.some.inj H).trans hr_.out) (by decide)

/-- THE ONE PURE STATEMENT of laws_FnHeads: yours. -/
theorem laws_FnHeads.walk (P : laws_FnHeads.Pure) (a0 : Option Addr) (len0 cap0 : Nat) (z0 : List Int) (w : World) (w0 : (a0 = none ∧ len0 = 0 ∧ cap0 = 0 ∧ z0 = []) ∨ ∃ x, a0 = some x ∧ len0 ≤ cap0 ∧ cap0 ≤ maxLen ∧ z0.length = cap0 ∧ (∀ i, i < z0.length → w.cell? (x.add i) = some (.int .u8 (z0.getD i 0))) ∧ ∀ n ∈ z0, (Lit.int .u8 n).wf = true) (y0 : len0 * 1 ≤ 140737488351232) :
  Calls Try.prog 10 #[.slice a0 len0 cap0] w fun e w' => e = .returned (.bool true) ∧ Below w.heap.size w w' := by
 obtain ⟨l0, rfl, hr0, hm0, hw0, hc0⟩ := ReadsInt.ofRowC w0
 obtain ⟨k, h⟩ := P l0 hm0 y0 hw0
 refine (laws_FnHeads.calls k _ _ l0 true w (Kd.C_of_reads (d := (0 : Int)) (h1 := fun _ => rfl) hr0) hc0 ⟨rfl⟩ h).mono ?_
 rintro e w' ⟨rfl, hd⟩
 exact ⟨rfl, hd⟩

end Go.Proofs.Ytdanfcjaamcaiaa.P

/- Plain words that all further texts of this seat use: rounds of printed functions ('Ev'), whole numbers without wrap, bytes. No program is in sight here. -/
namespace Go.Proofs.Ytdanfcjaamcaiaa.Base
set_option linter.unusedVariables false
set_option linter.unusedSimpArgs false
open Go.RowKit Go.Proofs.YtdanfcjaamcaiaaW.PrintWords

/-! ### rounds -/
section
variable {α β : Type} {c : Prop} [Decidable c] {f g : Nat → Option α} {r : α}
theorem Ev.pos (h : c) (k : Ev f r) : Ev (fun n => if c then f n else g n) r := by
  obtain ⟨K, hK⟩ := k
  exact ⟨K, fun n hn => (if_pos h).trans (hK n hn)⟩
theorem Ev.neg (h : ¬ c) (k : Ev g r) : Ev (fun n => if c then f n else g n) r := by
  obtain ⟨K, hK⟩ := k
  exact ⟨K, fun n hn => (if_neg h).trans (hK n hn)⟩
theorem Ev.done {a : α} (h : a = r) : Ev (fun _ => some a) r := ⟨0, fun _ _ => by rw [h]⟩
theorem Ev.then {x : Option β} {a : β} {h : Nat → β → Option α} (e : x = some a) (k : Ev (fun n => h n a) r) : Ev (fun n => x.bind (h n)) r := by
  subst e
  exact k
theorem Ev.all {k : Nat} (h : Ev f r) : ∃ n, k ≤ n ∧ f n = some r := by
  obtain ⟨K, hK⟩ := h
  exact ⟨max K k, Nat.le_max_right _ _, hK _ (Nat.le_max_left _ _)⟩
end

/-! ### whole numbers -/
theorem w64 {n : Int} (h : -9223372036854775808 ≤ n) (h' : n ≤ 9223372036854775807) : wrap64 n = n := by unfold wrap64; omega
theorem wf_u8 {x : Int} (h : (Lit.int .u8 x).wf = true) : 0 ≤ x ∧ x ≤ 255 := by
  simpa [Lit.wf, IntKind.min, IntKind.max, IntKind.bits, IntKind.signed] using h

/-! ### bytes -/
def Bytes (l : List Int) : Prop := ∀ x ∈ l, 0 ≤ x ∧ x ≤ 255
theorem Bytes.of_wf {l : List Int} (h : ∀ x ∈ l, (Lit.int .u8 x).wf = true) : Bytes l := fun x hx => wf_u8 (h x hx)
theorem Bytes.nil : Bytes [] := fun _ h => by cases h
theorem Bytes.append {l m : List Int} (h : Bytes l) (k : Bytes m) : Bytes (l ++ m) := fun x hx => (List.mem_append.1 hx).elim (h x) (k x)
theorem Bytes.cons {a : Int} {l : List Int} (ha : 0 ≤ a ∧ a ≤ 255) (h : Bytes l) : Bytes (a :: l) := fun x hx => (List.mem_cons.1 hx).elim (fun e => e ▸ ha) (h x)
theorem Bytes.take {l : List Int} (h : Bytes l) (n : Nat) : Bytes (l.take n) := fun x hx => h x (List.mem_of_mem_take hx)
theorem Bytes.drop {l : List Int} (h : Bytes l) (n : Nat) : Bytes (l.drop n) := fun x hx => h x (List.mem_of_mem_drop hx)
theorem rd_byte {l : List Int} (h : Bytes l) (i : Int) : 0 ≤ rd l i ∧ rd l i ≤ 255 := by
  unfold rd
  rw [List.getD_eq_getElem?_getD]
  by_cases hi : i.toNat < l.length
  · rw [List.getElem?_eq_getElem hi]
    exact h _ (List.getElem_mem hi)
  · rw [List.getElem?_eq_none (by omega)]
    exact ⟨by decide, by decide⟩
theorem w64_byte {l : List Int} (h : Bytes l) (i : Int) : wrap64 (rd l i) = rd l i := by
  obtain ⟨a, b⟩ := rd_byte h i
  exact w64 (by omega) (by omega)

/-! ### equality, and lists by their elements -/
noncomputable def eqB {α : Type} (x y : α) : Bool := @decide (x = y) (Classical.propDecidable _)
theorem eqB_iff {α : Type} {x y : α} : eqB x y = true ↔ x = y := by unfold eqB; simp
theorem eqB_same {α : Type} (x : α) : eqB x x = true := eqB_iff.2 rfl
theorem eqB_not {α : Type} {x y : α} (h : x ≠ y) : eqB x y = false := by rw [← Bool.not_eq_true, eqB_iff]; exact h
theorem text_inj {s t : ByteArray} (h : s.toList = t.toList) : s = t := by
  rw [ByteArray.toList_eq, ByteArray.toList_eq] at h
  exact WideShapes.bytes_inj h
theorem cast_succ (i : Nat) : ((i : Int) + 1) = ((i + 1 : Nat) : Int) := rfl
theorem getD_nat {α : Type} (l : List α) (d : α) {i : Nat} (h : i < l.length) : l.getD ((i : Int)).toNat d = l[i] := by
  rw [Int.toNat_natCast, List.getD_eq_getElem?_getD, List.getElem?_eq_getElem h]; rfl
theorem rd_getElem {l : List Int} {i : Nat} (h : i < l.length) : rd l (i : Int) = l[i] := getD_nat l 0 h
theorem drop_rd {l : List Int} {i : Nat} (h : i < l.length) : l.drop i = rd l (i : Int) :: l.drop (i + 1) := by
  rw [rd_getElem h]; exact List.drop_eq_getElem_cons h
theorem bytesOf_strOfNums {l : List Int} (h : Bytes l) : bytesOf (strOfNums l) = l := by
  unfold bytesOf strOfNums
  simp only [List.map_map]
  refine (List.map_congr_left (g := id) fun x hx => ?_).trans (List.map_id _)
  have := h x hx
  simp only [Function.comp_apply, id_eq, UInt8.toNat_ofNat']
  omega
theorem strOfNums_inj {l m : List Int} (hl : Bytes l) (hm : Bytes m) : (strOfNums l).toList = (strOfNums m).toList ↔ l = m :=
  ⟨fun h => by rw [← bytesOf_strOfNums hl, ← bytesOf_strOfNums hm, text_inj h], fun h => by rw [h]⟩
end Go.Proofs.Ytdanfcjaamcaiaa.Base

/- The checksum as a function on natural numbers, and that a changed byte changes it. Plain arithmetic: no program is in sight here. -/
namespace Go.Proofs.Ytdanfcjaamcaiaa.Crc
set_option linter.unusedVariables false
set_option linter.unusedSimpArgs false

def bit (s : Nat) : Nat := if 2 * s > 65535 then (2 * s) ^^^ 69665 else 2 * s
def bits (s : Nat) : Nat → Nat
  | 0 => s
  | k + 1 => bits (bit s) k
@[irreducible] def byte (s x : Nat) : Nat := bits (s ^^^ (256 * x)) 8
def sum : Nat → List Int → Nat
  | s, [] => s
  | s, x :: xs => sum (byte s x.toNat) xs

theorem xor_cancel {a b c : Nat} (h : a ^^^ b = a ^^^ c) : b = c := by
  have := congrArg (a ^^^ ·) h
  simpa [← Nat.xor_assoc] using this
theorem xor_cancel' {a b c : Nat} (h : b ^^^ a = c ^^^ a) : b = c := by
  rw [Nat.xor_comm b, Nat.xor_comm c] at h
  exact xor_cancel h
theorem sum_cons (s : Nat) (x : Int) (xs : List Int) : sum s (x :: xs) = sum (byte s x.toNat) xs := by rw [sum]
theorem bit_lt {s : Nat} (h : s < 65536) : bit s < 65536 := by
  unfold bit
  split
  · have e : ((2 * s) ^^^ 69665) / 2 ^ 16 = (2 * s) / 2 ^ 16 ^^^ 69665 / 2 ^ 16 := Nat.xor_div_two_pow
    have e1 : (2 * s) / 2 ^ 16 = 1 := by omega
    rw [e1] at e
    have e2 : (1 : Nat) ^^^ 69665 / 2 ^ 16 = 0 := by decide
    rw [e2] at e
    omega
  · omega
theorem bit_mod (s : Nat) : bit s % 2 = if 2 * s > 65535 then 1 else 0 := by
  unfold bit
  split
  · have e : ((2 * s) ^^^ 69665) % 2 ^ 1 = (2 * s) % 2 ^ 1 ^^^ 69665 % 2 ^ 1 := Nat.xor_mod_two_pow
    have e1 : (2 * s) % 2 ^ 1 = 0 := by omega
    rw [e1] at e
    have e2 : (0 : Nat) ^^^ 69665 % 2 ^ 1 = 1 := by decide
    rw [e2] at e
    omega
  · omega
theorem bit_inj {s t : Nat} (h : bit s = bit t) : s = t := by
  have hm := congrArg (· % 2) h
  simp only [bit_mod] at hm
  unfold bit at h
  by_cases hs : 2 * s > 65535
  · by_cases ht : 2 * t > 65535
    · rw [if_pos hs, if_pos ht] at h
      have := xor_cancel' h
      omega
    · rw [if_pos hs, if_neg ht] at hm
      omega
  · by_cases ht : 2 * t > 65535
    · rw [if_neg hs, if_pos ht] at hm
      omega
    · rw [if_neg hs, if_neg ht] at h
      omega
theorem bits_lt {s : Nat} (h : s < 65536) (k : Nat) : bits s k < 65536 := by
  induction k generalizing s with
  | zero => exact h
  | succ k ih => exact ih (bit_lt h)
theorem bits_inj {s t : Nat} (k : Nat) (h : bits s k = bits t k) : s = t := by
  induction k generalizing s t with
  | zero => exact h
  | succ k ih => exact bit_inj (ih h)
theorem byte_def (s x : Nat) : bits (s ^^^ (256 * x)) 8 = byte s x := by unfold byte; rfl
theorem byte_lt {s x : Nat} (h : s < 65536) (hx : x ≤ 255) : byte s x < 65536 := by
  unfold byte
  have h2 : s ^^^ (256 * x) < 65536 := Nat.xor_lt_two_pow (n := 16) h (by omega)
  generalize s ^^^ (256 * x) = y at h2
  exact bits_lt h2 _
theorem byte_inj_left {s t x : Nat} (h : byte s x = byte t x) : s = t := by
  unfold byte at h
  generalize 8 = k at h
  exact xor_cancel' (bits_inj k h)
theorem byte_inj_right {s x y : Nat} (h : byte s x = byte s y) : x = y := by
  unfold byte at h
  generalize 8 = k at h
  have := xor_cancel (bits_inj k h)
  omega
theorem sum_lt (l : List Int) (hl : Base.Bytes l) {s : Nat} (h : s < 65536) : sum s l < 65536 := by
  induction l generalizing s with
  | nil => exact h
  | cons x xs ih =>
    have hx := hl x (List.mem_cons_self ..)
    rw [sum_cons]
    exact ih (fun y hy => hl y (List.mem_cons_of_mem _ hy)) (byte_lt h (by omega))
theorem sum_inj (l : List Int) {s t : Nat} (h : sum s l = sum t l) : s = t := by
  induction l generalizing s t with
  | nil => exact h
  | cons x xs ih =>
    rw [sum_cons, sum_cons] at h
    exact byte_inj_left (ih h)
/-- A changed byte changes the sum. -/
theorem sum_set (l : List Int) (s : Nat) (i : Nat) (hi : i < l.length) (y : Int) (hy : 0 ≤ y) (hx : 0 ≤ l[i]) (hne : y ≠ l[i]) : sum s (l.set i y) ≠ sum s l := by
  induction l generalizing s i with
  | nil => simp at hi
  | cons a as__ ih =>
    cases i with
    | zero =>
      intro h
      rw [List.set_cons_zero, sum_cons, sum_cons] at h
      have h2 := byte_inj_right (sum_inj as__ h)
      simp only [List.getElem_cons_zero] at hx hne
      omega
    | succ i =>
      simp only [List.getElem_cons_succ] at hx hne
      rw [List.set_cons_succ, sum_cons, sum_cons]
      exact ih (byte s a.toNat) i (by simpa using hi) hx hne
end Go.Proofs.Ytdanfcjaamcaiaa.Crc

/- What the printed functions on bytes, words and texts come to: the laws' own copies, marks and comparisons, and the functions of the first chapter. No memory is in sight here. -/
namespace Go.Proofs.Ytdanfcjaamcaiaa.Fn
set_option linter.unusedVariables false
set_option linter.unusedSimpArgs false
open Go.RowKit Go.Proofs.YtdanfcjaamcaiaaW.PrintWords Go.Proofs.Ytdanfcjaamcaiaa.P Go.Proofs.Ytdanfcjaamcaiaa.Base

/-! ### copies -/

/-! ### comparisons -/

/-! ### marks -/

/-! ### ranges and words -/
theorem isIn (a b c : Int) : impl_isIn.f a b c = some (decide (b ≤ a ∧ a ≤ c)) := by
  unfold impl_isIn.f
  by_cases h : b ≤ a
  · rw [if_pos h]; simp [h]
  · rw [if_neg h]; simp [h]
theorem l1In (a b c : Int) : spec_l1In.f a b c = some (decide (b ≤ a ∧ a ≤ c)) := by
  unfold spec_l1In.f
  by_cases h : a ≥ b
  · rw [if_pos h]; simp; omega
  · rw [if_neg h]; simp; omega
theorem wraps_i64 : ∀ n : Int, 0 ≤ n → n < 2 ^ 63 → IntKind.i64.wrap n = n := fun n h h' => by
  rw [IntKind.wrap_i64]; omega
theorem or_word {x y : Int} (hx : 0 ≤ x ∧ x ≤ 255) (hy : 0 ≤ y ∧ y ≤ 255) : Go.bits .or .i64 (x * 256) y = x * 256 + y :=
  Go.bits_join .i64 63 (by decide) wraps_i64 8 (x * 256) y (by omega) (by omega) (by omega) (by omega) (by omega) (by omega)
/-- The word at an offset. -/
def word (l : List Int) (a : Int) : Int × Int × Bool := if a < 0 ∨ (l.length : Int) - 2 < a then (0, 0, false) else (rd l a * 256 + rd l (a + 1), a + 2, true)
theorem spec_getWord (l : List Int) (a : Int) (hb : Bytes l) (hl : l.length ≤ 140737488351232) : spec_GetWord.f l a = some (word l a) := by
  unfold spec_GetWord.f word
  by_cases h0 : a < 0
  · rw [if_pos h0, if_pos (.inl h0)]
  rw [if_neg h0, w64 (n := (l.length : Int) - 2) (by omega) (by omega)]
  by_cases h1 : a > (l.length : Int) - 2
  · rw [if_pos h1, if_pos (.inr h1)]
  have r0 := rd_byte hb a
  have r1 := rd_byte hb (a + 1)
  rw [if_neg h1, if_neg (show ¬ (a < 0 ∨ (l.length : Int) - 2 < a) by omega), if_pos (by omega), if_pos (by omega), w64 (n := a + 1) (by omega) (by omega), if_pos (by omega), if_pos (by omega), w64_byte hb, w64_byte hb, w64 (n := rd l a * 256) (by omega) (by omega), w64 (n := rd l a * 256 + rd l (a + 1)) (by omega) (by omega), w64 (by omega) (by omega)]
theorem impl_getWord (l : List Int) (a : Int) (hb : Bytes l) (hl : l.length ≤ 140737488351232) : impl_GetWord.f l a = some (word l a) := by
  unfold impl_GetWord.f word
  rw [isIn, w64 (n := (l.length : Int) - 2) (by omega) (by omega)]
  simp only [Option.bind_some, decide_eq_true_eq]
  by_cases h : 0 ≤ a ∧ a ≤ (l.length : Int) - 2
  · have r0 := rd_byte hb a
    have r1 := rd_byte hb (a + 1)
    rw [if_pos h, if_neg (show ¬ (a < 0 ∨ (l.length : Int) - 2 < a) by omega), if_pos (by omega), if_pos (by omega), w64 (n := a + 1) (by omega) (by omega), if_pos (by omega), if_pos (by omega), w64_byte hb, w64_byte hb, w64 (n := rd l a * 256) (by omega) (by omega), or_word r0 r1, w64 (by omega) (by omega)]
  · rw [if_neg h, if_pos (by omega)]
end Go.Proofs.Ytdanfcjaamcaiaa.Fn

/- What the printed functions that make a checksum come to. No memory is in sight here. -/
namespace Go.Proofs.Ytdanfcjaamcaiaa.Fn
set_option linter.unusedVariables false
set_option linter.unusedSimpArgs false
open Go.RowKit Go.Proofs.YtdanfcjaamcaiaaW.PrintWords Go.Proofs.Ytdanfcjaamcaiaa.P Go.Proofs.Ytdanfcjaamcaiaa.Base

/-! ### the checksum -/
theorem bits_nat64 (a b : Nat) (ha : a < 2 ^ 63) (hb : b < 2 ^ 63) : Go.bits .and .i64 a b = ((a &&& b : Nat) : Int) := (Go.bits_nat .i64 63 (by decide) wraps_i64 a b ha hb).1
theorem xor_nat (a b : Nat) (ha : a < 2 ^ 63) (hb : b < 2 ^ 63) : Go.bits .xor .i64 a b = ((a ^^^ b : Nat) : Int) := by
  have hc : a ^^^ b < 2 ^ 63 := Nat.xor_lt_two_pow ha hb
  have hk : IntKind.i64.bits = 64 := rfl
  have ha' : a % 2 ^ IntKind.i64.bits = a := Nat.mod_eq_of_lt (by rw [hk]; omega)
  have hb' : b % 2 ^ IntKind.i64.bits = b := Nat.mod_eq_of_lt (by rw [hk]; omega)
  simp only [Go.bits, BitVec.ofInt_natCast, BitVec.toNat_xor, BitVec.toNat_ofNat, ha', hb']
  exact wraps_i64 _ (by omega) (by exact_mod_cast hc)
theorem and_mask (a : Nat) (ha : a < 65536) : Go.bits .and .i64 a 65535 = (a : Int) := by
  rw [show (65535 : Int) = ((65535 : Nat) : Int) from rfl, bits_nat64 a 65535 (by omega) (by omega), show (65535 : Nat) = 2 ^ 16 - 1 by decide, Nat.and_two_pow_sub_one_eq_mod, Nat.mod_eq_of_lt ha]
theorem bit_int {s : Nat} (h : s < 65536) : (if 65535 < wrap64 ((s : Int) * 2) then Go.bits .xor .i64 (wrap64 ((s : Int) * 2)) 69665 else wrap64 ((s : Int) * 2)) = (Crc.bit s : Int) := by
  unfold Crc.bit
  rw [w64 (by omega) (by omega)]
  by_cases hs : 2 * s > 65535
  · rw [if_pos (by omega), if_pos hs, show (s : Int) * 2 = ((2 * s : Nat) : Int) by omega, show (69665 : Int) = ((69665 : Nat) : Int) from rfl, xor_nat _ _ (by omega) (by omega)]
  · rw [if_neg (by omega), if_neg hs]; omega
theorem impl_Sum_l1 (l : List Int) (i : Nat) (r : Int) (s' : Nat) (d : Nat) : ∀ (j s : Nat), j + d = 8 → s < 65536 → Crc.bits s d = s' → Ev (fun k => impl_Sum.l0 k (s' : Int) l (l.length : Int) (wrap64 ((i : Int) + 1))) r → Ev (fun k => impl_Sum.l1 k (s : Int) l (l.length : Int) (i : Int) (j : Int)) r := by
  induction d with
  | zero =>
    intro j s hj hs he hk
    refine Ev.step (fun k => impl_Sum.l1.eq_2 _ _ _ _ _ k) (Ev.neg (by omega) ?_)
    rw [show s = s' from he]
    exact hk
  | succ d ih =>
    intro j s hj hs he hk
    refine Ev.step (fun k => impl_Sum.l1.eq_2 _ _ _ _ _ k) (Ev.pos (by omega) ?_)
    have hb := bit_int hs
    have hn := ih (j + 1) (Crc.bit s) (by omega) (Crc.bit_lt hs) he hk
    have hj1 : wrap64 ((j : Int) + 1) = ((j + 1 : Nat) : Int) := by rw [w64 (by omega) (by omega)]; rfl
    by_cases h : wrap64 ((s : Int) * 2) > 65535
    · rw [if_pos h] at hb
      refine Ev.pos h ?_
      rw [hb, hj1]
      exact hn
    · rw [if_neg h] at hb
      refine Ev.neg h ?_
      rw [hb, hj1]
      exact hn
theorem spec_Sum_l1 (l : List Int) (i : Nat) (r : Int) (s' : Nat) (d : Nat) : ∀ (j s : Nat), j + d = 8 → s < 65536 → Crc.bits s d = s' → Ev (fun k => spec_Sum.l0 k l (s' : Int) (wrap64 ((i : Int) + 1))) r → Ev (fun k => spec_Sum.l1 k l (s : Int) (i : Int) (j : Int)) r := by
  induction d with
  | zero =>
    intro j s hj hs he hk
    refine Ev.step (fun k => spec_Sum.l1.eq_2 _ _ _ _ k) (Ev.neg (by omega) ?_)
    rw [show s = s' from he]
    exact hk
  | succ d ih =>
    intro j s hj hs he hk
    refine Ev.step (fun k => spec_Sum.l1.eq_2 _ _ _ _ k) (Ev.pos (by omega) ?_)
    have hb := bit_int hs
    have hn := ih (j + 1) (Crc.bit s) (by omega) (Crc.bit_lt hs) he hk
    have hj1 : wrap64 ((j : Int) + 1) = ((j + 1 : Nat) : Int) := by rw [w64 (by omega) (by omega)]; rfl
    by_cases h : wrap64 ((s : Int) * 2) > 65535
    · rw [if_pos h] at hb
      refine Ev.pos h ?_
      rw [hb, hj1]
      exact hn
    · rw [if_neg h] at hb
      refine Ev.neg h ?_
      rw [hb, hj1]
      exact hn
theorem byte_int {s : Nat} {x : Int} (hs : s < 65536) (hx : 0 ≤ x ∧ x ≤ 255) : Go.bits .xor .i64 (s : Int) (wrap64 (x * 256)) = ((s ^^^ (256 * x.toNat) : Nat) : Int) := by
  rw [w64 (by omega) (by omega), show x * 256 = ((256 * x.toNat : Nat) : Int) by omega, xor_nat _ _ (by omega) (by omega)]
theorem impl_Sum_l0 (l : List Int) (hb : Bytes l) (hl : l.length ≤ 140737488351232) (d : Nat) : ∀ (i s : Nat), i + d = l.length → s < 65536 → Ev (fun k => impl_Sum.l0 k (s : Int) l (l.length : Int) (i : Int)) (Crc.sum s (l.drop i) : Int) := by
  induction d with
  | zero =>
    intro i s hi hs
    refine Ev.step (fun k => impl_Sum.l0.eq_2 _ _ _ _ k) (Ev.neg (by omega) (Ev.done ?_))
    rw [List.drop_of_length_le (by omega), and_mask s hs]; rfl
  | succ d ih =>
    intro i s hi hs
    have hr := rd_byte hb (i : Int)
    refine Ev.step (fun k => impl_Sum.l0.eq_2 _ _ _ _ k) (Ev.pos (by omega) (Ev.pos (by omega) (Ev.pos (by omega) ?_)))
    rw [drop_rd (by omega), Crc.sum_cons, w64_byte hb, Int.mul_comm 256, byte_int hs hr]
    refine impl_Sum_l1 l i _ _ 8 0 _ (by omega) (Nat.xor_lt_two_pow (n := 16) hs (by omega)) (Crc.byte_def _ _) ?_
    rw [w64 (by omega) (by omega), cast_succ]
    exact ih (i + 1) _ (by omega) (Crc.byte_lt hs (by omega))
theorem spec_Sum_l0 (l : List Int) (hb : Bytes l) (hl : l.length ≤ 140737488351232) (d : Nat) : ∀ (i s : Nat), i + d = l.length → s < 65536 → Ev (fun k => spec_Sum.l0 k l (s : Int) (i : Int)) (Crc.sum s (l.drop i) : Int) := by
  induction d with
  | zero =>
    intro i s hi hs
    refine Ev.step (fun k => spec_Sum.l0.eq_2 _ _ _ k) (Ev.neg (by omega) (Ev.done ?_))
    rw [List.drop_of_length_le (by omega), and_mask s hs]; rfl
  | succ d ih =>
    intro i s hi hs
    have hr := rd_byte hb (i : Int)
    refine Ev.step (fun k => spec_Sum.l0.eq_2 _ _ _ k) (Ev.pos (by omega) (Ev.pos (by omega) ?_))
    rw [drop_rd (by omega), Crc.sum_cons, w64_byte hb, byte_int hs hr]
    refine spec_Sum_l1 l i _ _ 8 0 _ (by omega) (Nat.xor_lt_two_pow (n := 16) hs (by omega)) (Crc.byte_def _ _) ?_
    rw [w64 (by omega) (by omega), cast_succ]
    exact ih (i + 1) _ (by omega) (Crc.byte_lt hs (by omega))
def crc (l : List Int) : Int := (Crc.sum 65535 l : Nat)
theorem impl_sum (l : List Int) (hb : Bytes l) (hl : l.length ≤ 140737488351232) : Ev (fun k => impl_Sum.f k l) (crc l) := by
  unfold impl_Sum.f
  exact impl_Sum_l0 l hb hl l.length 0 65535 (by omega) (by decide)
theorem spec_sum (l : List Int) (hb : Bytes l) (hl : l.length ≤ 140737488351232) : Ev (fun k => spec_Sum.f k l) (crc l) := by
  unfold spec_Sum.f
  exact spec_Sum_l0 l hb hl l.length 0 65535 (by omega) (by decide)
end Go.Proofs.Ytdanfcjaamcaiaa.Fn

/- What the printed functions that write words and texts come to. No memory is in sight here. -/
namespace Go.Proofs.Ytdanfcjaamcaiaa.Fn
set_option linter.unusedVariables false
set_option linter.unusedSimpArgs false
open Go.RowKit Go.Proofs.YtdanfcjaamcaiaaW.PrintWords Go.Proofs.Ytdanfcjaamcaiaa.P Go.Proofs.Ytdanfcjaamcaiaa.Base

theorem clone (l : List Int) (hl : l.length < 140737488355328) : slices_Clone_byte_byte.f l = some l := by
  unfold slices_Clone_byte_byte.f
  simp only [Option.bind_some, List.nil_append, List.length_nil, Nat.zero_add]
  rw [if_pos hl]
theorem and255_mod (x : Int) : Go.bits .and .i64 x 255 = x % 256 := by
  have hk : IntKind.i64.bits = 64 := rfl
  have h255 : (255 : Nat) % 2 ^ IntKind.i64.bits = 255 := by decide
  rw [show (255 : Int) = ((255 : Nat) : Int) from rfl]
  simp only [Go.bits, BitVec.ofInt_natCast, BitVec.toNat_and, BitVec.toNat_ofNat, h255]
  rw [show (255 : Nat) = 2 ^ 8 - 1 by decide, Nat.and_two_pow_sub_one_eq_mod, BitVec.toNat_ofInt, hk, wraps_i64 _ (by omega) (by omega)]
  omega
/-- The two bytes of a word. -/
def wordBytes (n : Int) : List Int := [n / 256 % 256, n % 256]
theorem wordBytes_bytes (n : Int) : Bytes (wordBytes n) := Bytes.cons (by omega) (Bytes.cons (by omega) Bytes.nil)
theorem wordBytes_length (n : Int) : (wordBytes n).length = 2 := rfl
theorem spec_putWord (l : List Int) (n : Int) (hl : l.length < 140737488355326) : spec_PutWord.f l n = some (l ++ wordBytes n) := by
  unfold spec_PutWord.f wordBytes
  simp only [Option.bind_some, List.nil_append, List.length_nil, Nat.zero_add, List.length_cons]
  rw [if_pos (by omega), if_pos (by omega), and255_mod, and255_mod]
  simp
theorem impl_putWord (l : List Int) (n : Int) (hl : l.length < 140737488355326) : impl_PutWord.f l n = some (l ++ wordBytes n) := by
  unfold impl_PutWord.f wordBytes
  rw [clone l (by omega)]
  simp only [Option.bind_some, List.length_cons, List.length_nil]
  rw [if_pos (by omega)]
end Go.Proofs.Ytdanfcjaamcaiaa.Fn

/- What the printed functions on heads come to. No memory is in sight here. -/
namespace Go.Proofs.Ytdanfcjaamcaiaa.Fn
set_option linter.unusedVariables false
set_option linter.unusedSimpArgs false
open Go.RowKit Go.Proofs.YtdanfcjaamcaiaaW.PrintWords Go.Proofs.Ytdanfcjaamcaiaa.P Go.Proofs.Ytdanfcjaamcaiaa.Base

/-- Bytes, and the checksum behind them. -/
def summed (l : List Int) : List Int := l ++ wordBytes (crc l)
def headOf (g n : Int) : List Int := if 1 ≤ g ∧ g ≤ 60000 ∧ 0 ≤ n ∧ n ≤ 18 then summed (wordBytes g ++ wordBytes n) else []
theorem headBytes (g n : Int) : Bytes (wordBytes g ++ wordBytes n) := (wordBytes_bytes g).append (wordBytes_bytes n)
theorem summed_bytes {l : List Int} (h : Bytes l) : Bytes (summed l) := h.append (wordBytes_bytes _)
theorem headOf_bytes (g n : Int) : Bytes (headOf g n) := by
  unfold headOf
  split
  · exact summed_bytes (headBytes g n)
  · exact Bytes.nil
theorem headOf_length (g n : Int) : (headOf g n).length ≤ 6 := by
  unfold headOf
  split
  · simp [summed, wordBytes]
  · simp
theorem spec_headOf (g n : Int) : Ev (fun k => spec_HeadOf.f k g n) (headOf g n) := by
  unfold spec_HeadOf.f headOf
  have bad : ∀ b : Bool, b = true → Ev (fun k => spec_HeadOf.j0 k g n b) [] := fun b hb => Ev.step (fun k => spec_HeadOf.j0.eq_2 _ _ _ k) (Ev.pos hb (Ev.done rfl))
  refine Ev.then (l1In _ _ _) ?_
  by_cases hg : 1 ≤ g ∧ g ≤ 60000
  · refine Ev.pos (by simpa using hg) (Ev.then (l1In _ _ _) ?_)
    by_cases hn : 0 ≤ n ∧ n ≤ 18
    · rw [if_pos ⟨hg.1, hg.2, hn⟩]
      refine Ev.step (fun k => spec_HeadOf.j0.eq_2 _ _ _ k) (Ev.neg (by simp; omega) (Ev.then (spec_putWord _ _ (by simp)) (Ev.then (spec_putWord _ _ (by simp [wordBytes])) (Ev.bind (spec_sum _ (headBytes g n) (by simp [wordBytes])) (Ev.then (spec_putWord _ _ (by simp [wordBytes])) (Ev.done rfl))))))
    · rw [if_neg (by omega)]
      exact bad _ (by simp; omega)
  · rw [if_neg (by omega)]
    exact Ev.neg (by simp; omega) (bad _ rfl)
theorem impl_headOf (g n : Int) : Ev (fun k => impl_HeadOf.f k g n) (headOf g n) := by
  unfold impl_HeadOf.f headOf
  have bad : ∀ b : Bool, b = true → Ev (fun k => impl_HeadOf.j0 k g n b) [] := fun b hb => Ev.step (fun k => impl_HeadOf.j0.eq_2 _ _ _ k) (Ev.pos hb (Ev.done rfl))
  refine Ev.then (isIn _ _ _) ?_
  by_cases hg : 1 ≤ g ∧ g ≤ 60000
  · refine Ev.pos (by simpa using hg) (Ev.then (isIn _ _ _) ?_)
    by_cases hn : 0 ≤ n ∧ n ≤ 18
    · rw [if_pos ⟨hg.1, hg.2, hn⟩]
      refine Ev.step (fun k => impl_HeadOf.j0.eq_2 _ _ _ k) (Ev.neg (by simp; omega) (Ev.then (impl_putWord _ _ (by simp)) (Ev.then (impl_putWord _ _ (by simp [wordBytes])) (Ev.bind (impl_sum _ (headBytes g n) (by simp [wordBytes])) (Ev.then (impl_putWord _ _ (by simp [wordBytes])) (Ev.done rfl))))))
    · rw [if_neg (by omega)]
      exact bad _ (by simp; omega)
  · rw [if_neg (by omega)]
    exact Ev.neg (by simp; omega) (bad _ rfl)
end Go.Proofs.Ytdanfcjaamcaiaa.Fn

/- What the printed functions that read heads come to. No memory is in sight here. -/
namespace Go.Proofs.Ytdanfcjaamcaiaa.Fn
set_option linter.unusedVariables false
set_option linter.unusedSimpArgs false
open Go.RowKit Go.Proofs.YtdanfcjaamcaiaaW.PrintWords Go.Proofs.Ytdanfcjaamcaiaa.P Go.Proofs.Ytdanfcjaamcaiaa.Base

theorem sameBytes {l m : List Int} (hl : Bytes l) (hm : Bytes m) : ((strOfNums l).toList == (strOfNums m).toList) = eqB l m := by
  rw [Bool.eq_iff_iff, beq_iff_eq, eqB_iff, strOfNums_inj hl hm]
noncomputable def getHead (l : List Int) : Int × Int × Bool :=
  @ite _ (l ≠ [] ∧ headOf (word l 0).1 (word l 2).1 = l) (Classical.propDecidable _) ((word l 0).1, (word l 2).1, true) (0, 0, false)
theorem getHead_yes {l : List Int} (h : l ≠ [] ∧ headOf (word l 0).1 (word l 2).1 = l) : getHead l = ((word l 0).1, (word l 2).1, true) := if_pos h
theorem getHead_no {l : List Int} (h : ¬ (l ≠ [] ∧ headOf (word l 0).1 (word l 2).1 = l)) : getHead l = (0, 0, false) := if_neg h
theorem headOf_six {g n : Int} (h : headOf g n ≠ []) : (headOf g n).length = 6 := by
  unfold headOf at h ⊢
  split
  · simp [summed, wordBytes]
  · rename_i hc
    rw [if_neg hc] at h
    exact absurd rfl h
theorem impl_getHead (l : List Int) (hb : Bytes l) (hl : l.length ≤ 140737488351232) : Ev (fun k => impl_GetHead.f k l) (getHead l) := by
  unfold impl_GetHead.f
  refine Ev.then (impl_getWord l 0 hb hl) (Ev.then (impl_getWord l 2 hb hl) ?_)
  by_cases h0 : l = []
  · rw [getHead_no (fun h => h.1 h0)]
    exact Ev.pos (by rw [h0]; rfl) (Ev.done rfl)
  have h0' : l.length ≠ 0 := fun e => h0 (List.eq_nil_of_length_eq_zero e)
  refine Ev.neg (by omega) (Ev.bind (impl_headOf _ _) ?_)
  unfold bytes_Equal.f
  rw [sameBytes (headOf_bytes _ _) hb]
  by_cases h : headOf (word l 0).1 (word l 2).1 = l
  · rw [getHead_yes ⟨h0, h⟩]
    exact Ev.then rfl (Ev.pos (eqB_iff.2 h) (Ev.done rfl))
  · rw [getHead_no (fun e => h e.2)]
    exact Ev.then rfl (Ev.neg (by rw [eqB_not h]; decide) (Ev.done rfl))
theorem spec_getHead (l : List Int) (hb : Bytes l) (hl : l.length ≤ 140737488351232) : Ev (fun k => spec_GetHead.f k l) (getHead l) := by
  unfold spec_GetHead.f
  refine Ev.then (spec_getWord l 0 hb hl) (Ev.then (spec_getWord l 2 hb hl) ?_)
  by_cases hl6 : l.length = 6
  · have h0 : l ≠ [] := fun e => by rw [e] at hl6; cases hl6
    refine Ev.pos (by unfold word; rw [if_neg (by omega)]) (Ev.pos (by omega) (Ev.bind (spec_headOf _ _) ?_))
    unfold spec_l1Same.f
    rw [sameBytes (headOf_bytes _ _) hb]
    by_cases h : headOf (word l 0).1 (word l 2).1 = l
    · rw [getHead_yes ⟨h0, h⟩]
      exact Ev.then rfl (Ev.pos (eqB_iff.2 h) (Ev.done rfl))
    · rw [getHead_no (fun e => h e.2)]
      exact Ev.then rfl (Ev.neg (by rw [eqB_not h]; decide) (Ev.done rfl))
  · have hno : ¬ (l ≠ [] ∧ headOf (word l 0).1 (word l 2).1 = l) := by
      rintro ⟨h0, h⟩
      have := headOf_six (g := (word l 0).1) (n := (word l 2).1) (by rw [h]; exact h0)
      rw [h] at this
      exact hl6 this
    rw [getHead_no hno]
    by_cases h2 : (word l 2).2.2 = true
    · exact Ev.pos h2 (Ev.neg (by omega) (Ev.done rfl))
    · exact Ev.neg h2 (Ev.done rfl)
end Go.Proofs.Ytdanfcjaamcaiaa.Fn

/- What the printed functions that draw come to: whatever they draw, it lies in its range. No memory is in sight here. -/
namespace Go.Proofs.Ytdanfcjaamcaiaa.Fn
set_option linter.unusedVariables false
set_option linter.unusedSimpArgs false
open Go.RowKit Go.Proofs.YtdanfcjaamcaiaaW.PrintWords Go.Proofs.Ytdanfcjaamcaiaa.P Go.Proofs.Ytdanfcjaamcaiaa.Base

/-- A cursor over the bytes l, at place i. -/
def Cur (l : List Int) (i : Int) : Prop := 0 ≤ i ∧ i ≤ l.length ∧ l.length ≤ 140737488351232
theorem and_range (x : Int) (m : Nat) (hm : m < 2 ^ 63) : 0 ≤ Go.bits .and .i64 x m ∧ Go.bits .and .i64 x m ≤ m := by
  have hk : IntKind.i64.bits = 64 := rfl
  have hm' : m % 2 ^ IntKind.i64.bits = m := Nat.mod_eq_of_lt (by rw [hk]; omega)
  have hle : (BitVec.ofInt IntKind.i64.bits x).toNat &&& m ≤ m := Nat.and_le_right
  simp only [Go.bits, BitVec.ofInt_natCast, BitVec.toNat_and, BitVec.toNat_ofNat, hm']
  rw [wraps_i64 _ (by omega) (by omega)]
  omega
theorem and255 (x : Int) : 0 ≤ Go.bits .and .i64 x 255 ∧ Go.bits .and .i64 x 255 ≤ 255 := and_range x 255 (by decide)
theorem l1New_l0 (l : List Int) (hl : l.length ≤ 140737488351232) (d : Nat) : ∀ (i : Nat) (h : Int), i + d = l.length → ∃ h', Ev (fun k => spec_l1New.l0 k l h (i : Int)) (l, 0, h') := by
  induction d with
  | zero =>
    intro i h hi
    exact ⟨h, Ev.step (fun k => spec_l1New.l0.eq_2 _ _ _ k) (Ev.neg (by omega) (Ev.done rfl))⟩
  | succ d ih =>
    intro i h hi
    by_cases h4 : (i : Int) < 4000
    · obtain ⟨h', hh⟩ := ih (i + 1) (Go.bits .and .i64 (wrap64 ((wrap64 ((wrap64 (h * 137)) + (wrap64 (rd l i)))) + 11)) 1073741823) (by omega)
      refine ⟨h', Ev.step (fun k => spec_l1New.l0.eq_2 _ _ _ k) (Ev.pos (by omega) (Ev.pos h4 (Ev.pos (by omega) ?_)))⟩
      rw [w64 (n := (i : Int) + 1) (by omega) (by omega), cast_succ]
      exact hh
    · exact ⟨h, Ev.step (fun k => spec_l1New.l0.eq_2 _ _ _ k) (Ev.pos (by omega) (Ev.neg h4 (Ev.done rfl)))⟩
theorem l1New (l : List Int) (hl : l.length ≤ 140737488351232) : ∃ h, Ev (fun k => spec_l1New.f k l) (l, 0, h) := by
  unfold spec_l1New.f
  exact l1New_l0 l hl l.length 0 _ (by omega)
theorem Cur.zero {l : List Int} (hl : l.length ≤ 140737488351232) : Cur l 0 := ⟨by omega, by omega, hl⟩
theorem l1Byte {l : List Int} {i : Int} (hc : Cur l i) (h : Int) : ∃ r i' h', spec_l1Byte.f l i h = some (r, i', h') ∧ 0 ≤ r ∧ r ≤ 255 ∧ Cur l i' := by
  obtain ⟨h0, h1, h2⟩ := hc
  unfold spec_l1Byte.f
  by_cases hi : i < (l.length : Int)
  · rw [if_pos hi, if_pos h0, w64 (n := i + 1) (by omega) (by omega)]
    exact ⟨_, _, _, rfl, (and255 _).1, (and255 _).2, by omega, by omega, h2⟩
  · rw [if_neg hi]
    exact ⟨_, _, _, rfl, (and255 _).1, (and255 _).2, h0, h1, h2⟩
theorem tmod_range {x n : Int} (hx : 0 ≤ x) (hn : 0 < n) : 0 ≤ Int.tmod x n ∧ Int.tmod x n < n := by
  rw [Int.tmod_eq_emod_of_nonneg hx]
  exact ⟨Int.emod_nonneg _ (by omega), Int.emod_lt_of_pos _ hn⟩
theorem l1Below {l : List Int} {i : Int} (hc : Cur l i) (h n : Int) : ∃ r i' h', spec_l1Below.f l i h n = some (r, i', h') ∧ 0 ≤ r ∧ (0 < n → r < n) ∧ (n ≤ 0 → r = 0) ∧ Cur l i' := by
  unfold spec_l1Below.f
  by_cases h0 : n ≤ 0
  · rw [if_pos h0]; exact ⟨0, i, h, rfl, by omega, by omega, fun _ => rfl, hc⟩
  rw [if_neg h0]
  by_cases h1 : n ≤ 256
  · rw [if_pos h1]
    obtain ⟨r, i1, h1', e1, r0, r1, hc1⟩ := l1Byte hc h
    rw [e1]
    simp only [Option.bind_some]
    rw [if_neg (by omega)]
    have := tmod_range r0 (show 0 < n by omega)
    exact ⟨_, _, _, rfl, this.1, fun _ => this.2, by omega, hc1⟩
  · rw [if_neg h1]
    obtain ⟨x, i1, h1', e1, x0, x1, hc1⟩ := l1Byte hc h
    obtain ⟨y, i2, h2', e2, y0, y1, hc2⟩ := l1Byte hc1 h1'
    obtain ⟨z, i3, h3', e3, z0, z1, hc3⟩ := l1Byte hc2 h2'
    simp only [e1, e2, e3, Option.bind_some]
    rw [if_neg (by omega), w64 (n := x * 65536) (by omega) (by omega), w64 (n := y * 256) (by omega) (by omega), w64 (n := x * 65536 + y * 256) (by omega) (by omega), w64 (by omega) (by omega)]
    have := tmod_range (show 0 ≤ x * 65536 + y * 256 + z by omega) (show 0 < n by omega)
    exact ⟨_, _, _, rfl, this.1, fun _ => this.2, by omega, hc3⟩
theorem big (l : List Int) : laws_big.f l = some (decide ((l.length : Int) > 1048576)) := rfl
theorem at_ (l : List Int) (hb : Bytes l) (hl : l.length ≤ 1048576) (i : Int) (h0 : 0 ≤ i) (h1 : i ≤ 100) : ∃ r, laws_at.f l i = some r ∧ 0 ≤ r ∧ r ≤ 255 := by
  unfold laws_at.f
  by_cases h : i < (l.length : Int)
  · rw [if_pos h, if_pos h0, w64_byte hb]
    have := rd_byte hb i
    exact ⟨_, rfl, this⟩
  · rw [if_neg h, w64 (n := i * 31) (by omega) (by omega), w64 (n := (l.length : Int) * 7) (by omega) (by omega), w64 (by omega) (by omega)]
    have := tmod_range (x := i * 31 + (l.length : Int) * 7) (n := 256) (by omega) (by omega)
    exact ⟨_, rfl, this.1, by omega⟩
theorem xor_u8 {a b : Int} (ha : 0 ≤ a ∧ a ≤ 255) (hb : 0 ≤ b ∧ b ≤ 255) : Go.bits .xor .u8 a b = ((a.toNat ^^^ b.toNat : Nat) : Int) ∧ a.toNat ^^^ b.toNat < 256 := by
  obtain ⟨x, rfl⟩ := Int.eq_ofNat_of_zero_le ha.1
  obtain ⟨y, rfl⟩ := Int.eq_ofNat_of_zero_le hb.1
  have hk : IntKind.u8.bits = 8 := rfl
  have hx : x % 2 ^ IntKind.u8.bits = x := Nat.mod_eq_of_lt (by rw [hk]; omega)
  have hy : y % 2 ^ IntKind.u8.bits = y := Nat.mod_eq_of_lt (by rw [hk]; omega)
  have hc : x ^^^ y < 2 ^ 8 := Nat.xor_lt_two_pow (by omega) (by omega)
  refine ⟨?_, by simpa using hc⟩
  simp only [Go.bits, BitVec.ofInt_natCast, BitVec.toNat_xor, BitVec.toNat_ofNat, hx, hy, IntKind.wrap_u8, Int.toNat_natCast]
  omega
/-- A byte of b, if it has one, is turned. -/
def Turned (b x : List Int) : Prop := b = [] ∧ x = [] ∨ ∃ (i : Nat) (hi : i < b.length) (y : Int), x = b.set i y ∧ 0 ≤ y ∧ y ≤ 255 ∧ y ≠ b[i]
theorem bent (l b : List Int) (hb : Bytes l) (hl : l.length ≤ 1048576) (hB : Bytes b) (hlb : b.length ≤ 140737488351232) : ∃ x, laws_bent.f l b = some x ∧ Turned b x := by
  unfold laws_bent.f
  simp only [Option.bind_some, List.nil_append, List.length_nil, Nat.zero_add]
  rw [if_pos (by omega)]
  by_cases h : (b.length : Int) > 0
  · rw [if_pos h]
    obtain ⟨t2, e2, a2, b2⟩ := at_ l hb hl 2 (by omega) (by omega)
    obtain ⟨t3, e3, a3, b3⟩ := at_ l hb hl 3 (by omega) (by omega)
    obtain ⟨t4, e4, a4, b4⟩ := at_ l hb hl 4 (by omega) (by omega)
    simp only [e2, e3, e4, Option.bind_some]
    rw [if_neg (by omega), w64 (n := t2 * 256) (by omega) (by omega), w64 (n := t2 * 256 + t3) (by omega) (by omega)]
    have hi := tmod_range (x := t2 * 256 + t3) (by omega) h
    have ht := tmod_range (x := t4) (n := 255) (by omega) (by omega)
    rw [if_pos hi.1, if_pos hi.2, w64 (n := 1 + Int.tmod t4 255) (by omega) (by omega), Int.emod_eq_of_lt (a := 1 + Int.tmod t4 255) (by omega) (by omega)]
    obtain ⟨i, hi'⟩ := Int.eq_ofNat_of_zero_le hi.1
    rw [hi'] at hi ⊢
    have hr := rd_byte hB (i : Int)
    have hx := xor_u8 hr (show 0 ≤ 1 + Int.tmod t4 255 ∧ 1 + Int.tmod t4 255 ≤ 255 by omega)
    refine ⟨_, rfl, .inr ⟨i, by omega, _, by rw [Int.toNat_natCast], by rw [hx.1]; omega, by rw [hx.1]; omega, ?_⟩⟩
    rw [hx.1, ← rd_getElem (by omega)]
    intro he
    have h2 : (rd b (i : Int)).toNat ^^^ (1 + Int.tmod t4 255).toNat = (rd b (i : Int)).toNat ^^^ 0 := by rw [Nat.xor_zero]; omega
    have := Crc.xor_cancel h2
    omega
  · rw [if_neg h]
    have : b = [] := List.eq_nil_of_length_eq_zero (by omega)
    exact ⟨b, rfl, .inl ⟨this, this⟩⟩
theorem Turned.bytes {b x : List Int} (h : Turned b x) (hb : Bytes b) : Bytes x := by
  rcases h with ⟨rfl, rfl⟩ | ⟨i, hi, y, rfl, h0, h1, _⟩
  · exact hb
  · intro z hz
    rcases List.mem_or_eq_of_mem_set hz with hz | rfl
    · exact hb z hz
    · exact ⟨h0, h1⟩
theorem Turned.length {b x : List Int} (h : Turned b x) : x.length = b.length := by
  rcases h with ⟨rfl, rfl⟩ | ⟨i, hi, y, rfl, _⟩
  · rfl
  · rw [List.length_set]
theorem Turned.crc {b x : List Int} (h : Turned b x) (hb : Bytes b) (h0 : 0 < b.length) : crc x ≠ crc b := by
  rcases h with ⟨rfl, rfl⟩ | ⟨i, hi, y, rfl, h1, _, h3⟩
  · simp at h0
  · intro he
    unfold Fn.crc at he
    have hx := hb _ (List.getElem_mem hi)
    exact Crc.sum_set b 65535 i hi y h1 hx.1 h3 (by exact_mod_cast he)
theorem l1Once {l : List Int} {i : Int} (hc : Cur l i) (h n : Int) : ∃ r i' h', spec_l1Once.f l i h n = some (r, i', h') ∧ Cur l i' := by
  unfold spec_l1Once.f
  obtain ⟨r, i1, h1, e1, _, _, _, hc1⟩ := l1Below hc h n
  rw [e1]
  exact ⟨_, _, _, rfl, hc1⟩
theorem l1Int {l : List Int} {i : Int} (hc : Cur l i) (h : Int) (L : List Int) (h0 : L ≠ []) : ∃ r i' h', spec_l1Int.f l i h L = some (r, i', h') ∧ Cur l i' := by
  unfold spec_l1Int.f
  obtain ⟨r, i1, h1, e1, r0, r1, _, hc1⟩ := l1Below hc h L.length
  have hl : 0 < L.length := List.length_pos_iff.2 h0
  have hr := r1 (by omega)
  rw [e1]
  simp only [Option.bind_some]
  rw [if_pos r0, if_pos hr]
  exact ⟨_, _, _, rfl, hc1⟩
end Go.Proofs.Ytdanfcjaamcaiaa.Fn

/- What the printed functions that draw frames come to: bytes, and not many. -/
namespace Go.Proofs.Ytdanfcjaamcaiaa.Fn
set_option linter.unusedVariables false
set_option linter.unusedSimpArgs false
open Go.RowKit Go.Proofs.YtdanfcjaamcaiaaW.PrintWords Go.Proofs.Ytdanfcjaamcaiaa.P Go.Proofs.Ytdanfcjaamcaiaa.Base

theorem l1Bend {l : List Int} {i : Int} (hc : Cur l i) (h : Int) (b : List Int) (hb : Bytes b) (hl : b.length ≤ 1048576) : ∃ r i' h', spec_l1Bend.f l i h b = some (r, i', h') ∧ Bytes r ∧ r.length ≤ b.length + 1 ∧ Cur l i' := by
  unfold spec_l1Bend.f
  obtain ⟨q, i1, h1, e1, q0, q1, _, hc1⟩ := l1Below hc h 8
  simp only [Option.bind_some, List.nil_append, List.length_nil]
  rw [if_pos (by omega), e1, Option.bind_some]
  dsimp only
  by_cases k0 : q = 0
  · rw [if_pos k0]
    by_cases hp : (b.length : Int) > 0
    · rw [if_pos hp]
      obtain ⟨r, i2, h2, e2, r0, r1, _, hc2⟩ := l1Below hc1 h1 b.length
      obtain ⟨z, i3, h3, e3, z0, z1, _, hc3⟩ := l1Below hc2 h2 255
      have hr := r1 hp
      have hz := z1 (by omega)
      rw [e2]
      simp only [Option.bind_some]
      rw [if_pos r0, if_pos hr, e3]
      simp only [Option.bind_some]
      refine ⟨_, _, _, rfl, ?_, by rw [List.length_set]; (try dsimp only); omega, hc3⟩
      intro x hx
      rcases List.mem_or_eq_of_mem_set hx with hx | rfl
      · exact hb x hx
      · rw [w64 (n := 1 + z) (by omega) (by omega)]
        obtain ⟨h1, h2⟩ := xor_u8 (rd_byte hb r) (show 0 ≤ (1 + z) % 256 ∧ (1 + z) % 256 ≤ 255 by omega)
        rw [h1]
        omega
    · rw [if_neg hp]
      exact ⟨_, _, _, rfl, hb, by omega, hc1⟩
  rw [if_neg k0]
  by_cases k1 : q = 1
  · rw [if_pos k1]
    by_cases hp : (b.length : Int) > 0
    · rw [if_pos hp]
      obtain ⟨r, i2, h2, e2, r0, r1, _, hc2⟩ := l1Below hc1 h1 b.length
      have hr := r1 hp
      rw [e2]
      simp only [Option.bind_some]
      rw [if_pos r0, if_pos (by omega)]
      exact ⟨_, _, _, rfl, hb.take _, by rw [List.length_take]; omega, hc2⟩
    · rw [if_neg hp]
      exact ⟨_, _, _, rfl, hb, by omega, hc1⟩
  rw [if_neg k1]
  by_cases k2 : q = 2
  · rw [if_pos k2]
    obtain ⟨r, i2, h2, e2, r0, r1, hc2⟩ := l1Byte hc1 h1
    rw [e2]
    simp only [Option.bind_some]
    rw [if_pos (by omega)]
    exact ⟨_, _, _, rfl, hb.append (Bytes.cons (by omega) Bytes.nil), by simp, hc2⟩
  · rw [if_neg k2]
    exact ⟨_, _, _, rfl, hb, by omega, hc1⟩
end Go.Proofs.Ytdanfcjaamcaiaa.Fn

/- A byte changed in what has its checksum behind it; and what the functions that draw heads come to. -/
namespace Go.Proofs.Ytdanfcjaamcaiaa.Fn
set_option linter.unusedVariables false
set_option linter.unusedSimpArgs false
open Go.RowKit Go.Proofs.YtdanfcjaamcaiaaW.PrintWords Go.Proofs.Ytdanfcjaamcaiaa.P Go.Proofs.Ytdanfcjaamcaiaa.Base

theorem crc_word {l : List Int} (hl : Bytes l) : 0 ≤ crc l ∧ crc l < 65536 := by
  unfold crc
  have := Crc.sum_lt l hl (s := 65535) (by decide)
  omega
theorem wordBytes_inj {a b : Int} (ha : 0 ≤ a ∧ a < 65536) (hb : 0 ≤ b ∧ b < 65536) (h : wordBytes a = wordBytes b) : a = b := by
  unfold wordBytes at h
  injection h with h1 h2
  injection h2 with h2 _
  omega
theorem turned_summed {h h' : List Int} (hb : Bytes h) (hb' : Bytes h') (hl : h'.length = h.length) (h0 : 0 < h.length) (ht : Turned (summed h) (summed h')) : False := by
  rcases ht with ⟨he, _⟩ | ⟨i, hi, y, hx, y0, y1, hne⟩
  · have := congrArg List.length he
    simp [summed, wordBytes] at this
  · unfold summed at hx hi hne
    by_cases hlt : i < h.length
    · rw [List.set_append_left _ _ hlt] at hx
      have e1 := List.append_inj_left hx (by rw [List.length_set]; exact hl)
      have e2 := List.append_inj_right hx (by rw [List.length_set]; exact hl)
      have hc := wordBytes_inj (crc_word hb') (crc_word hb) e2
      have hy : y ≠ h[i] := by rwa [List.getElem_append_left hlt] at hne
      exact Turned.crc (b := h) (x := h') (.inr ⟨i, hlt, y, e1, y0, y1, hy⟩) hb h0 hc
    · rw [List.set_append_right _ _ (by omega)] at hx
      have e1 := List.append_inj_left hx hl
      have e2 := List.append_inj_right hx hl
      rw [e1] at e2
      have hj : i - h.length < (wordBytes (crc h)).length := by rw [List.length_append] at hi; omega
      have e3 := congrArg (fun L : List Int => L[i - h.length]?) e2
      simp only [List.getElem?_set_self hj, List.getElem?_eq_getElem hj] at e3
      rw [List.getElem_append_right (by omega)] at hne
      exact hne (Option.some.inj e3).symm
theorem drawHeadOf (l : List Int) (hl : l.length ≤ 140737488351232) : ∃ g n, Ev (fun k => spec_DrawHeadOf.f k l) (g, n) := by
  unfold spec_DrawHeadOf.f
  obtain ⟨h0, e0⟩ := l1New l hl
  obtain ⟨g, i1, h1, e1, hc1⟩ := l1Int (Cur.zero hl) h0 [0, 1, 2, 60000, 60001, (-1)] (by simp)
  obtain ⟨n, i2, h2, e2, hc2⟩ := l1Int hc1 h1 [0, 5, 18, 19, (-1)] (by simp)
  exact ⟨g, n, Ev.bind e0 (Ev.then e1 (Ev.then e2 (Ev.done rfl)))⟩
theorem drawGetHead (l : List Int) (hl : l.length ≤ 140737488351232) : ∃ c, Ev (fun k => spec_DrawGetHead.f k l) c ∧ Bytes c ∧ c.length ≤ 100 := by
  unfold spec_DrawGetHead.f
  obtain ⟨h0, e0⟩ := l1New l hl
  obtain ⟨a, i1, h1, e1, a0, a1, _, hc1⟩ := l1Below (Cur.zero hl) h0 5
  have ha := a1 (by omega)
  obtain ⟨n, i2, h2, e2, n0, n1, _, hc2⟩ := l1Below hc1 h1 19
  have hn := n1 (by omega)
  have hw : wrap64 (1 + a) = 1 + a := w64 (by omega) (by omega)
  have hh := headOf_bytes (1 + a) n
  have hhl : (headOf (1 + a) n).length = 6 := headOf_six (by unfold headOf; rw [if_pos (by omega)]; simp [summed, wordBytes])
  have e3 : Ev (fun k => spec_HeadOf.f k (wrap64 (1 + a)) n) (headOf (1 + a) n) := by rw [hw]; exact spec_headOf (1 + a) n
  obtain ⟨o, i3, h3, e4, hc3⟩ := l1Once hc2 h2 5
  cases o
  · obtain ⟨c, i4, h4, e5, hcb, hcl, _⟩ := l1Bend hc3 h3 (headOf (1 + a) n) hh (by omega)
    exact ⟨c, Ev.bind e0 (Ev.then e1 (Ev.then e2 (Ev.bind e3 (Ev.then e4 (Ev.neg (by simp) (Ev.then e5 (Ev.done rfl))))))), hcb, by omega⟩
  · obtain ⟨p, i4, h4, e5, p0, p1, _, hc4⟩ := l1Below hc3 h3 4
    have hp := p1 (by omega)
    obtain ⟨v, i5, h5, e6, hc5⟩ := l1Int hc4 h4 [0, 19, 255] (by simp)
    have hxb : Bytes (((headOf (1 + a) n).take (4 : Int).toNat).set p.toNat (v % 256)) := by
      intro x hx
      rcases List.mem_or_eq_of_mem_set hx with hx | rfl
      · exact hh x (List.mem_of_mem_take hx)
      · omega
    have hxl : (((headOf (1 + a) n).take (4 : Int).toNat).set p.toNat (v % 256)).length = 4 := by
      rw [List.length_set, List.length_take, hhl]; rfl
    refine ⟨_, Ev.bind e0 (Ev.then e1 (Ev.then e2 (Ev.bind e3 (Ev.then e4 (Ev.pos rfl (Ev.pos (by omega) (Ev.then rfl (Ev.then e5 (Ev.then e6 (Ev.pos p0 (Ev.pos ?_ (Ev.then rfl (Ev.bind (spec_sum _ hxb (by rw [hxl]; decide)) (Ev.then (spec_putWord _ _ (by dsimp only; rw [hxl]; decide)) (Ev.then rfl (Ev.done rfl)))))))))))))))), hxb.append (wordBytes_bytes _), by rw [List.length_append, hxl, wordBytes_length]; decide⟩
    rw [List.length_take, hhl]
    have h4 : (4 : Int).toNat = 4 := rfl
    omega
end Go.Proofs.Ytdanfcjaamcaiaa.Fn

/- The pure statement of the law FnHeads: a head is decoded from its encoding, and rejected if a byte is changed. -/
namespace Go.Proofs.Ytdanfcjaamcaiaa.Pure
set_option linter.unusedVariables false
set_option linter.unusedSimpArgs false
open Go.RowKit Go.Proofs.YtdanfcjaamcaiaaW.PrintWords Go.Proofs.Ytdanfcjaamcaiaa.P Go.Proofs.Ytdanfcjaamcaiaa.Base Go.Proofs.Ytdanfcjaamcaiaa.Fn
theorem same_ (l m : List Int) (hl : Bytes l) (hm : Bytes m) : laws_same.f l m = some (eqB l m) := by
  unfold laws_same.f
  rw [sameBytes hl hm]
theorem head_words {g n : Int} (hg : 1 ≤ g ∧ g ≤ 60000) (hn : 0 ≤ n ∧ n ≤ 18) : (word (headOf g n) 0).1 = g ∧ (word (headOf g n) 2).1 = n := by
  have e : headOf g n = [g / 256 % 256, g % 256, n / 256 % 256, n % 256] ++ wordBytes (crc (wordBytes g ++ wordBytes n)) := by
    unfold headOf
    rw [if_pos (by omega)]
    rfl
  rw [e]
  unfold wordBytes word rd
  refine ⟨?_, ?_⟩
  · rw [if_neg (by simp)]
    simp
    omega
  · rw [if_neg (by simp)]
    simp
    omega
theorem getHead_head {g n : Int} (hg : 1 ≤ g ∧ g ≤ 60000) (hn : 0 ≤ n ∧ n ≤ 18) : getHead (headOf g n) = (g, n, true) := by
  obtain ⟨h1, h2⟩ := head_words hg hn
  have hne : headOf g n ≠ [] := by
    unfold headOf
    rw [if_pos (by omega)]
    simp [summed, wordBytes]
  rw [getHead_yes ⟨hne, by rw [h1, h2]⟩, h1, h2]
theorem getHead_turned {g n : Int} (hg : 1 ≤ g ∧ g ≤ 60000) (hn : 0 ≤ n ∧ n ≤ 18) {x : List Int} (hx : Turned (headOf g n) x) : (getHead x).2.2 = false := by
  by_cases h : x ≠ [] ∧ headOf (word x 0).1 (word x 2).1 = x
  · exfalso
    have e : headOf g n = summed (wordBytes g ++ wordBytes n) := by unfold headOf; rw [if_pos (by omega)]
    have e2 : x = summed (wordBytes (word x 0).1 ++ wordBytes (word x 2).1) := by
      have hy := h.2
      unfold headOf at hy
      split at hy
      · exact hy.symm
      · exact absurd hy.symm h.1
    rw [e] at hx
    rw [e2] at hx
    exact turned_summed (headBytes g n) (headBytes _ _) (by simp [wordBytes]) (by simp [wordBytes]) hx
  · rw [getHead_no h]
theorem FnHeads : laws_FnHeads.Pure := by
  intro l hm hl hw
  have hb := Bytes.of_wf hw
  refine Ev.rounds ?_
  unfold laws_FnHeads.f
  refine Ev.then (big l) ?_
  by_cases h : (l.length : Int) > 1048576
  · exact Ev.pos (by simpa using h) (Ev.done rfl)
  refine Ev.neg (by simpa using h) ?_
  obtain ⟨g, n, e1⟩ := drawHeadOf l (by omega)
  obtain ⟨c, e2, hc, hcl⟩ := drawGetHead l (by omega)
  refine Ev.bind e1 (Ev.bind (impl_headOf g n) (Ev.bind e2 (Ev.bind (impl_getHead c hc (by omega)) (Ev.bind (spec_getHead c hc (by omega)) (Ev.neg (by simp) ?_)))))
  have hbl := headOf_length g n
  have j1 : ∀ b : Bool, (b = true → headOf g n = []) → (b = false → (1 ≤ g ∧ g ≤ 60000) ∧ 0 ≤ n ∧ n ≤ 18) → Ev (fun k => laws_FnHeads.j1 k l g n (headOf g n) b) true := by
    intro b b1 b2
    refine Ev.step (fun k => laws_FnHeads.j1.eq_2 _ _ _ _ _ k) ?_
    cases b
    · obtain ⟨hg, hn⟩ := b2 rfl
      obtain ⟨x, ex, hx⟩ := bent l (headOf g n) hb (by omega) (headOf_bytes g n) (by omega)
      have hxl := hx.length
      refine Ev.neg (by decide) (Ev.bind (impl_getHead _ (headOf_bytes g n) (by omega)) (Ev.then ex (Ev.bind (impl_getHead x (hx.bytes (headOf_bytes g n)) (by omega)) ?_)))
      rw [getHead_head hg hn, getHead_turned hg hn hx]
      exact Ev.pos rfl (Ev.pos rfl (Ev.pos rfl (Ev.done rfl)))
    · rw [b1 rfl]
      exact Ev.pos rfl (Ev.done rfl)
  have none_ : ¬ (1 ≤ g ∧ g ≤ 60000 ∧ 0 ≤ n ∧ n ≤ 18) → headOf g n = [] := fun h => by unfold headOf; rw [if_neg h]
  have j0 : Ev (fun k => laws_FnHeads.j0 k l g n (headOf g n) false) true := by
    refine Ev.step (fun k => laws_FnHeads.j0.eq_2 _ _ _ _ _ k) (Ev.neg (by decide) ?_)
    by_cases h1 : g < 1
    · exact Ev.pos h1 (j1 true (fun _ => none_ (by omega)) (fun e => by cases e))
    refine Ev.neg h1 ?_
    by_cases h2 : g > 60000
    · exact Ev.pos h2 (j1 true (fun _ => none_ (by omega)) (fun e => by cases e))
    refine Ev.neg h2 ?_
    by_cases h3 : n < 0
    · exact Ev.pos h3 (j1 true (fun _ => none_ (by omega)) (fun e => by cases e))
    refine Ev.neg h3 (j1 _ (fun e => none_ (by simp at e; omega)) (fun e => ⟨by omega, by simp at e; omega⟩))
  by_cases hi : c ≠ [] ∧ headOf (word c 0).1 (word c 2).1 = c
  · rw [getHead_yes hi]
    refine Ev.pos rfl (Ev.bind (impl_headOf _ _) (Ev.then (same_ _ _ (headOf_bytes _ _) hc) ?_))
    simp only []
    rw [hi.2, eqB_same]
    exact j0
  · rw [getHead_no hi]
    exact Ev.neg (by decide) j0
end Go.Proofs.Ytdanfcjaamcaiaa.Pure

-- PRINTED BY print.sh 35421559b90ae4d0a3588c463048766b98c2df88dd9212a6774a882060cdf62d: not written by this session
-- PRINTED WORDS (module Derived/Print/Sized.lean): go-gate-2's, for the rows of laws over slices: an AI agent of Go's test side, Tue Nov 17 2026; no person has read it. Lean checks it.
namespace Go.Proofs.YtdanfcjaamcaiaaW.PrintWords
open Go.ChangeShapes Go.WideShapes
/-- A row's slice of whole numbers is no longer than its weight allows. -/
theorem sized_ints {H : Type} {enc : TypeId × Value → H} {P : Program} {W : World} {base : Nat} {spare : Nat → Bool} {held : Bool} {t e : TypeId} {k : IntKind} {a : Option Addr} {len cap : Nat} {d : DataW H} {ps : List MemPlace} {ts : List TypeId} {ds : List (DataW H)} {j : Nat}
    (hsz : (DataW.weightsEach P ts ds).all (· ≤ reachBytes) = true) (ht : ts[j]? = some t) (hd : ds[j]? = some d) (hu : P.underlying t = some (.slice e)) (he : P.underlying e = some (.int k)) (hc : P.cellsOf e = 1) {B : Nat} (hB : P.bytesOf e = B)
    (h : DataW.Trod enc P W base spare held t (.slice a len cap) d ps) : len * B ≤ 140737488351232 := by
  obtain ⟨fuel, hf⟩ := h
  rcases open_ints hu he hc hf with ⟨hcs, _⟩ | ⟨x, l, c, zs, hcs, _, hl, _, hz, hx, _, _⟩
  · simp [Value.cells] at hcs
    obtain ⟨rfl, rfl, rfl⟩ := hcs
    simp
  · simp [Value.cells] at hcs
    obtain ⟨rfl, rfl, rfl⟩ := hcs
    obtain ⟨hx, _⟩ := Prod.mk.inj hx
    subst hx
    have z := sized_slice hsz ht hd hu
    rw [hB] at z
    have hl2 : len ≤ zs.length := by
      rw [hz]
      split
      · exact hl
      · exact Nat.le_refl _
    have h1 : (lits (H := H) k (zs.take len)).length + (lits (H := H) k (zs.drop len)).length = zs.length := by
      simp [lits]
      omega
    rw [h1] at z
    exact Nat.le_trans (Nat.mul_le_mul_right _ hl2) z
end Go.Proofs.YtdanfcjaamcaiaaW.PrintWords

-- PRINTED by print.py: the row of the law laws_FnHeads, out of its Pure (the session's) and the printed walk. Not trusted: Lean checks it.
namespace Go.Proofs.Ytdanfcjaamcaiaa.fnHeads
open Go.ChangeShapes Go.WideShapes Go.ChangeAt Go.RowKit
open Go.ChangeMaps (open_string shut_string)
set_option linter.unusedVariables false
theorem own : ownKnob Try.prog.godebug = none := by kernel_rfl
theorem laidOut : laidOutB Try.prog = true := by kernel_rfl
def IsRow (k : IntKind) (w : World) (a : Option Addr) (len cap : Nat) (zs : List Int) : Prop :=
 (a = none ∧ len = 0 ∧ cap = 0 ∧ zs = []) ∨
 ∃ x, a = some x ∧ len ≤ cap ∧ cap ≤ maxLen ∧ zs.length = cap ∧ (∀ i, i < zs.length → w.cell? (x.add i) = some (.int k (zs.getD i 0))) ∧ ∀ n ∈ zs, (Lit.int k n).wf = true
set_option maxRecDepth 100000 in
theorem lifted (os : Os) (started : os.Started) (H : Type) (enc : TypeId × Value → H) :
  ReturnsInHanded {} Try.checked os 10 .any (Rows.fnHeadsSpec.pre6 enc Try.prog Try.f10 Rows.fnHeadsRow.domain false) (Rows.fnHeadsSpec.post enc Try.prog Try.f10 false true false false) := by
 refine returnsInHanded_of_change_sized (C := Try.checked) own started (by kernel_rfl) Try.func10
  (ChangeSpec.witness6 (enc := enc) (C := Try.checked) false ⟨#[], #[.slice none 0 0], []⟩ 8 (by kernel_rfl) (by kernel_rfl) (by kernel_rfl) (by kernel_rfl)) ?_
 intro W base args ds gs before hval0 hW hcnd hsz0 _
 have hsz : (DataW.weightsEach Try.prog (Try.f10.params.toList ++ Rows.fnHeadsSpec.plain.varTypes Try.prog) (ds ++ gs)).all (· ≤ reachBytes) = true := hsz0
 have hval : ∀ (j : Nat) t v, Try.f10.params[j]? = some t → args[j]? = some v → Value.okWide Try.prog W .any base t v := hval0
 have hW' := hW
 obtain ⟨p, q, hA0, hV, rfl, hfz, hnd⟩ := hW
 have hA : DataW.TrodAll enc Try.prog W 0 (fun _ => true) true Try.f10.params.toList args.toList ds p := hA0
 rw [Try.params10] at hA hval hsz
 obtain ⟨v0, vs0, d0, ds0, p0, q0, hargs, rfl, rfl, h0, r0⟩ := trodAll_cons hA
 obtain ⟨rfl, rfl, rfl⟩ := trodAll_nil r0
 obtain rfl : args = #[v0] := by cases args; simp_all
 obtain ⟨rfl, rfl⟩ := trodVars_none hV
 obtain ⟨a0, len0, cap0, rfl⟩ := okWide_slice Try.underlying33 (hval 0 33 v0 rfl rfl)
 have k0 := h0
 have lt0 : ∀ x ∈ p0, x.block < W.heap.size := by obtain ⟨m, hm⟩ := k0; exact DataW.trod_lt m _ _ _ hm
 obtain ⟨z0, w0⟩ : ∃ zs, IsRow .u8 W a0 len0 cap0 zs := by
  obtain ⟨fuel, hf⟩ := h0
  rcases open_ints Try.underlying33 Try.underlying5 (by kernel_rfl) hf with ⟨hcs, _⟩ | ⟨x, l, c, zs, hcs, _, hl, hm, hz, _, hcell, hwz⟩
  ·simp [Value.cells] at hcs
   obtain ⟨rfl, rfl, rfl⟩ := hcs
   exact ⟨[], .inl ⟨rfl, rfl, rfl, rfl⟩⟩
  ·simp [Value.cells] at hcs
   obtain ⟨rfl, rfl, rfl⟩ := hcs
   exact ⟨zs, .inr ⟨_, rfl, hl, hm, by simpa using hz, hcell, hwz⟩⟩
 have y0 : len0 * 1 ≤ 140737488351232 := Go.Proofs.YtdanfcjaamcaiaaW.PrintWords.sized_ints hsz (j := 0) (t := 33) rfl rfl Try.underlying33 Try.underlying5 (by kernel_rfl) (by kernel_rfl) h0
 clear hA0 hval0 hsz0 hsz
 refine (P.laws_FnHeads.walk Pure.FnHeads a0 len0 cap0 z0 W w0 y0).mono fun e W' ⟨he, bel⟩ => ?_
 subst he
 exact ⟨_, rfl, _, _, _, [], _, [], hW', trodAll_mk1 (shut_bool Try.underlying4 _), (trodAll_cons_mk (Below.trod laidOut (by kernel_rfl) (of_decide_eq_true (by kernel_rfl)) k0 bel lt0) trodAll_mk0), rfl, bel.frame _, fun h => by cases h⟩
theorem over : Rows.fnHeadsRow.holds Try.pinned (OpenSpec.ofChange Rows.fnHeadsSpec) :=
 OpenClaim.holds_of_wide 10 Try.f10 rfl rfl rfl rfl rfl rfl rfl ⟨rfl, rfl, rfl, rfl, rfl⟩ rfl rfl rfl rfl rfl (by kernel_rfl) Try.func10 (by kernel_rfl)
  (of_decide_eq_true (by kernel_rfl)) (by unfold Func.isWrapper; first | (rw [if_pos (by decide +kernel)]; kernel_rfl) | (rw [if_neg (by decide +kernel)]; exact ⟨rfl, rfl⟩))
  (fun os started H enc _ => lifted os started H enc)
theorem proved : Rows.FnHeadsSaid := over
#print axioms proved
end Go.Proofs.Ytdanfcjaamcaiaa.fnHeads
namespace Go.Proofs.Ytdanfcjaamcaiaa
/-- The row, under a short name, for the claim. -/
theorem fnHeads_holds : Rows.FnHeadsSaid := fnHeads.proved
end Go.Proofs.Ytdanfcjaamcaiaa
