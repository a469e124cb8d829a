/- The row of FnRecs under the tables that it lists, and its card. -/
/- Texts of this claim, put together: E_laws_FnRecs, CFnRecs, Base, Crc, Bytes, Lists, Conf, TextOk, Frame, Dbs, NumText, ConfText, Split, Num, Numbers, Parse, ParseConf, ParseImpl, RecOk, Sum, Word, PutRec, GetText, GetRec, Draw, DrawFrames, DrawConf, Head, Heads, RecBack, PureFnRecs, WSized, CardFnRecs -/
import Derived.Test.YthkepmicdpgbbaaGreatDoorPackFnRecs3
import Derived.WideShapes
import Derived.Laws.BitsLemmas
import Derived.Lib.ItoaLen
import Derived.Lib.Join
import Derived.Lib.SplitLaws
import Derived.Lib.IndexLaws
import Derived.SizedLaws
import Derived.ChangeSlices
import Derived.Test.YthkepmicdpgbbaaGreatDoorRows
import Derived.Test.YthkepmicdpgbbaaGreatDoorCards
import Derived.Test.YthkepmicdpgbbaaGreatDoorTie
import Derived.SevenTiedAt
import Derived.WalkKit
import Derived.ProofKit
import Derived.OpenShut
import Derived.ShutString
import Derived.ChangeOld
import Derived.Below
/- What the functions' codes come to. -/
namespace Go.Proofs.YthkepmicdpgbbaaGreatDoor.E
open Go Go.RowKit Go.Proofs.YthkepmicdpgbbaaGreatDoorW.PrintWords Go.Proofs.YthkepmicdpgbbaaGreatDoor.P
set_option linter.unusedVariables false
set_option linter.unusedSimpArgs false
set_option maxHeartbeats 0
set_option maxRecDepth 100000
theorem laws_FnRecs_ev {kf : Nat} {l0 : List Int} {r : Bool} (H : laws_FnRecs.f kf l0 = some r) : Spec Tryz.prog 3 [.v (.row (List.map e5 l0))] [] (.v (.b r)) [] := by
  simp only [laws_FnRecs.f, Option.bind_some, List.nil_append, if_true, if_false, Bool.false_eq_true, nilB, nilE] at H
  refine fn_okF (E := env) Tryz.func3 (by rfl) rfl (n := 136) (by rfl) ?_
  repeat' ((conv => whnf); first
           | ((with_reducible have hp := peel_ H); clear H; obtain ⟨_, H⟩ := hp)
           | ((with_reducible have hp := peeln_ H); clear H; obtain ⟨_, H⟩ := hp)
           | (with_reducible replace H := itet_ H)
           | (with_reducible replace H := itef_ H)
           | ((with_reducible refine sideid_ ?_); refine side_ ?_)
           | ((with_reducible refine seqid_ ?_); first
             | ((with_reducible refine scg_ 8 ?_); refine scut_ 8 (fun s h => ∃ x0 x3 x4 x6 x73 x702000 x702001 x702002 x702003, laws_FnRecs.j0 kf x0 x3 x4 x6 x73 x702000 x702001 x702002 x702003 = some r ∧ s = spr 137 0 [(0, .v (.row (List.map e5 x0))), (3, .v (.i .i64 x3)), (4, .v (.i .i64 x4)), (5, .ptr 0 0), (6, .own 1 (List.map e5 x6).length), (73, .v (.b x73))] ∧ h = [.box 25 [.v (.i .i64 x702000), .v (.i .i64 x702001), .v (.i .i64 x702002), .v (.s x702003)], .arr 1 5 false (List.map e5 x6)]) ?_ ?_)
             | ((with_reducible refine scg_ 10 ?_); refine scut_ 10 (fun s h => ∃ x0 x3 x4 x6 x92 x702000 x702001 x702002 x702003, laws_FnRecs.j1 kf x0 x3 x4 x6 x92 x702000 x702001 x702002 x702003 = some r ∧ s = spr 137 0 [(0, .v (.row (List.map e5 x0))), (3, .v (.i .i64 x3)), (4, .v (.i .i64 x4)), (5, .ptr 0 0), (6, .own 1 (List.map e5 x6).length), (92, .v (.b x92))] ∧ h = [.box 25 [.v (.i .i64 x702000), .v (.i .i64 x702001), .v (.i .i64 x702002), .v (.s x702003)], .arr 1 5 false (List.map e5 x6)]) ?_ ?_)
             | (refine sgo_ ?_))
           | ((with_reducible refine brid_ ?_); first
             | (with_reducible refine brct_ ?_)
             | (with_reducible refine brcf_ ?_)
             | (with_reducible refine brt_ ?_)
             | (with_reducible refine brf_ ?_)
             | (refine br_ H (by with_reducible first | rfl | exact bi_ _ _ | exact bd_ _ | exact bs_ _ _) (fun _ H => ?_) (fun _ H => ?_))
             | (refine brn_ H (by with_reducible first | rfl | exact bni_ _ _ | exact bin_ _ _ | exact bn_ _ | exact bs0_ _ _ | exact bnn_ _) (fun _ H => ?_) (fun _ H => ?_))
             | (refine brt_ ?_)
             | (refine brf_ ?_)
             | (refine br_ H (by exact Eq.refl _) (fun _ H => ?_) (fun _ H => ?_))
             | (refine brn_ H (by exact Eq.refl _) (fun _ H => ?_) (fun _ H => ?_)))
           | ((with_reducible refine br2id_ ?_); first
             | (refine br2t_ ?_)
             | (refine br2f_ ?_))
           | ((with_reducible refine normid_ ?_); first
             | (refine norm_nilapp ?_)
             | (refine norm_appnil ?_)
             | (refine norm_app ?_)
             | (refine norm_t ?_)
             | (refine norm_d ?_)
             | (refine norm_td ?_)
             | (refine norm_set (e := 5) (f := e5) _ rfl ?_)
             | (refine norm_rep (e := 5) (f := e5) _ rfl ?_))
           | ((with_reducible refine elemid_ ?_); refine elem_ (f := e5) 0 (rd _ _) rfl ?_ (by first | assumption | decide | omega) (by first | assumption | omega))
           | ((with_reducible refine lenid_ ?_); refine lenm_ ?_)
           | ((with_reducible refine strid_ ?_); first
             | (refine stre_ ?_)
             | (refine stre0_ ?_))
           | ((with_reducible refine callid_ ?_); have hp := bnd_ H; clear H; obtain ⟨_, ht, H⟩ := hp; first
             | (refine call_ (laws_big_ev ht) rfl rfl ?_)
             | (refine call_ (spec_DrawPutRec_ev ht) rfl rfl ?_)
             | (refine call_ (impl_PutRec_ev ht) rfl rfl ?_)
             | (refine call_ (spec_DrawGetRec_ev ht) rfl rfl ?_)
             | (refine call_ (impl_GetRec_ev ht) rfl rfl ?_)
             | (refine call_ (spec_GetRec_ev ht) rfl rfl ?_)
             | (refine call_ (impl_RecOk_ev ht) rfl rfl ?_)
             | (refine call_ (spec_RecOk_ev ht) rfl rfl ?_)
             | (refine call_ (laws_same_ev ht) rfl rfl ?_)
             | (refine call_ (laws_bent_ev ht) rfl rfl ?_))
           | ((with_reducible refine exid_ ?_); first
             | (have hk := idH_ (F := fun k => laws_FnRecs.j0 k _ _ _ _ _ _ _ _ _) H; refine weakK_ (ex := []) (us := []) (bs := []) (ms := (bsp 137 0 [0, 3, 4, 5, 6, 73])) ?_; (conv => whnf); refine ⟨_, _, _, _, _, _, _, _, _, hk, rfl, rfl⟩)
             | (have hk := idH_ (F := fun k => laws_FnRecs.j1 k _ _ _ _ _ _ _ _ _) H; refine weakK_ (ex := []) (us := []) (bs := []) (ms := (bsp 137 0 [0, 3, 4, 5, 6, 92])) ?_; (conv => whnf); refine ⟨_, _, _, _, _, _, _, _, _, hk, rfl, rfl⟩))
           | ((with_reducible refine allid_ ?_); first
             | (intro s h hj; clear H; obtain ⟨x0, x3, x4, x6, x73, x702000, x702001, x702002, x702003, H, rfl, rfl⟩ := hj; have hk := suc_ (g := fun k => laws_FnRecs.j0 k _ _ _ _ _ _ _ _ _) H (by simp only [laws_FnRecs.j0]); obtain ⟨kf, hk⟩ := hk; subst hk; simp only [laws_FnRecs.j0, Option.bind_some, List.nil_append, if_true, if_false, Bool.false_eq_true, nilB, nilE] at H)
             | (intro s h hj; clear H; obtain ⟨x0, x3, x4, x6, x92, x702000, x702001, x702002, x702003, H, rfl, rfl⟩ := hj; have hk := suc_ (g := fun k => laws_FnRecs.j1 k _ _ _ _ _ _ _ _ _) H (by simp only [laws_FnRecs.j1]); obtain ⟨kf, hk⟩ := hk; subst hk; simp only [laws_FnRecs.j1, Option.bind_some, List.nil_append, if_true, if_false, Bool.false_eq_true, nilB, nilE] at H))
           | ((with_reducible refine finid_ ?_); refine finK_ [] ?_; (conv => whnf); replace H := Option.some.inj H; subst H; (conv => whnf); refine ⟨rfl, ?_⟩; first | rfl | (repeat' (first | rfl | refine own_eq ?_ | refine tup_eq ?_ | refine agg_eq ?_ | refine cons_eq ?_ ?_ | refine vi_eq ?_ | simp only [List.length_map, List.length_set, wm_]))))
end Go.Proofs.YthkepmicdpgbbaaGreatDoor.E

-- Written by xprint.py (by way of the kit's print program) out of the translation.
namespace Go.Proofs.YthkepmicdpgbbaaGreatDoor.P
open Go.RowKit Go.Proofs.YthkepmicdpgbbaaGreatDoorW.PrintWords Go.Proofs.YthkepmicdpgbbaaGreatDoorW.PrintLast Go.Proofs.YthkepmicdpgbbaaGreatDoorW.PrintMore
attribute [local go_sem] max2_int min2_int max_two min_two max_three min_three max_four min_four   -- for this text's walks alone
open Go.Proofs.YthkepmicdpgbbaaGreatDoor.E
set_option linter.unusedVariables false
set_option linter.unusedSimpArgs false

attribute [local go_sem high] eqA25
theorem laws_FnRecs.calls (k : Nat) (A0 : Option Addr) (c0 : Nat) (l0 : List Int) (r : Bool) (w : World) (hgw : GW w) (hr0 : Kd.C (Kd.int .u8) w A0 l0.length l0) (hc0 : l0.length ≤ c0) (hr_ : Aside0 (r = true)) (h : laws_FnRecs.f k l0 = some r) :
    Calls Tryz.prog 3 #[.slice A0 l0.length c0] w fun e w' => e = .returned (.bool r) ∧ Below w.heap.size w w' := by
  refine calls_of_spec (laws_FnRecs_ev h) hgw ?_
  simp only [RepsL]
  exact ⟨_, _, rfl, (show RepC _ _ _ _ from repC_of G0_imm (fun _ => rfl) (by decide) hk_int hr0 hc0), rfl⟩
theorem laws_FnRecs.walk (P : laws_FnRecs.Pure) (a0 : Option Addr) (len0 cap0 : Nat) (z0 : List Int) (w : World) (hgw : GW w) (w0 : (a0 = none ∧ len0 = 0 ∧ cap0 = 0 ∧ z0 = []) ∨ ∃ x, a0 = some x ∧ len0 ≤ cap0 ∧ cap0 ≤ maxLen ∧ z0.length = cap0 ∧ (∀ i, i < z0.length → w.cell? (x.add i) = some (.int .u8 (z0.getD i 0))) ∧ ∀ n ∈ z0, (Lit.int .u8 n).wf = true) (y0 : len0 * 1 ≤ 140737488351232) :
    Calls Tryz.prog 3 #[.slice a0 len0 cap0] w fun e w' => e = .returned (.bool true) ∧ Below w.heap.size w w' := by
  obtain ⟨l0, rfl, hr0, hm0, hw0, hc0⟩ := ReadsInt.ofRowC w0
  obtain ⟨k, h⟩ := P l0 hm0 y0 hw0
  refine (laws_FnRecs.calls k _ _ l0 true w hgw (Kd.C_of_reads (d := (0 : Int)) (h1 := fun _ => rfl) hr0) hc0 ⟨rfl⟩ h).mono ?_
  rintro e w' ⟨rfl, hd⟩
  exact ⟨rfl, hd⟩
end Go.Proofs.YthkepmicdpgbbaaGreatDoor.P

/- Plain words that all further texts of this seat use: rounds of printed functions ('Ev'), whole numbers without wrap, bytes. No program is in sight here. -/
namespace Go.Proofs.YthkepmicdpgbbaaGreatDoor.Base
set_option linter.unusedVariables false
set_option linter.unusedSimpArgs false
open Go.RowKit Go.Proofs.YthkepmicdpgbbaaGreatDoorW.PrintWords

/-! ### rounds -/
section
variable {α β : Type} {c : Prop} [Decidable c] {f g : Nat → Option α} {r : α}
theorem Ev.pos (h : c) (k : Ev f r) : Ev (fun n => if c then f n else g n) r := by
  obtain ⟨K, hK⟩ := k
  exact ⟨K, fun n hn => (if_pos h).trans (hK n hn)⟩
theorem Ev.neg (h : ¬ c) (k : Ev g r) : Ev (fun n => if c then f n else g n) r := by
  obtain ⟨K, hK⟩ := k
  exact ⟨K, fun n hn => (if_neg h).trans (hK n hn)⟩
theorem Ev.const {x : Option α} (h : x = some r) : Ev (fun _ => x) r := ⟨0, fun _ _ => h⟩
theorem Ev.done {a : α} (h : a = r) : Ev (fun _ => some a) r := ⟨0, fun _ _ => by rw [h]⟩
theorem Ev.then {x : Option β} {a : β} {h : Nat → β → Option α} (e : x = some a) (k : Ev (fun n => h n a) r) : Ev (fun n => x.bind (h n)) r := by
  subst e
  exact k
theorem Ev.uniq {a b : α} (h : Ev f a) (k : Ev f b) : a = b := by
  obtain ⟨K, hK⟩ := h
  obtain ⟨J, hJ⟩ := k
  have e := (hK (max K J) (Nat.le_max_left _ _)).symm.trans (hJ (max K J) (Nat.le_max_right _ _))
  exact Option.some.inj e
theorem Ev.all {k : Nat} (h : Ev f r) : ∃ n, k ≤ n ∧ f n = some r := by
  obtain ⟨K, hK⟩ := h
  exact ⟨max K k, Nat.le_max_right _ _, hK _ (Nat.le_max_left _ _)⟩
theorem Ev.eq {r' : α} (h : Ev f r) (e : r = r') : Ev f r' := e ▸ h
end

/-! ### whole numbers -/
theorem w64 {n : Int} (h : -9223372036854775808 ≤ n) (h' : n ≤ 9223372036854775807) : wrap64 n = n := by unfold wrap64; omega
theorem wf_u8 {x : Int} (h : (Lit.int .u8 x).wf = true) : 0 ≤ x ∧ x ≤ 255 := by
  simpa [Lit.wf, IntKind.min, IntKind.max, IntKind.bits, IntKind.signed] using h

/-! ### bytes -/
def Bytes (l : List Int) : Prop := ∀ x ∈ l, 0 ≤ x ∧ x ≤ 255
theorem Bytes.of_wf {l : List Int} (h : ∀ x ∈ l, (Lit.int .u8 x).wf = true) : Bytes l := fun x hx => wf_u8 (h x hx)
theorem Bytes.nil : Bytes [] := fun _ h => by cases h
theorem Bytes.append {l m : List Int} (h : Bytes l) (k : Bytes m) : Bytes (l ++ m) := fun x hx => (List.mem_append.1 hx).elim (h x) (k x)
theorem Bytes.cons {a : Int} {l : List Int} (ha : 0 ≤ a ∧ a ≤ 255) (h : Bytes l) : Bytes (a :: l) := fun x hx => (List.mem_cons.1 hx).elim (fun e => e ▸ ha) (h x)
theorem Bytes.take {l : List Int} (h : Bytes l) (n : Nat) : Bytes (l.take n) := fun x hx => h x (List.mem_of_mem_take hx)
theorem Bytes.drop {l : List Int} (h : Bytes l) (n : Nat) : Bytes (l.drop n) := fun x hx => h x (List.mem_of_mem_drop hx)
theorem rd_byte {l : List Int} (h : Bytes l) (i : Int) : 0 ≤ rd l i ∧ rd l i ≤ 255 := by
  unfold rd
  rw [List.getD_eq_getElem?_getD]
  by_cases hi : i.toNat < l.length
  · rw [List.getElem?_eq_getElem hi]
    exact h _ (List.getElem_mem hi)
  · rw [List.getElem?_eq_none (by omega)]
    exact ⟨by decide, by decide⟩
theorem w64_byte {l : List Int} (h : Bytes l) (i : Int) : wrap64 (rd l i) = rd l i := by
  obtain ⟨a, b⟩ := rd_byte h i
  exact w64 (by omega) (by omega)
theorem bt_byte (s : ByteArray) (i : Int) : 0 ≤ bt s i ∧ bt s i ≤ 255 := by
  unfold bt
  split
  · rename_i h
    have := (s[i.toNat]'h).toNat_lt
    omega
  · exact ⟨by decide, by decide⟩

/-! ### equality, and lists by their elements -/
noncomputable def eqB {α : Type} (x y : α) : Bool := @decide (x = y) (Classical.propDecidable _)
theorem eqB_iff {α : Type} {x y : α} : eqB x y = true ↔ x = y := by unfold eqB; simp
theorem eqB_same {α : Type} (x : α) : eqB x x = true := eqB_iff.2 rfl
theorem eqB_not {α : Type} {x y : α} (h : x ≠ y) : eqB x y = false := by rw [← Bool.not_eq_true, eqB_iff]; exact h
theorem text_inj {s t : ByteArray} (h : s.toList = t.toList) : s = t := by
  rw [ByteArray.toList_eq, ByteArray.toList_eq] at h
  exact WideShapes.bytes_inj h
theorem text_nil {s : ByteArray} : s.toList = [] ↔ s = ⟨#[]⟩ := ⟨fun h => text_inj (h.trans (by rw [ByteArray.toList_eq])), fun h => by rw [h, ByteArray.toList_eq]⟩
theorem cast_succ (i : Nat) : ((i : Int) + 1) = ((i + 1 : Nat) : Int) := rfl
theorem getD_nat {α : Type} (l : List α) (d : α) {i : Nat} (h : i < l.length) : l.getD ((i : Int)).toNat d = l[i] := by
  rw [Int.toNat_natCast, List.getD_eq_getElem?_getD, List.getElem?_eq_getElem h]; rfl
theorem rd_getElem {l : List Int} {i : Nat} (h : i < l.length) : rd l (i : Int) = l[i] := getD_nat l 0 h
theorem drop_rd {l : List Int} {i : Nat} (h : i < l.length) : l.drop i = rd l (i : Int) :: l.drop (i + 1) := by
  rw [rd_getElem h]; exact List.drop_eq_getElem_cons h
theorem size_append (s t : ByteArray) : (s ++ t).size = s.size + t.size := by simp
theorem size_strOfNums (l : List Int) : (strOfNums l).size = l.length := by
  unfold strOfNums
  rw [ByteArray.size]
  simp
theorem bytesOf_strOfNums {l : List Int} (h : Bytes l) : bytesOf (strOfNums l) = l := by
  unfold bytesOf strOfNums
  simp only [List.map_map]
  refine (List.map_congr_left (g := id) fun x hx => ?_).trans (List.map_id _)
  have := h x hx
  simp only [Function.comp_apply, id_eq, UInt8.toNat_ofNat']
  omega
theorem strOfNums_inj {l m : List Int} (hl : Bytes l) (hm : Bytes m) : (strOfNums l).toList = (strOfNums m).toList ↔ l = m :=
  ⟨fun h => by rw [← bytesOf_strOfNums hl, ← bytesOf_strOfNums hm, text_inj h], fun h => by rw [h]⟩
theorem bytesOf_bytes (s : ByteArray) : Bytes (bytesOf s) := by
  intro x hx
  unfold bytesOf at hx
  obtain ⟨b, _, rfl⟩ := List.mem_map.1 hx
  have := b.toNat_lt
  omega
end Go.Proofs.YthkepmicdpgbbaaGreatDoor.Base

/- The checksum as a function on natural numbers, and that a changed byte changes it. Plain arithmetic: no program is in sight here. -/
namespace Go.Proofs.YthkepmicdpgbbaaGreatDoor.Crc
set_option linter.unusedVariables false
set_option linter.unusedSimpArgs false

def bit (s : Nat) : Nat := if 2 * s > 65535 then (2 * s) ^^^ 69665 else 2 * s
def bits (s : Nat) : Nat → Nat
  | 0 => s
  | k + 1 => bits (bit s) k
@[irreducible] def byte (s x : Nat) : Nat := bits (s ^^^ (256 * x)) 8
def sum : Nat → List Int → Nat
  | s, [] => s
  | s, x :: xs => sum (byte s x.toNat) xs

theorem xor_cancel {a b c : Nat} (h : a ^^^ b = a ^^^ c) : b = c := by
  have := congrArg (a ^^^ ·) h
  simpa [← Nat.xor_assoc] using this
theorem xor_cancel' {a b c : Nat} (h : b ^^^ a = c ^^^ a) : b = c := by
  rw [Nat.xor_comm b, Nat.xor_comm c] at h
  exact xor_cancel h
theorem sum_cons (s : Nat) (x : Int) (xs : List Int) : sum s (x :: xs) = sum (byte s x.toNat) xs := by rw [sum]
theorem bit_lt {s : Nat} (h : s < 65536) : bit s < 65536 := by
  unfold bit
  split
  · have e : ((2 * s) ^^^ 69665) / 2 ^ 16 = (2 * s) / 2 ^ 16 ^^^ 69665 / 2 ^ 16 := Nat.xor_div_two_pow
    have e1 : (2 * s) / 2 ^ 16 = 1 := by omega
    rw [e1] at e
    have e2 : (1 : Nat) ^^^ 69665 / 2 ^ 16 = 0 := by decide
    rw [e2] at e
    omega
  · omega
theorem bit_mod (s : Nat) : bit s % 2 = if 2 * s > 65535 then 1 else 0 := by
  unfold bit
  split
  · have e : ((2 * s) ^^^ 69665) % 2 ^ 1 = (2 * s) % 2 ^ 1 ^^^ 69665 % 2 ^ 1 := Nat.xor_mod_two_pow
    have e1 : (2 * s) % 2 ^ 1 = 0 := by omega
    rw [e1] at e
    have e2 : (0 : Nat) ^^^ 69665 % 2 ^ 1 = 1 := by decide
    rw [e2] at e
    omega
  · omega
theorem bit_inj {s t : Nat} (h : bit s = bit t) : s = t := by
  have hm := congrArg (· % 2) h
  simp only [bit_mod] at hm
  unfold bit at h
  by_cases hs : 2 * s > 65535
  · by_cases ht : 2 * t > 65535
    · rw [if_pos hs, if_pos ht] at h
      have := xor_cancel' h
      omega
    · rw [if_pos hs, if_neg ht] at hm
      omega
  · by_cases ht : 2 * t > 65535
    · rw [if_neg hs, if_pos ht] at hm
      omega
    · rw [if_neg hs, if_neg ht] at h
      omega
theorem bits_lt {s : Nat} (h : s < 65536) (k : Nat) : bits s k < 65536 := by
  induction k generalizing s with
  | zero => exact h
  | succ k ih => exact ih (bit_lt h)
theorem bits_inj {s t : Nat} (k : Nat) (h : bits s k = bits t k) : s = t := by
  induction k generalizing s t with
  | zero => exact h
  | succ k ih => exact bit_inj (ih h)
theorem byte_def (s x : Nat) : bits (s ^^^ (256 * x)) 8 = byte s x := by unfold byte; rfl
theorem byte_lt {s x : Nat} (h : s < 65536) (hx : x ≤ 255) : byte s x < 65536 := by
  unfold byte
  have h2 : s ^^^ (256 * x) < 65536 := Nat.xor_lt_two_pow (n := 16) h (by omega)
  generalize s ^^^ (256 * x) = y at h2
  exact bits_lt h2 _
theorem byte_inj_left {s t x : Nat} (h : byte s x = byte t x) : s = t := by
  unfold byte at h
  generalize 8 = k at h
  exact xor_cancel' (bits_inj k h)
theorem byte_inj_right {s x y : Nat} (h : byte s x = byte s y) : x = y := by
  unfold byte at h
  generalize 8 = k at h
  have := xor_cancel (bits_inj k h)
  omega
theorem sum_lt (l : List Int) (hl : Base.Bytes l) {s : Nat} (h : s < 65536) : sum s l < 65536 := by
  induction l generalizing s with
  | nil => exact h
  | cons x xs ih =>
    have hx := hl x (List.mem_cons_self ..)
    rw [sum_cons]
    exact ih (fun y hy => hl y (List.mem_cons_of_mem _ hy)) (byte_lt h (by omega))
theorem sum_inj (l : List Int) {s t : Nat} (h : sum s l = sum t l) : s = t := by
  induction l generalizing s t with
  | nil => exact h
  | cons x xs ih =>
    rw [sum_cons, sum_cons] at h
    exact byte_inj_left (ih h)
/-- A changed byte changes the sum. -/
theorem sum_set (l : List Int) (s : Nat) (i : Nat) (hi : i < l.length) (y : Int) (hy : 0 ≤ y) (hx : 0 ≤ l[i]) (hne : y ≠ l[i]) : sum s (l.set i y) ≠ sum s l := by
  induction l generalizing s i with
  | nil => simp at hi
  | cons a as__ ih =>
    cases i with
    | zero =>
      intro h
      rw [List.set_cons_zero, sum_cons, sum_cons] at h
      have h2 := byte_inj_right (sum_inj as__ h)
      simp only [List.getElem_cons_zero] at hx hne
      omega
    | succ i =>
      simp only [List.getElem_cons_succ] at hx hne
      rw [List.set_cons_succ, sum_cons, sum_cons]
      exact ih (byte s a.toNat) i (by simpa using hi) hx hne
end Go.Proofs.YthkepmicdpgbbaaGreatDoor.Crc

/- What the printed functions on bytes, words and texts come to: the laws' own copies, marks and comparisons, and the functions of the first chapter. No memory is in sight here. -/
namespace Go.Proofs.YthkepmicdpgbbaaGreatDoor.Fn
set_option linter.unusedVariables false
set_option linter.unusedSimpArgs false
open Go.RowKit Go.Proofs.YthkepmicdpgbbaaGreatDoorW.PrintWords Go.Proofs.YthkepmicdpgbbaaGreatDoor.P Go.Proofs.YthkepmicdpgbbaaGreatDoor.Base

/-! ### copies -/

/-! ### comparisons -/

/-! ### marks -/

/-! ### ranges and words -/
theorem isIn (a b c : Int) : impl_isIn.f a b c = some (decide (b ≤ a ∧ a ≤ c)) := by
  unfold impl_isIn.f
  by_cases h : b ≤ a
  · rw [if_pos h]; simp [h]
  · rw [if_neg h]; simp [h]
theorem l1In (a b c : Int) : spec_l1In.f a b c = some (decide (b ≤ a ∧ a ≤ c)) := by
  unfold spec_l1In.f
  by_cases h : a ≥ b
  · rw [if_pos h]; simp; omega
  · rw [if_neg h]; simp; omega
theorem wraps_i64 : ∀ n : Int, 0 ≤ n → n < 2 ^ 63 → IntKind.i64.wrap n = n := fun n h h' => by
  rw [IntKind.wrap_i64]; omega
theorem or_word {x y : Int} (hx : 0 ≤ x ∧ x ≤ 255) (hy : 0 ≤ y ∧ y ≤ 255) : Go.bits .or .i64 (x * 256) y = x * 256 + y :=
  Go.bits_join .i64 63 (by decide) wraps_i64 8 (x * 256) y (by omega) (by omega) (by omega) (by omega) (by omega) (by omega)
/-- The word at an offset. -/
def word (l : List Int) (a : Int) : Int × Int × Bool := if a < 0 ∨ (l.length : Int) - 2 < a then (0, 0, false) else (rd l a * 256 + rd l (a + 1), a + 2, true)
theorem spec_getWord (l : List Int) (a : Int) (hb : Bytes l) (hl : l.length ≤ 140737488351232) : spec_GetWord.f l a = some (word l a) := by
  unfold spec_GetWord.f word
  by_cases h0 : a < 0
  · rw [if_pos h0, if_pos (.inl h0)]
  rw [if_neg h0, w64 (n := (l.length : Int) - 2) (by omega) (by omega)]
  by_cases h1 : a > (l.length : Int) - 2
  · rw [if_pos h1, if_pos (.inr h1)]
  have r0 := rd_byte hb a
  have r1 := rd_byte hb (a + 1)
  rw [if_neg h1, if_neg (show ¬ (a < 0 ∨ (l.length : Int) - 2 < a) by omega), if_pos (by omega), if_pos (by omega), w64 (n := a + 1) (by omega) (by omega), if_pos (by omega), if_pos (by omega), w64_byte hb, w64_byte hb, w64 (n := rd l a * 256) (by omega) (by omega), w64 (n := rd l a * 256 + rd l (a + 1)) (by omega) (by omega), w64 (by omega) (by omega)]
theorem impl_getWord (l : List Int) (a : Int) (hb : Bytes l) (hl : l.length ≤ 140737488351232) : impl_GetWord.f l a = some (word l a) := by
  unfold impl_GetWord.f word
  rw [isIn, w64 (n := (l.length : Int) - 2) (by omega) (by omega)]
  simp only [Option.bind_some, decide_eq_true_eq]
  by_cases h : 0 ≤ a ∧ a ≤ (l.length : Int) - 2
  · have r0 := rd_byte hb a
    have r1 := rd_byte hb (a + 1)
    rw [if_pos h, if_neg (show ¬ (a < 0 ∨ (l.length : Int) - 2 < a) by omega), if_pos (by omega), if_pos (by omega), w64 (n := a + 1) (by omega) (by omega), if_pos (by omega), if_pos (by omega), w64_byte hb, w64_byte hb, w64 (n := rd l a * 256) (by omega) (by omega), or_word r0 r1, w64 (by omega) (by omega)]
  · rw [if_neg h, if_pos (by omega)]
end Go.Proofs.YthkepmicdpgbbaaGreatDoor.Fn

/- Plain words on lists by their elements. No program is in sight here. -/
namespace Go.Proofs.YthkepmicdpgbbaaGreatDoor.Fn
set_option linter.unusedVariables false
set_option linter.unusedSimpArgs false
open Go.RowKit Go.Proofs.YthkepmicdpgbbaaGreatDoorW.PrintWords Go.Proofs.YthkepmicdpgbbaaGreatDoor.Base

theorem drop_get {α : Type} (l : List α) (d : α) {i : Nat} (h : i < l.length) : l.drop i = l.getD ((i : Int)).toNat d :: l.drop (i + 1) := by
  rw [getD_nat l d h]; exact List.drop_eq_getElem_cons h
end Go.Proofs.YthkepmicdpgbbaaGreatDoor.Fn

/- What the printed functions that copy, size and compare databases come to. No memory is in sight here. -/
namespace Go.Proofs.YthkepmicdpgbbaaGreatDoor.Fn
set_option linter.unusedVariables false
set_option linter.unusedSimpArgs false
open Go.RowKit Go.Proofs.YthkepmicdpgbbaaGreatDoorW.PrintWords Go.Proofs.YthkepmicdpgbbaaGreatDoor.P Go.Proofs.YthkepmicdpgbbaaGreatDoor.Base

abbrev Db := S138
/-! ### sizes: 'left' only falls, and is not below 0 where it counts -/
end Go.Proofs.YthkepmicdpgbbaaGreatDoor.Fn

/- What the printed functions that test texts come to. No memory is in sight here. -/
namespace Go.Proofs.YthkepmicdpgbbaaGreatDoor.Fn
set_option linter.unusedVariables false
set_option linter.unusedSimpArgs false
open Go.RowKit Go.Proofs.YthkepmicdpgbbaaGreatDoorW.PrintWords Go.Proofs.YthkepmicdpgbbaaGreatDoor.P Go.Proofs.YthkepmicdpgbbaaGreatDoor.Base

/-! ### texts -/
def textOk (s : ByteArray) : Bool := decide (s.size ≤ 100) && decide (∀ i : Nat, i < s.size → 32 ≤ bt s (i : Int) ∧ bt s (i : Int) ≤ 126)
theorem textOk_iff (s : ByteArray) : textOk s = true ↔ s.size ≤ 100 ∧ ∀ i : Nat, i < s.size → 32 ≤ bt s (i : Int) ∧ bt s (i : Int) ≤ 126 := by simp [textOk]
theorem textOk_false {s : ByteArray} {i : Nat} (hi : i < s.size) (h : bt s (i : Int) < 32 ∨ 126 < bt s (i : Int)) : textOk s = false := by
  rw [← Bool.not_eq_true, textOk_iff]
  rintro ⟨_, a⟩
  have := a i hi
  omega
theorem textOk_long {s : ByteArray} (h : 100 < s.size) : textOk s = false := by
  rw [← Bool.not_eq_true, textOk_iff]
  rintro ⟨a, _⟩
  omega
theorem textOk_all {s : ByteArray} (hp : ∀ j : Nat, j < s.size → 32 ≤ bt s (j : Int) ∧ bt s (j : Int) ≤ 126) : decide ((s.size : Int) ≤ 100) = textOk s := by
  rw [Bool.eq_iff_iff, textOk_iff, decide_eq_true_eq]
  exact ⟨fun h => ⟨by omega, hp⟩, fun h => by omega⟩
theorem impl_TextOk_l0 (s : ByteArray) (hs : s.size ≤ 9223372036854775807) (d : Nat) : ∀ (i : Nat), i + d = s.size → (∀ j : Nat, j < i → 32 ≤ bt s (j : Int) ∧ bt s (j : Int) ≤ 126) → Ev (fun k => impl_TextOk.l0 k s (s.size : Int) (i : Int)) (textOk s) := by
  induction d with
  | zero =>
    intro i hi hp
    obtain rfl : i = s.size := by omega
    exact Ev.step (fun k => impl_TextOk.l0.eq_2 _ _ _ k) (Ev.neg (by omega) (Ev.done (textOk_all hp)))
  | succ d ih =>
    intro i hi hp
    refine Ev.step (fun k => impl_TextOk.l0.eq_2 _ _ _ k) (Ev.pos (by omega) (Ev.pos (by omega) (Ev.pos (by omega) ?_)))
    by_cases h1 : bt s (i : Int) < 32
    · exact Ev.pos h1 (Ev.done (textOk_false (by omega) (.inl h1)).symm)
    · refine Ev.neg h1 ?_
      by_cases h2 : bt s (i : Int) > 126
      · exact Ev.pos h2 (Ev.done (textOk_false (by omega) (.inr h2)).symm)
      · refine Ev.neg h2 ?_
        rw [w64 (by omega) (by omega), cast_succ]
        refine ih (i + 1) (by omega) (fun j hj => ?_)
        rcases Nat.lt_or_ge j i with hj' | hj'
        · exact hp j hj'
        · obtain rfl : j = i := by omega
          omega
theorem impl_textOk (s : ByteArray) (hs : s.size ≤ 9223372036854775807) : Ev (fun k => impl_TextOk.f k s) (textOk s) := by
  unfold impl_TextOk.f
  exact impl_TextOk_l0 s hs s.size 0 (by omega) (fun j hj => by omega)
theorem spec_TextOk_l0 (s : ByteArray) (hs : s.size ≤ 9223372036854775807) (d : Nat) : ∀ (i : Nat), i + d = s.size → i ≤ 101 → (∀ j : Nat, j < i → 32 ≤ bt s (j : Int) ∧ bt s (j : Int) ≤ 126) → Ev (fun k => spec_TextOk.l0 k s (i : Int)) (textOk s) := by
  induction d with
  | zero =>
    intro i hi hm hp
    obtain rfl : i = s.size := by omega
    exact Ev.step (fun k => spec_TextOk.l0.eq_2 _ _ k) (Ev.neg (by omega) (Ev.step (fun k => spec_TextOk.j1.eq_2 _ _ _ k) (Ev.neg (by decide) (Ev.done (textOk_all hp)))))
  | succ d ih =>
    intro i hi hm hp
    refine Ev.step (fun k => spec_TextOk.l0.eq_2 _ _ k) (Ev.pos (by omega) (Ev.step (fun k => spec_TextOk.j1.eq_2 _ _ _ k) ?_))
    by_cases h0 : i = 101
    · refine Ev.neg (by simp; omega) (Ev.done ?_)
      rw [textOk_long (by omega)]
      simp
      omega
    refine Ev.pos (by simp; omega) (Ev.pos (by omega) (Ev.pos (by omega) ?_))
    by_cases h1 : bt s (i : Int) < 32
    · exact Ev.pos h1 (Ev.done (textOk_false (by omega) (.inl h1)).symm)
    · refine Ev.neg h1 ?_
      by_cases h2 : bt s (i : Int) > 126
      · exact Ev.pos h2 (Ev.done (textOk_false (by omega) (.inr h2)).symm)
      · refine Ev.neg h2 ?_
        rw [w64 (by omega) (by omega), cast_succ]
        refine ih (i + 1) (by omega) (by omega) (fun j hj => ?_)
        rcases Nat.lt_or_ge j i with hj' | hj'
        · exact hp j hj'
        · obtain rfl : j = i := by omega
          omega
theorem spec_textOk (s : ByteArray) (hs : s.size ≤ 9223372036854775807) : Ev (fun k => spec_TextOk.f k s) (textOk s) := by
  unfold spec_TextOk.f
  exact spec_TextOk_l0 s hs s.size 0 (by omega) (by omega) (fun j hj => by omega)

end Go.Proofs.YthkepmicdpgbbaaGreatDoor.Fn

/- What the printed functions on frames come to. No memory is in sight here. -/
namespace Go.Proofs.YthkepmicdpgbbaaGreatDoor.Fn
set_option linter.unusedVariables false
set_option linter.unusedSimpArgs false
open Go.RowKit Go.Proofs.YthkepmicdpgbbaaGreatDoorW.PrintWords Go.Proofs.YthkepmicdpgbbaaGreatDoor.P Go.Proofs.YthkepmicdpgbbaaGreatDoor.Base

/-! ### names -/
def nameOk (s : ByteArray) : Bool := decide (1 ≤ s.size ∧ s.size ≤ 8) && decide (∀ i : Nat, i < s.size → 97 ≤ bt s (i : Int) ∧ bt s (i : Int) ≤ 122)
theorem nameOk_iff (s : ByteArray) : nameOk s = true ↔ (1 ≤ s.size ∧ s.size ≤ 8) ∧ ∀ i : Nat, i < s.size → 97 ≤ bt s (i : Int) ∧ bt s (i : Int) ≤ 122 := by simp [nameOk]
theorem nameOk_false {s : ByteArray} {i : Nat} (hi : i < s.size) (h : bt s (i : Int) < 97 ∨ 122 < bt s (i : Int)) : nameOk s = false := by
  rw [← Bool.not_eq_true, nameOk_iff]
  rintro ⟨_, a⟩
  have := a i hi
  omega
theorem nameOk_all {s : ByteArray} (hp : ∀ j : Nat, j < s.size → 97 ≤ bt s (j : Int) ∧ bt s (j : Int) ≤ 122) : decide ((1 : Int) ≤ (s.size : Int) ∧ (s.size : Int) ≤ 8) = nameOk s := by
  rw [Bool.eq_iff_iff, nameOk_iff, decide_eq_true_eq]
  exact ⟨fun h => ⟨by omega, hp⟩, fun h => by omega⟩
theorem impl_nameOk_l0 (s : ByteArray) (hs : s.size ≤ 9223372036854775807) (d : Nat) : ∀ (i : Nat), i + d = s.size → (∀ j : Nat, j < i → 97 ≤ bt s (j : Int) ∧ bt s (j : Int) ≤ 122) → Ev (fun k => impl_nameOk.l0 k s (s.size : Int) (i : Int)) (nameOk s) := by
  induction d with
  | zero =>
    intro i hi hp
    obtain rfl : i = s.size := by omega
    exact Ev.step (fun k => impl_nameOk.l0.eq_2 _ _ _ k) (Ev.neg (by omega) (Ev.then (isIn _ _ _) (Ev.done (nameOk_all hp))))
  | succ d ih =>
    intro i hi hp
    refine Ev.step (fun k => impl_nameOk.l0.eq_2 _ _ _ k) (Ev.pos (by omega) (Ev.pos (by omega) (Ev.pos (by omega) ?_)))
    by_cases h1 : bt s (i : Int) < 97
    · exact Ev.pos h1 (Ev.done (nameOk_false (by omega) (.inl h1)).symm)
    · refine Ev.neg h1 ?_
      by_cases h2 : bt s (i : Int) > 122
      · exact Ev.pos h2 (Ev.done (nameOk_false (by omega) (.inr h2)).symm)
      · refine Ev.neg h2 ?_
        rw [w64 (by omega) (by omega), cast_succ]
        refine ih (i + 1) (by omega) (fun j hj => ?_)
        rcases Nat.lt_or_ge j i with hj' | hj'
        · exact hp j hj'
        · obtain rfl : j = i := by omega
          omega
theorem impl_nameOk (s : ByteArray) (hs : s.size ≤ 9223372036854775807) : Ev (fun k => impl_nameOk.f k s) (nameOk s) := by
  unfold impl_nameOk.f
  exact impl_nameOk_l0 s hs s.size 0 (by omega) (fun j hj => by omega)
theorem spec_l1Name_l0 (s : ByteArray) (hs : s.size ≤ 9223372036854775807) (d : Nat) : ∀ (i : Nat), i + d = s.size → (∀ j : Nat, j < i → 97 ≤ bt s (j : Int) ∧ bt s (j : Int) ≤ 122) → Ev (fun k => spec_l1Name.l0 k s (i : Int)) (nameOk s) := by
  induction d with
  | zero =>
    intro i hi hp
    obtain rfl : i = s.size := by omega
    exact Ev.step (fun k => spec_l1Name.l0.eq_2 _ _ k) (Ev.neg (by omega) (Ev.then (l1In _ _ _) (Ev.done (nameOk_all hp))))
  | succ d ih =>
    intro i hi hp
    refine Ev.step (fun k => spec_l1Name.l0.eq_2 _ _ k) (Ev.pos (by omega) (Ev.pos (by omega) ?_))
    by_cases h1 : bt s (i : Int) < 97
    · exact Ev.pos h1 (Ev.done (nameOk_false (by omega) (.inl h1)).symm)
    · refine Ev.neg h1 ?_
      by_cases h2 : bt s (i : Int) > 122
      · exact Ev.pos h2 (Ev.done (nameOk_false (by omega) (.inr h2)).symm)
      · refine Ev.neg h2 ?_
        rw [w64 (by omega) (by omega), cast_succ]
        refine ih (i + 1) (by omega) (fun j hj => ?_)
        rcases Nat.lt_or_ge j i with hj' | hj'
        · exact hp j hj'
        · obtain rfl : j = i := by omega
          omega
theorem l1Name (s : ByteArray) (hs : s.size ≤ 9223372036854775807) : Ev (fun k => spec_l1Name.f k s) (nameOk s) := by
  unfold spec_l1Name.f
  exact spec_l1Name_l0 s hs s.size 0 (by omega) (fun j hj => by omega)

/-! ### frames -/
end Go.Proofs.YthkepmicdpgbbaaGreatDoor.Fn

/- What the printed functions that look for a database by its name, and that check a configuration, come to. -/
namespace Go.Proofs.YthkepmicdpgbbaaGreatDoor.Fn
set_option linter.unusedVariables false
set_option linter.unusedSimpArgs false
open Go.RowKit Go.Proofs.YthkepmicdpgbbaaGreatDoorW.PrintWords Go.Proofs.YthkepmicdpgbbaaGreatDoor.P Go.Proofs.YthkepmicdpgbbaaGreatDoor.Base

/-! ### a database by its name -/
def dbAt (l : List Db) (name : ByteArray) : Option Db := l.find? (fun x => x.f0.toList == name.toList)
def dbAns : Option Db → ByteArray × Int × Int × Int × Int × Bool
  | none => ((⟨#[]⟩ : ByteArray), 0, 0, 0, 0, false)
  | some x => (x.f0, x.f1, x.f2, x.f3, x.f4, true)
theorem spec_DbAt_l0 (l : List Db) (name : ByteArray) (hl : l.length ≤ 9223372036854775807) (d : Nat) : ∀ (i : Nat), i + d = l.length → Ev (fun k => spec_DbAt.l0 k l name (i : Int)) (dbAns (dbAt (l.drop i) name)) := by
  induction d with
  | zero =>
    intro i hi
    refine Ev.step (fun k => spec_DbAt.l0.eq_2 _ _ _ k) (Ev.neg (by omega) (Ev.done ?_))
    rw [List.drop_of_length_le (by omega)]
    rfl
  | succ d ih =>
    intro i hi
    have he : rd_T138 l (i : Int) = l[i] := getD_nat l _ (by omega)
    refine Ev.step (fun k => spec_DbAt.l0.eq_2 _ _ _ k) (Ev.pos (by omega) (Ev.pos (by omega) ?_))
    rw [he, List.drop_eq_getElem_cons (by omega), dbAt, List.find?_cons]
    by_cases h : (l[i]).f0.toList = name.toList
    · refine Ev.pos h (Ev.done ?_)
      simp [h, dbAns]
    · refine Ev.neg h ?_
      rw [w64 (n := (i : Int) + 1) (by omega) (by omega), cast_succ]
      refine Ev.eq (ih (i + 1) (by omega)) ?_
      have hb : ((l[i]).f0.toList == name.toList) = false := by simpa using h
      simp only [hb]
      rfl
theorem spec_dbAt (l : List Db) (name : ByteArray) (hl : l.length ≤ 9223372036854775807) : Ev (fun k => spec_DbAt.f k l name) (dbAns (dbAt l name)) := spec_DbAt_l0 l name hl l.length 0 (by omega)
/-- No database of a name stands at j, .., j + e - 1. -/
def noneAt (l : List Db) (name : ByteArray) : Nat → Nat → Bool
  | _, 0 => true
  | j, e + 1 => !((rd_T138 l (j : Int)).f0.toList == name.toList) && noneAt l name (j + 1) e
def dbOk (x : Db) : Bool := nameOk x.f0 && (decide (1 ≤ x.f1 ∧ x.f1 ≤ 3) && (decide (0 ≤ x.f2 ∧ x.f2 ≤ 4) && (decide (1 ≤ x.f3 ∧ x.f3 ≤ 20) && decide (1 ≤ x.f4 ∧ x.f4 ≤ 20))))
def confFrom (l : List Db) : Nat → Nat → Bool
  | _, 0 => decide ((1 : Int) ≤ (l.length : Int) ∧ (l.length : Int) ≤ 3)
  | i, d + 1 => dbOk (rd_T138 l (i : Int)) && (noneAt l (rd_T138 l (i : Int)).f0 0 i && confFrom l (i + 1) d)
theorem spec_l3Db (x : Db) (hx : x.f0.size ≤ 9223372036854775807) : Ev (fun k => spec_l3Db.f k x.f0 x.f1 x.f2 x.f3 x.f4) (dbOk x) := by
  unfold spec_l3Db.f dbOk
  refine Ev.bind (l1Name _ hx) ?_
  cases nameOk x.f0
  · exact Ev.neg (by decide) (Ev.done rfl)
  · refine Ev.pos rfl (Ev.then (l1In _ _ _) ?_)
    generalize decide (1 ≤ x.f1 ∧ x.f1 ≤ 3) = b1
    cases b1
    · exact Ev.neg (by decide) (Ev.done rfl)
    · refine Ev.pos rfl (Ev.then (l1In _ _ _) ?_)
      generalize decide (0 ≤ x.f2 ∧ x.f2 ≤ 4) = b2
      cases b2
      · exact Ev.neg (by decide) (Ev.done rfl)
      · refine Ev.pos rfl (Ev.then (l1In _ _ _) ?_)
        generalize decide (1 ≤ x.f3 ∧ x.f3 ≤ 20) = b3
        cases b3
        · exact Ev.neg (by decide) (Ev.done rfl)
        · exact Ev.pos rfl (Ev.then (l1In _ _ _) (Ev.done (by simp)))
theorem spec_ConfOk_l1 (l : List Db) (hl : l.length ≤ 1048577) (i : Nat) (hi : i < l.length) (b : Bool) (hb : Ev (fun k => spec_ConfOk.l0 k l ((i + 1 : Nat) : Int)) b) (e : Nat) : ∀ (j : Nat), j + e = i →
    Ev (fun k => spec_ConfOk.l1 k l (i : Int) (j : Int)) (noneAt l (rd_T138 l (i : Int)).f0 j e && b) := by
  induction e with
  | zero =>
    intro j hj
    refine Ev.step (fun k => spec_ConfOk.l1.eq_2 _ _ _ k) (Ev.neg (by omega) ?_)
    rw [w64 (n := (i : Int) + 1) (by omega) (by omega), cast_succ]
    exact Ev.eq hb (by simp [noneAt])
  | succ e ih =>
    intro j hj
    refine Ev.step (fun k => spec_ConfOk.l1.eq_2 _ _ _ k) (Ev.pos (by omega) (Ev.pos (by omega) (Ev.pos (by omega) (Ev.pos (by omega) (Ev.pos (by omega) ?_)))))
    rw [noneAt]
    by_cases h : (rd_T138 l (j : Int)).f0.toList = (rd_T138 l (i : Int)).f0.toList
    · exact Ev.pos h (Ev.done (by rw [beq_iff_eq.2 h]; rfl))
    · refine Ev.neg h ?_
      rw [w64 (n := (j : Int) + 1) (by omega) (by omega), cast_succ]
      refine Ev.eq (ih (j + 1) (by omega)) ?_
      rw [beq_eq_false_iff_ne.2 h]
      rfl
theorem spec_ConfOk_l0 (l : List Db) (hl : l.length ≤ 1048577) (hg : ∀ x ∈ l, x.f0.size ≤ 9223372036854775807) (d : Nat) : ∀ (i : Nat), i + d = l.length → Ev (fun k => spec_ConfOk.l0 k l (i : Int)) (confFrom l i d) := by
  induction d with
  | zero =>
    intro i hi
    exact Ev.step (fun k => spec_ConfOk.l0.eq_2 _ _ k) (Ev.neg (by omega) (Ev.then (l1In _ _ _) (Ev.done rfl)))
  | succ d ih =>
    intro i hi
    have he : rd_T138 l (i : Int) = l[i] := getD_nat l _ (by omega)
    refine Ev.step (fun k => spec_ConfOk.l0.eq_2 _ _ k) (Ev.pos (by omega) (Ev.pos (by omega) (Ev.bind (spec_l3Db _ (by rw [he]; exact hg _ (List.getElem_mem _))) ?_)))
    rw [confFrom]
    cases dbOk (rd_T138 l (i : Int))
    · exact Ev.neg (by decide) (Ev.done rfl)
    · refine Ev.pos rfl ?_
      rw [Bool.true_and]
      exact spec_ConfOk_l1 l hl i (by omega) _ (ih (i + 1) (by omega)) i 0 (by omega)
theorem spec_confOk (l : List Db) (hl : l.length ≤ 1048577) (hg : ∀ x ∈ l, x.f0.size ≤ 9223372036854775807) : Ev (fun k => spec_ConfOk.f k l) (confFrom l 0 l.length) := spec_ConfOk_l0 l hl hg l.length 0 (by omega)
theorem place_none (l : List Db) (i : Nat) (hi : i < l.length) (e : Nat) : ∀ (j : Nat), j + e = i →
    decide (impl_dbPlace.l0 (l.drop j) (rd_T138 l (i : Int)).f0 (j : Int) = (i : Int)) = noneAt l (rd_T138 l (i : Int)).f0 j e := by
  induction e with
  | zero =>
    intro j hj
    obtain rfl : j = i := by omega
    rw [drop_get l z138 hi, impl_dbPlace.l0]
    unfold rd_T138
    rw [if_pos rfl]
    simp [noneAt]
  | succ e ih =>
    intro j hj
    rw [drop_get l z138 (show j < l.length by omega), impl_dbPlace.l0, noneAt]
    by_cases h : (rd_T138 l (j : Int)).f0.toList = (rd_T138 l (i : Int)).f0.toList
    · rw [if_pos (by unfold rd_T138 at h ⊢; exact h), beq_iff_eq.2 h]
      simp; omega
    · rw [if_neg (by unfold rd_T138 at h ⊢; exact h), beq_eq_false_iff_ne.2 h, cast_succ, ih (j + 1) (by omega)]
      rfl
theorem impl_ConfOk_l0 (l : List Db) (hl : l.length ≤ 1048577) (hg : ∀ x ∈ l, x.f0.size ≤ 9223372036854775807) (d : Nat) : ∀ (i : Nat), i + d = l.length → Ev (fun k => impl_ConfOk.l0 k l l (l.length : Int) (i : Int)) (confFrom l i d) := by
  induction d with
  | zero =>
    intro i hi
    exact Ev.step (fun k => impl_ConfOk.l0.eq_2 _ _ _ _ k) (Ev.neg (by omega) (Ev.then (isIn _ _ _) (Ev.done rfl)))
  | succ d ih =>
    intro i hi
    have he : rd_T138 l (i : Int) = l[i] := getD_nat l _ (by omega)
    have hp := place_none l i (by omega) i 0 (by omega)
    refine Ev.step (fun k => impl_ConfOk.l0.eq_2 _ _ _ _ k) (Ev.pos (by omega) (Ev.pos (by omega) (Ev.pos (by omega) (Ev.bind (impl_nameOk _ (by rw [he]; exact hg _ (List.getElem_mem _))) ?_))))
    rw [confFrom, dbOk]
    cases nameOk (rd_T138 l (i : Int)).f0
    · exact Ev.neg (by decide) (Ev.done rfl)
    refine Ev.pos rfl (Ev.then rfl ?_)
    rw [← hp]
    by_cases h : impl_dbPlace.l0 l (rd_T138 l (i : Int)).f0 0 = (i : Int)
    · refine Ev.pos h (Ev.then (isIn _ _ _) ?_)
      rw [show decide (impl_dbPlace.l0 (List.drop 0 l) (rd_T138 l (i : Int)).f0 ((0 : Nat) : Int) = (i : Int)) = true from decide_eq_true h]
      generalize decide (1 ≤ (rd_T138 l (i : Int)).f1 ∧ (rd_T138 l (i : Int)).f1 ≤ 3) = b1
      cases b1
      · exact Ev.neg (by decide) (Ev.done rfl)
      refine Ev.pos rfl (Ev.then (isIn _ _ _) ?_)
      generalize decide (0 ≤ (rd_T138 l (i : Int)).f2 ∧ (rd_T138 l (i : Int)).f2 ≤ 4) = b2
      cases b2
      · exact Ev.neg (by decide) (Ev.done rfl)
      refine Ev.pos rfl (Ev.then (isIn _ _ _) ?_)
      generalize decide (1 ≤ (rd_T138 l (i : Int)).f3 ∧ (rd_T138 l (i : Int)).f3 ≤ 20) = b3
      cases b3
      · exact Ev.neg (by decide) (Ev.done rfl)
      refine Ev.pos rfl (Ev.then (isIn _ _ _) ?_)
      generalize decide (1 ≤ (rd_T138 l (i : Int)).f4 ∧ (rd_T138 l (i : Int)).f4 ≤ 20) = b4
      cases b4
      · exact Ev.neg (by decide) (Ev.done rfl)
      refine Ev.pos rfl ?_
      rw [w64 (n := (i : Int) + 1) (by omega) (by omega), cast_succ]
      exact Ev.eq (ih (i + 1) (by omega)) (by simp)
    · refine Ev.neg h (Ev.done ?_)
      rw [show decide (impl_dbPlace.l0 (List.drop 0 l) (rd_T138 l (i : Int)).f0 ((0 : Nat) : Int) = (i : Int)) = false from decide_eq_false h]
      simp
theorem impl_confOk (l : List Db) (hl : l.length ≤ 1048577) (hg : ∀ x ∈ l, x.f0.size ≤ 9223372036854775807) : Ev (fun k => impl_ConfOk.f k l) (confFrom l 0 l.length) := impl_ConfOk_l0 l hl hg l.length 0 (by omega)
end Go.Proofs.YthkepmicdpgbbaaGreatDoor.Fn

/- What the printed functions that write a number come to: the numeral of Go's own strconv. -/
namespace Go.Proofs.YthkepmicdpgbbaaGreatDoor.Fn
set_option linter.unusedVariables false
set_option linter.unusedSimpArgs false
open Go.RowKit Go.Proofs.YthkepmicdpgbbaaGreatDoorW.PrintWords Go.Proofs.YthkepmicdpgbbaaGreatDoor.P Go.Proofs.YthkepmicdpgbbaaGreatDoor.Base

/-- A string of its bytes. -/
def ba (l : List UInt8) : ByteArray := ⟨l.toArray⟩
theorem ba_size (l : List UInt8) : (ba l).size = l.length := by simp [ba, ByteArray.size]
theorem ba_append (l m : List UInt8) : ba l ++ ba m = ba (l ++ m) := by
  apply ByteArray.ext
  simp [ba]
theorem ba_of (s : ByteArray) : s = ba s.data.toList := by
  apply ByteArray.ext
  simp [ba]
theorem ba_one (n : Nat) (h : n < 10) : strOfNums [(wrap64 (48 + (n : Int))) % 256] = ba [UInt8.ofNat (48 + n)] := by
  rw [w64 (by omega) (by omega), show (48 + (n : Int)) % 256 = ((48 + n : Nat) : Int) by omega]
  rfl
def numFin (n : Int) (s : ByteArray) : ByteArray := if n < 0 then ba [45] ++ s else s
theorem tmod_pos (m : Nat) : Int.tmod (m : Int) 10 = ((m % 10 : Nat) : Int) := by rw [Int.tmod_eq_emod_of_nonneg (by omega)]; omega
theorem tdiv_pos (m : Nat) : Int.tdiv (m : Int) 10 = ((m / 10 : Nat) : Int) := by rw [Int.tdiv_eq_ediv_of_nonneg (by omega)]; omega
theorem tmod_neg (m : Nat) : Int.tmod (-(m : Int)) 10 = -((m % 10 : Nat) : Int) := by rw [Int.neg_tmod, tmod_pos]
theorem tdiv_neg (m : Nat) : Int.tdiv (-(m : Int)) 10 = -((m / 10 : Nat) : Int) := by rw [Int.neg_tdiv, tdiv_pos]
theorem digits_step (m : Nat) (h : m ≠ 0) (s : ByteArray) : (if m / 10 = 0 then (ba [UInt8.ofNat (48 + m % 10)] ++ s) else ba (Lib.decDigits (m / 10)) ++ (ba [UInt8.ofNat (48 + m % 10)] ++ s)) = ba (Lib.decDigits m) ++ s := by
  by_cases h10 : m < 10
  · conv => rhs; rw [Lib.decDigits, dif_pos h10]
    rw [if_pos (by omega), Nat.mod_eq_of_lt h10]
  · conv => rhs; rw [Lib.decDigits, dif_neg h10]
    rw [if_neg (by omega), ba_of s, ba_append, ba_append, ba_append, List.append_assoc]
theorem spec_NumText_l0 (n : Int) (d : Nat) : ∀ (m : Nat) (x : Int) (s : ByteArray), x = (m : Int) ∨ x = -(m : Int) → m < 10 ^ d → d ≤ 20 → m ≤ 9223372036854775808 → s.size + d ≤ 1000 →
    Ev (fun k => spec_NumText.l0 k n s x) (numFin n (if m = 0 then s else ba (Lib.decDigits m) ++ s)) := by
  have fin : ∀ s : ByteArray, s.size ≤ 1000 → Ev (fun k => spec_NumText.l0 k n s 0) (numFin n s) := by
    intro s hs
    refine Ev.step (fun k => spec_NumText.l0.eq_2 _ _ _ k) (Ev.pos rfl ?_)
    by_cases hn : n < 0
    · exact Ev.pos hn (Ev.pos (by omega) (Ev.done (if_pos hn).symm))
    · exact Ev.neg hn (Ev.done (if_neg hn).symm)
  induction d with
  | zero =>
    intro m x s hx hm _ _ hs
    obtain rfl : m = 0 := by simpa using hm
    obtain rfl : x = 0 := by omega
    rw [if_pos rfl]
    exact fin s (by omega)
  | succ d ih =>
    intro m x s hx hm hd hM hs
    by_cases h0 : m = 0
    · subst h0
      obtain rfl : x = 0 := by omega
      rw [if_pos rfl]
      exact fin s (by omega)
    rw [if_neg h0, ← digits_step m h0 s]
    have hm' : m / 10 < 10 ^ d := by
      rw [Nat.pow_succ] at hm
      omega
    have hx0 : ¬ x = 0 := by omega
    have hmod : m % 10 < 10 := Nat.mod_lt _ (by decide)
    have next : ∀ y : Int, y = ((m / 10 : Nat) : Int) ∨ y = -((m / 10 : Nat) : Int) → Ev (fun k => spec_NumText.l0 k n (strOfNums [(wrap64 (48 + ((m % 10 : Nat) : Int))) % 256] ++ s) (wrap64 y)) (numFin n (if m / 10 = 0 then (ba [UInt8.ofNat (48 + m % 10)] ++ s) else ba (Lib.decDigits (m / 10)) ++ (ba [UInt8.ofNat (48 + m % 10)] ++ s))) := by
      intro y hy
      rw [ba_one _ hmod, w64 (by omega) (by omega)]
      exact ih (m / 10) y _ hy hm' (by omega) (by omega) (by rw [size_append, ba_size]; simp; omega)
    have sz : (strOfNums [(wrap64 (48 + ((m % 10 : Nat) : Int))) % 256]).size + s.size ≤ 9223372036854775807 := by rw [size_strOfNums]; simp; omega
    refine Ev.step (fun k => spec_NumText.l0.eq_2 _ _ _ k) (Ev.neg hx0 ?_)
    rcases hx with rfl | rfl
    · rw [tmod_pos, tdiv_pos]
      exact Ev.neg (by omega) (Ev.then rfl (Ev.pos sz (next _ (.inl rfl))))
    · rw [tmod_neg, tdiv_neg]
      by_cases hz : m % 10 = 0
      · rw [hz] at sz next ⊢
        exact Ev.neg (by omega) (Ev.then rfl (Ev.pos sz (next _ (.inr rfl))))
      · refine Ev.pos (by omega) ?_
        rw [Int.neg_neg, w64 (n := ((m % 10 : Nat) : Int)) (by omega) (by omega)]
        exact Ev.then rfl (Ev.pos sz (next _ (.inr rfl)))
theorem spec_numText (n : Int) (h0 : -9223372036854775808 ≤ n) (h1 : n ≤ 9223372036854775807) : Ev (fun k => spec_NumText.f k n) (ba (Lib.itoa n)) := by
  unfold spec_NumText.f
  by_cases hn : n = 0
  · subst hn
    exact Ev.pos rfl (Ev.done (by rw [Lib.itoa, if_neg (by decide), Lib.decDigits, dif_pos (by decide)]; rfl))
  refine Ev.neg hn (Ev.eq (spec_NumText_l0 n 19 n.natAbs n _ (by omega) (by have h10 : (10 : Nat) ^ 19 = 10000000000000000000 := (by decide); rw [h10]; omega) (by omega) (by omega) (by decide)) ?_)
  rw [if_neg (by omega), Lib.itoa, numFin]
  have he : ∀ l : List UInt8, ba l ++ (⟨#[]⟩ : ByteArray) = ba l := by
    intro l
    rw [show (⟨#[]⟩ : ByteArray) = ba [] from rfl, ba_append, List.append_nil]
  rw [he]
  by_cases hneg : n < 0
  · rw [if_pos hneg, if_pos hneg, ba_append]; rfl
  · rw [if_neg hneg, if_neg hneg, show n.natAbs = n.toNat by omega]
theorem impl_numText (n : Int) (h0 : -9223372036854775808 ≤ n) (h1 : n ≤ 9223372036854775807) : impl_NumText.f n = some (ba (Lib.itoa n)) := by
  unfold impl_NumText.f strconv_Itoa_152.f
  rw [if_pos ⟨h0, h1⟩]
  rfl
end Go.Proofs.YthkepmicdpgbbaaGreatDoor.Fn

/- What the printed functions that write a configuration come to. -/
namespace Go.Proofs.YthkepmicdpgbbaaGreatDoor.Fn
set_option linter.unusedVariables false
set_option linter.unusedSimpArgs false
open Go.RowKit Go.Proofs.YthkepmicdpgbbaaGreatDoorW.PrintWords Go.Proofs.YthkepmicdpgbbaaGreatDoor.P Go.Proofs.YthkepmicdpgbbaaGreatDoor.Base

def itemL (x : Db) : List UInt8 := x.f0.data.toList ++ [58] ++ Lib.itoa x.f1 ++ [47] ++ Lib.itoa x.f2 ++ [47] ++ Lib.itoa x.f3 ++ [47] ++ Lib.itoa x.f4
theorem item_eq (x : Db) : ((((((((x.f0 ++ (⟨#[58]⟩ : ByteArray)) ++ ba (Lib.itoa x.f1)) ++ (⟨#[47]⟩ : ByteArray)) ++ ba (Lib.itoa x.f2)) ++ (⟨#[47]⟩ : ByteArray)) ++ ba (Lib.itoa x.f3)) ++ (⟨#[47]⟩ : ByteArray)) ++ ba (Lib.itoa x.f4)) = ba (itemL x) := by
  conv => lhs; rw [ba_of x.f0]
  rw [show (⟨#[58]⟩ : ByteArray) = ba [58] from rfl, show (⟨#[47]⟩ : ByteArray) = ba [47] from rfl]
  simp only [ba_append]
  rfl
theorem item_behind (s : ByteArray) (x : Db) : (((((((((s ++ x.f0) ++ (⟨#[58]⟩ : ByteArray)) ++ ba (Lib.itoa x.f1)) ++ (⟨#[47]⟩ : ByteArray)) ++ ba (Lib.itoa x.f2)) ++ (⟨#[47]⟩ : ByteArray)) ++ ba (Lib.itoa x.f3)) ++ (⟨#[47]⟩ : ByteArray)) ++ ba (Lib.itoa x.f4)) = s ++ ba (itemL x) := by
  conv => lhs; rw [ba_of s, ba_of x.f0]
  conv => rhs; rw [ba_of s]
  rw [show (⟨#[58]⟩ : ByteArray) = ba [58] from rfl, show (⟨#[47]⟩ : ByteArray) = ba [47] from rfl]
  simp only [ba_append, itemL, List.append_assoc]
theorem dbOk_of {x : Db} (h : dbOk x = true) : x.f0.size ≤ 8 ∧ (1 ≤ x.f1 ∧ x.f1 ≤ 3) ∧ (0 ≤ x.f2 ∧ x.f2 ≤ 4) ∧ (1 ≤ x.f3 ∧ x.f3 ≤ 20) ∧ (1 ≤ x.f4 ∧ x.f4 ≤ 20) := by
  unfold dbOk at h
  simp only [Bool.and_eq_true, decide_eq_true_eq] at h
  have := (nameOk_iff x.f0).1 h.1
  exact ⟨this.1.2, h.2.1, h.2.2.1, h.2.2.2.1, h.2.2.2.2⟩
theorem itoa_small {n : Int} (h0 : 0 ≤ n) (h1 : n ≤ 20) : (Lib.itoa n).length ≤ 21 := Lib.itoa_length_le n (by omega) (by omega)
theorem itemL_length {x : Db} (h : dbOk x = true) : (itemL x).length ≤ 100 := by
  obtain ⟨hn, h1, h2, h3, h4⟩ := dbOk_of h
  have e1 := itoa_small (n := x.f1) (by omega) (by omega)
  have e2 := itoa_small (n := x.f2) (by omega) (by omega)
  have e3 := itoa_small (n := x.f3) (by omega) (by omega)
  have e4 := itoa_small (n := x.f4) (by omega) (by omega)
  have e0 : x.f0.data.toList.length = x.f0.size := rfl
  simp only [itemL, List.length_append, List.length_singleton, e0]
  omega
theorem confFrom_all (l : List Db) (d : Nat) : ∀ (i : Nat), i + d = l.length → confFrom l i d = true → l.length ≤ 3 ∧ ∀ (j : Nat) (hj : j < l.length), i ≤ j → dbOk l[j] = true := by
  induction d with
  | zero =>
    intro i hi h
    unfold confFrom at h
    rw [decide_eq_true_eq] at h
    exact ⟨by omega, fun j hj hij => by omega⟩
  | succ d ih =>
    intro i hi h
    have he : rd_T138 l (i : Int) = l[i] := getD_nat l _ (by omega)
    unfold confFrom at h
    rw [he] at h
    simp only [Bool.and_eq_true] at h
    obtain ⟨h3, hall⟩ := ih (i + 1) (by omega) h.2.2
    refine ⟨h3, fun j hj hij => ?_⟩
    by_cases e : i = j
    · subst e; exact h.1
    · exact hall j hj (by omega)
/-- The texts of databases, each but the first behind a ';'. -/
def confAcc : ByteArray → Nat → List Db → ByteArray
  | s, _, [] => s
  | s, i, x :: xs => confAcc ((if i = 0 then s else s ++ (⟨#[59]⟩ : ByteArray)) ++ ba (itemL x)) (i + 1) xs
theorem confAcc_eq (xs : List Db) : ∀ (L : List UInt8) (i : Nat), i ≠ 0 → confAcc (ba L) i xs = ba (L ++ xs.flatMap (fun x => 59 :: itemL x)) := by
  induction xs with
  | nil => intro L i _; simp [confAcc]
  | cons x xs ih =>
    intro L i hi
    rw [confAcc, if_neg hi, show (⟨#[59]⟩ : ByteArray) = ba [59] from rfl, ba_append, ba_append, ih _ _ (by omega)]
    simp
theorem join_eq (x : Db) (xs : List Db) : Lib.join ((x :: xs).map itemL) [59] = itemL x ++ xs.flatMap (fun x => 59 :: itemL x) := by
  unfold Lib.join
  induction xs generalizing x with
  | nil => simp [List.intercalate]
  | cons y ys ih =>
    have := ih y
    simp only [List.intercalate, List.map_cons, List.intersperse, List.flatten_cons, List.flatMap_cons] at this ⊢
    cases ys with
    | nil => simp
    | cons z zs =>
      simp only [List.map_cons, List.intersperse, List.flatten_cons] at this ⊢
      rw [this]
      simp
noncomputable def confText (l : List Db) : ByteArray := if confFrom l 0 l.length = true then confAcc (⟨#[]⟩ : ByteArray) 0 l else (⟨#[]⟩ : ByteArray)
theorem spec_ConfText_j2 (l : List Db) (hl : l.length ≤ 3) (i : Nat) (hi : i < l.length) (hok : dbOk l[i] = true) (s : ByteArray) (hs : s.size ≤ 1000) (b : ByteArray) (hb : Ev (fun k => spec_ConfText.l0 k l (s ++ ba (itemL l[i])) ((i + 1 : Nat) : Int)) b) :
    Ev (fun k => spec_ConfText.j2 k l s (i : Int)) b := by
  have he : rd_T138 l (i : Int) = l[i] := getD_nat l _ (by omega)
  obtain ⟨hn, h1, h2, h3, h4⟩ := dbOk_of hok
  have e1 := itoa_small (n := l[i].f1) (by omega) (by omega)
  have e2 := itoa_small (n := l[i].f2) (by omega) (by omega)
  have e3 := itoa_small (n := l[i].f3) (by omega) (by omega)
  have e4 := itoa_small (n := l[i].f4) (by omega) (by omega)
  have z1 : ∀ a : UInt8, (⟨#[a]⟩ : ByteArray).size = 1 := fun _ => rfl
  refine Ev.step (fun k => spec_ConfText.j2.eq_2 _ _ _ k) (Ev.pos (by omega) (Ev.pos (by omega) ?_))
  rw [he]
  refine Ev.pos (by omega) (Ev.pos (by simp only [size_append]; omega) (Ev.bind (spec_numText _ (by omega) (by omega)) (Ev.pos (by simp only [size_append, ba_size, z1]; omega) (Ev.pos (by simp only [size_append, ba_size, z1]; omega) ?_))))
  refine Ev.bind (spec_numText _ (by omega) (by omega)) (Ev.pos (by simp only [size_append, ba_size, z1]; omega) (Ev.pos (by simp only [size_append, ba_size, z1]; omega) ?_))
  refine Ev.bind (spec_numText _ (by omega) (by omega)) (Ev.pos (by simp only [size_append, ba_size, z1]; omega) (Ev.pos (by simp only [size_append, ba_size, z1]; omega) ?_))
  refine Ev.bind (spec_numText _ (by omega) (by omega)) (Ev.pos (by simp only [size_append, ba_size, z1]; omega) ?_)
  rw [item_behind, w64 (n := (i : Int) + 1) (by omega) (by omega), cast_succ]
  exact hb
theorem spec_ConfText_l0 (l : List Db) (hl : l.length ≤ 3) (hg : ∀ x ∈ l, x.f0.size ≤ 9223372036854775807) (hc : confFrom l 0 l.length = true) (d : Nat) : ∀ (i : Nat) (s : ByteArray), i + d = l.length → s.size ≤ 101 * i → Ev (fun k => spec_ConfText.l0 k l s (i : Int)) (confAcc s i (l.drop i)) := by
  obtain ⟨_, hall⟩ := confFrom_all l l.length 0 (by omega) hc
  induction d with
  | zero =>
    intro i s hi hs
    refine Ev.step (fun k => spec_ConfText.l0.eq_2 _ _ _ k) (Ev.neg (by omega) (Ev.step (fun k => spec_ConfText.j1.eq_2 _ _ _ _ k) (Ev.neg (by decide) (Ev.done ?_))))
    rw [List.drop_of_length_le (by omega)]
    rfl
  | succ d ih =>
    intro i s hi hs
    have hok := hall i (by omega) (by omega)
    have hil := itemL_length hok
    rw [List.drop_eq_getElem_cons (by omega), confAcc]
    have hc' := spec_confOk l (by omega) hg
    rw [hc] at hc'
    refine Ev.step (fun k => spec_ConfText.l0.eq_2 _ _ _ k) (Ev.pos (by omega) (Ev.bind hc' (Ev.step (fun k => spec_ConfText.j1.eq_2 _ _ _ _ k) (Ev.pos rfl ?_))))
    by_cases h0 : i = 0
    · subst h0
      rw [if_pos rfl]
      exact Ev.neg (by omega) (spec_ConfText_j2 l hl 0 (by omega) hok s (by omega) _ (ih 1 _ (by omega) (by rw [size_append, ba_size]; omega)))
    · rw [if_neg h0]
      have z1 : ∀ a : UInt8, (⟨#[a]⟩ : ByteArray).size = 1 := fun _ => rfl
      exact Ev.pos (by omega) (Ev.pos (by omega) (spec_ConfText_j2 l hl i (by omega) hok _ (by rw [size_append, z1]; omega) _ (ih (i + 1) _ (by omega) (by rw [size_append, size_append, ba_size, z1]; omega))))
theorem spec_confText (l : List Db) (hl : l.length ≤ 1048577) (hg : ∀ x ∈ l, x.f0.size ≤ 9223372036854775807) : Ev (fun k => spec_ConfText.f k l) (confText l) := by
  unfold spec_ConfText.f confText
  by_cases hc : confFrom l 0 l.length = true
  · rw [if_pos hc]
    obtain ⟨h3, _⟩ := confFrom_all l l.length 0 (by omega) hc
    exact spec_ConfText_l0 l h3 hg hc l.length 0 _ (by omega) (by decide)
  · rw [if_neg hc]
    have hc' := spec_confOk l hl hg
    rw [Bool.not_eq_true] at hc
    rw [hc] at hc'
    refine Ev.step (fun k => spec_ConfText.l0.eq_2 _ _ _ k) ?_
    by_cases h0 : l.length = 0
    · exact Ev.neg (by omega) (Ev.step (fun k => spec_ConfText.j1.eq_2 _ _ _ _ k) (Ev.neg (by decide) (Ev.done rfl)))
    · exact Ev.pos (by omega) (Ev.bind hc' (Ev.step (fun k => spec_ConfText.j1.eq_2 _ _ _ _ k) (Ev.neg (by decide) (Ev.done rfl))))
theorem impl_ConfText_l0 (l : List Db) (hl : l.length ≤ 3) (hall : ∀ (j : Nat) (hj : j < l.length), 0 ≤ j → dbOk l[j] = true) (d : Nat) : ∀ (i : Nat), i + d = l.length → Ev (fun k => impl_ConfText.l0 k ((l.take i).map (fun x => ba (itemL x))) l (l.length : Int) (i : Int)) (ba (Lib.join (l.map itemL) [59])) := by
  induction d with
  | zero =>
    intro i hi
    refine Ev.step (fun k => impl_ConfText.l0.eq_2 _ _ _ _ k) (Ev.neg (by omega) (Ev.then (a := ba (Lib.join (l.map itemL) [59])) ?_ (Ev.done rfl)))
    have ht : l.take i = l := List.take_of_length_le (by omega)
    have hm : ((l.take i).map (fun x => ba (itemL x))).map (fun x => x.data.toList) = l.map itemL := by
      rw [ht, List.map_map]
      exact List.map_congr_left (fun x _ => by simp [ba])
    unfold strings_Join.f
    rw [show (⟨#[59]⟩ : ByteArray).data.toList = [59] from rfl, hm, if_pos]
    · rfl
    · refine ⟨by rw [List.length_map, List.length_take]; omega, ?_⟩
      cases l with
      | nil => simp [Lib.join, List.intercalate]
      | cons x xs =>
        rw [join_eq]
        have b : ∀ ys : List Db, (∀ y ∈ ys, dbOk y = true) → (ys.flatMap (fun x => 59 :: itemL x)).length ≤ 101 * ys.length := by
          intro ys
          induction ys with
          | nil => intro _; simp
          | cons y ys ih =>
            intro hy
            have := ih (fun z hz => hy z (List.mem_cons_of_mem _ hz))
            have h1 := itemL_length (hy y (List.mem_cons_self ..))
            simp only [List.flatMap_cons, List.length_append, List.length_cons]
            omega
        have hmem : ∀ y ∈ x :: xs, dbOk y = true := by
          intro y hy
          obtain ⟨j, hj, rfl⟩ := List.getElem_of_mem hy
          exact hall j hj (by omega)
        have h1 := itemL_length (hmem x (List.mem_cons_self ..))
        have h2 := b xs (fun y hy => hmem y (List.mem_cons_of_mem _ hy))
        simp only [List.length_cons] at hl
        rw [List.length_append]
        omega
  | succ d ih =>
    intro i hi
    have he : rd_T138 l (i : Int) = l[i] := getD_nat l _ (by omega)
    have hok := hall i (by omega) (by omega)
    obtain ⟨hn, h1, h2, h3, h4⟩ := dbOk_of hok
    have e1 := itoa_small (n := l[i].f1) (by omega) (by omega)
    have e2 := itoa_small (n := l[i].f2) (by omega) (by omega)
    have e3 := itoa_small (n := l[i].f3) (by omega) (by omega)
    have e4 := itoa_small (n := l[i].f4) (by omega) (by omega)
    have z1 : ∀ a : UInt8, (⟨#[a]⟩ : ByteArray).size = 1 := fun _ => rfl
    refine Ev.step (fun k => impl_ConfText.l0.eq_2 _ _ _ _ k) (Ev.pos (by omega) (Ev.pos (by omega) (Ev.pos (by omega) ?_)))
    rw [he]
    refine Ev.pos (by omega) (Ev.then (impl_numText _ (by omega) (by omega)) (Ev.pos (by simp only [size_append, ba_size, z1]; omega) (Ev.pos (by simp only [size_append, ba_size, z1]; omega) ?_)))
    refine Ev.then (impl_numText _ (by omega) (by omega)) (Ev.pos (by simp only [size_append, ba_size, z1]; omega) (Ev.pos (by simp only [size_append, ba_size, z1]; omega) ?_))
    refine Ev.then (impl_numText _ (by omega) (by omega)) (Ev.pos (by simp only [size_append, ba_size, z1]; omega) (Ev.pos (by simp only [size_append, ba_size, z1]; omega) ?_))
    refine Ev.then (impl_numText _ (by omega) (by omega)) (Ev.pos (by simp only [size_append, ba_size, z1]; omega) (Ev.pos (by rw [List.length_map, List.length_take]; omega) ?_))
    rw [item_eq, w64 (n := (i : Int) + 1) (by omega) (by omega), cast_succ]
    have hx := ih (i + 1) (by omega)
    rw [List.take_succ_eq_append_getElem (by omega), List.map_append] at hx
    exact hx
theorem impl_confText (l : List Db) (hl : l.length ≤ 1048577) (hg : ∀ x ∈ l, x.f0.size ≤ 9223372036854775807) : Ev (fun k => impl_ConfText.f k l) (confText l) := by
  unfold impl_ConfText.f confText
  refine Ev.bind (impl_confOk l hl hg) ?_
  by_cases hc : confFrom l 0 l.length = true
  · rw [if_pos hc]
    obtain ⟨h3, hall⟩ := confFrom_all l l.length 0 (by omega) hc
    refine Ev.pos hc (Ev.eq (impl_ConfText_l0 l h3 hall l.length 0 (by omega)) ?_)
    cases l with
    | nil => simp [confFrom] at hc
    | cons x xs =>
      rw [join_eq, confAcc, if_pos rfl, show (⟨#[]⟩ : ByteArray) = ba [] from rfl, ba_append, List.nil_append, confAcc_eq _ _ _ (by omega)]
  · exact Ev.neg hc (Ev.done (if_neg hc).symm)
end Go.Proofs.YthkepmicdpgbbaaGreatDoor.Fn

/- Texts cut at a byte, and joined again. No program is in sight here. -/
namespace Go.Proofs.YthkepmicdpgbbaaGreatDoor.Fn
set_option linter.unusedVariables false
set_option linter.unusedSimpArgs false

/-- A text cut at all places of a byte, behind the bytes 'acc'. -/
def splitA (c : UInt8) : List UInt8 → List UInt8 → List (List UInt8)
  | acc, [] => [acc]
  | acc, x :: xs => if x = c then acc :: splitA c [] xs else splitA c (acc ++ [x]) xs
/-- Pieces, each but the first behind the byte. -/
def joinA (c : UInt8) (x : List UInt8) (xs : List (List UInt8)) : List UInt8 := x ++ xs.flatMap (fun y => c :: y)
theorem joinA_cons (c : UInt8) (x y : List UInt8) (ys : List (List UInt8)) : joinA c x (y :: ys) = x ++ c :: joinA c y ys := by simp [joinA]
theorem splitA_free (c : UInt8) (a r : List UInt8) : ∀ acc, c ∉ a → splitA c acc (a ++ r) = splitA c (acc ++ a) r := by
  induction a with
  | nil => intro acc _; simp
  | cons x xs ih =>
    intro acc h
    have hx : ¬ x = c := fun e => h (by rw [e]; exact List.mem_cons_self ..)
    rw [List.cons_append, splitA, if_neg hx, ih _ (fun e => h (List.mem_cons_of_mem _ e))]
    simp
theorem splitA_join (c : UInt8) (xs : List (List UInt8)) : ∀ (acc x : List UInt8), c ∉ x → (∀ y ∈ xs, c ∉ y) → splitA c acc (joinA c x xs) = (acc ++ x) :: xs := by
  induction xs with
  | nil =>
    intro acc x hx _
    have := splitA_free c x [] acc hx
    simp only [List.append_nil] at this
    simp only [joinA, List.flatMap_nil, List.append_nil]
    rw [this, splitA]
  | cons y ys ih =>
    intro acc x hx hy
    rw [joinA_cons, splitA_free c x _ acc hx, splitA, if_pos rfl, ih [] y (hy y (List.mem_cons_self ..)) (fun z hz => hy z (List.mem_cons_of_mem _ hz))]
    rfl
theorem splitA_back (c : UInt8) (s : List UInt8) : ∀ (acc : List UInt8), ∃ x xs, splitA c acc s = x :: xs ∧ acc ++ s = joinA c x xs := by
  induction s with
  | nil => intro acc; exact ⟨acc, [], rfl, by simp [joinA]⟩
  | cons x xs ih =>
    intro acc
    rw [splitA]
    by_cases h : x = c
    · obtain ⟨y, ys, e, hj⟩ := ih []
      rw [if_pos h]
      exact ⟨acc, _, rfl, by rw [e, joinA_cons, ← hj, h]; rfl⟩
    · obtain ⟨y, ys, e, hj⟩ := ih (acc ++ [x])
      rw [if_neg h]
      exact ⟨y, ys, e, by rw [← hj]; simp⟩
theorem index_at (c : UInt8) (r : List UInt8) : ∀ a : List UInt8, c ∉ a → Lib.index (a ++ c :: r) [c] = (a.length : Int) := by
  intro a
  induction a with
  | nil => intro _; simp [Lib.index, List.isPrefixOf]
  | cons x xs ih =>
    intro h
    have hx : ¬ c = x := fun e => h (by rw [e]; exact List.mem_cons_self ..)
    have hp : ([c] : List UInt8).isPrefixOf (x :: (xs ++ c :: r)) = false := by simp [List.isPrefixOf, hx]
    have hi := ih (fun e => h (List.mem_cons_of_mem _ e))
    rw [List.cons_append, Lib.index, hp, hi]
    have : ¬ ((xs.length : Int) == -1) = true := fun e => by have := beq_iff_eq.1 e; omega
    simp only [Bool.false_eq_true, if_false, List.length_cons]
    rw [if_neg this]
    omega
theorem splitK_join (c : UInt8) (xs : List (List UInt8)) : ∀ (x : List UInt8), c ∉ x → (∀ y ∈ xs, c ∉ y) → Lib.splitK [c] 0 xs.length (joinA c x xs) = x :: xs := by
  induction xs with
  | nil => intro x _ _; simp [Lib.splitK, joinA]
  | cons y ys ih =>
    intro x hx hy
    have hi := index_at c (joinA c y ys) x hx
    have hn : ¬ ((x.length : Int) == -1) = true := fun e => by have := beq_iff_eq.1 e; omega
    rw [joinA_cons, List.length_cons, Lib.splitK, hi, if_neg hn, show ((x.length : Int)).toNat = x.length by omega]
    have e1 : (x ++ c :: joinA c y ys).take (x.length + 0) = x := by simp
    have e2 : (x ++ c :: joinA c y ys).drop (x.length + [c].length) = joinA c y ys := by
      rw [List.length_singleton, ← List.drop_drop]
      simp
    rw [e1, e2, ih y (hy y (List.mem_cons_self ..)) (fun z hz => hy z (List.mem_cons_of_mem _ hz))]
theorem count_free (c : UInt8) (x : List UInt8) (h : c ∉ x) : x.count c = 0 := List.count_eq_zero.2 h
theorem count_join (c : UInt8) (xs : List (List UInt8)) : ∀ (x : List UInt8), c ∉ x → (∀ y ∈ xs, c ∉ y) → (joinA c x xs).count c = xs.length := by
  induction xs with
  | nil => intro x hx _; simp [joinA, count_free c x hx]
  | cons y ys ih =>
    intro x hx hy
    rw [joinA_cons, List.count_append, count_free c x hx, List.count_cons_self, ih y (hy y (List.mem_cons_self ..)) (fun z hz => hy z (List.mem_cons_of_mem _ hz)), List.length_cons]
    omega
theorem cut_join (c : UInt8) (a r : List UInt8) (h : c ∉ a) : Lib.cut (a ++ c :: r) [c] = (a, r, true) := by
  unfold Lib.cut
  rw [index_at c r a h, if_pos (by omega)]
  have e2 : (a ++ c :: r).drop (a.length + [c].length) = r := by
    rw [List.length_singleton, ← List.drop_drop]
    simp
  rw [show ((a.length : Int)).toNat = a.length by omega, e2]
  simp
end Go.Proofs.YthkepmicdpgbbaaGreatDoor.Fn

/- What the printed functions that parse numbers come to. No memory is in sight here. -/
namespace Go.Proofs.YthkepmicdpgbbaaGreatDoor.Fn
set_option linter.unusedVariables false
set_option linter.unusedSimpArgs false
open Go.RowKit Go.Proofs.YthkepmicdpgbbaaGreatDoorW.PrintWords Go.Proofs.YthkepmicdpgbbaaGreatDoor.P Go.Proofs.YthkepmicdpgbbaaGreatDoor.Base

/-! ### digits -/
/-- The digits of a text from place i on, behind the number n. -/
def digits (s : ByteArray) : Nat → Int → Nat → Option Int
  | _, n, 0 => some n
  | i, n, d + 1 => if 48 ≤ bt s (i : Int) ∧ bt s (i : Int) ≤ 57 then digits s (i + 1) (10 * n + (bt s (i : Int) - 48)) d else none
def ofDigits (most : Int) : Option Int → Int × Bool
  | none => (0, false)
  | some n => if n > most then (0, false) else (n, true)
def parseNum (s : ByteArray) (most : Int) : Int × Bool :=
  if s.size = 0 ∨ 5 < s.size ∨ (1 < s.size ∧ bt s 0 = 48) ∨ 65535 < most then (0, false) else ofDigits most (digits s 0 0 s.size)
theorem spec_ParseNum_l0 (s : ByteArray) (most : Int) (hs : s.size ≤ 5) (d : Nat) : ∀ (i : Nat) (n : Int), i + d = s.size → 0 ≤ n → n < 10 ^ i → Ev (fun k => spec_ParseNum.l0 k s most n (i : Int)) (ofDigits most (digits s i n d)) := by
  induction d with
  | zero =>
    intro i n hi h0 h1
    refine Ev.step (fun k => spec_ParseNum.l0.eq_2 _ _ _ _ k) (Ev.neg (by omega) ?_)
    simp only [digits, ofDigits]
    by_cases h : n > most
    · exact Ev.pos h (Ev.done (if_pos h).symm)
    · exact Ev.neg h (Ev.done (if_neg h).symm)
  | succ d ih =>
    intro i n hi h0 h1
    refine Ev.step (fun k => spec_ParseNum.l0.eq_2 _ _ _ _ k) (Ev.pos (by omega) (Ev.pos (by omega) (Ev.then (l1In _ _ _) ?_)))
    have hb := bt_byte s (i : Int)
    have hp : (10 : Int) ^ (i + 1) = 10 * 10 ^ i := by rw [Int.pow_succ, Int.mul_comm]
    have hm : (10 : Int) ^ i ≤ 10 ^ 4 := by
      have := Nat.pow_le_pow_right (n := 10) (by decide) (show i ≤ 4 by omega)
      exact_mod_cast this
    rw [w64 (n := bt s (i : Int)) (by omega) (by omega)]
    simp only [digits]
    by_cases h : 48 ≤ bt s (i : Int) ∧ bt s (i : Int) ≤ 57
    · rw [if_pos h]
      refine Ev.pos (by simpa using h) ?_
      rw [Int.emod_eq_of_lt (a := bt s (i : Int) - 48) (by omega) (by omega), w64 (n := 10 * n) (by omega) (by omega), w64 (n := 10 * n + _) (by omega) (by omega), w64 (by omega) (by omega), cast_succ]
      exact ih (i + 1) _ (by omega) (by omega) (by rw [hp]; omega)
    · rw [if_neg h]
      exact Ev.neg (by simpa using h) (Ev.done rfl)
theorem impl_ParseNum_l0 (s : ByteArray) (most : Int) (hs : s.size ≤ 5) (d : Nat) : ∀ (i : Nat) (n : Int), i + d = s.size → 0 ≤ n → n < 10 ^ i → Ev (fun k => impl_ParseNum.l0 k s most n (s.size : Int) (i : Int)) (ofDigits most (digits s i n d)) := by
  induction d with
  | zero =>
    intro i n hi h0 h1
    refine Ev.step (fun k => impl_ParseNum.l0.eq_2 _ _ _ _ _ k) (Ev.neg (by omega) ?_)
    simp only [digits, ofDigits]
    by_cases h : n > most
    · exact Ev.pos h (Ev.done (if_pos h).symm)
    · exact Ev.neg h (Ev.done (if_neg h).symm)
  | succ d ih =>
    intro i n hi h0 h1
    refine Ev.step (fun k => impl_ParseNum.l0.eq_2 _ _ _ _ _ k) (Ev.pos (by omega) (Ev.pos (by omega) (Ev.pos (by omega) ?_)))
    have hb := bt_byte s (i : Int)
    have hp : (10 : Int) ^ (i + 1) = 10 * 10 ^ i := by rw [Int.pow_succ, Int.mul_comm]
    have hm : (10 : Int) ^ i ≤ 10 ^ 4 := by
      have := Nat.pow_le_pow_right (n := 10) (by decide) (show i ≤ 4 by omega)
      exact_mod_cast this
    simp only [digits]
    by_cases h1' : bt s (i : Int) < 48
    · rw [if_neg (by omega)]; exact Ev.pos h1' (Ev.done rfl)
    · refine Ev.neg h1' ?_
      by_cases h2 : bt s (i : Int) > 57
      · rw [if_neg (by omega)]; exact Ev.pos h2 (Ev.done rfl)
      · rw [if_pos (by omega)]
        refine Ev.neg h2 ?_
        rw [Int.emod_eq_of_lt (a := bt s (i : Int) - 48) (by omega) (by omega), w64 (n := 10 * n) (by omega) (by omega), w64 (n := 10 * n + _) (by omega) (by omega), w64 (by omega) (by omega), cast_succ]
        exact ih (i + 1) _ (by omega) (by omega) (by rw [hp]; omega)
theorem spec_parseNum (s : ByteArray) (most : Int) : Ev (fun k => spec_ParseNum.f k s most) (parseNum s most) := by
  unfold spec_ParseNum.f parseNum
  have bad : ∀ b : Bool, b = true → Ev (fun k => spec_ParseNum.j0 k s most b) (0, false) := fun b hb => Ev.step (fun k => spec_ParseNum.j0.eq_2 _ _ _ k) (Ev.pos hb (Ev.done rfl))
  by_cases h0 : s.size = 0
  · rw [if_pos (.inl h0)]; exact Ev.pos (by omega) (bad _ rfl)
  refine Ev.neg (by omega) ?_
  by_cases h1 : 5 < s.size
  · rw [if_pos (.inr (.inl h1))]; exact Ev.pos (by omega) (bad _ rfl)
  refine Ev.neg (by omega) ?_
  have fin : ¬ (1 < s.size ∧ bt s 0 = 48) → Ev (fun k => spec_ParseNum.j0 k s most (decide (most > 65535))) (if s.size = 0 ∨ 5 < s.size ∨ (1 < s.size ∧ bt s 0 = 48) ∨ 65535 < most then (0, false) else ofDigits most (digits s 0 0 s.size)) := by
    intro hn
    by_cases h2 : 65535 < most
    · rw [if_pos (.inr (.inr (.inr h2)))]; exact bad _ (by simpa using h2)
    · rw [if_neg (by omega)]
      exact Ev.step (fun k => spec_ParseNum.j0.eq_2 _ _ _ k) (Ev.neg (by simpa using h2) (spec_ParseNum_l0 s most (by omega) s.size 0 0 (by omega) (by omega) (by decide)))
  by_cases h3 : 1 < s.size
  · refine Ev.pos (by omega) (Ev.pos (by omega) ?_)
    by_cases h4 : bt s 0 = 48
    · rw [if_pos (.inr (.inr (.inl ⟨h3, h4⟩)))]; exact Ev.pos h4 (bad _ rfl)
    · exact Ev.neg h4 (fin (fun h => h4 h.2))
  · exact Ev.neg (by omega) (fin (fun h => h3 h.1))
theorem impl_parseNum (s : ByteArray) (most : Int) : Ev (fun k => impl_ParseNum.f k s most) (parseNum s most) := by
  unfold impl_ParseNum.f parseNum
  have bad : ∀ b : Bool, b = true → Ev (fun k => impl_ParseNum.j0 k s most b) (0, false) := fun b hb => Ev.step (fun k => impl_ParseNum.j0.eq_2 _ _ _ k) (Ev.pos hb (Ev.done rfl))
  by_cases h2 : most > 65535
  · rw [if_pos (.inr (.inr (.inr h2)))]; exact Ev.pos h2 (bad _ rfl)
  refine Ev.neg h2 (Ev.then (isIn _ _ _) ?_)
  by_cases h0 : s.size = 0
  · rw [if_pos (.inl h0)]; exact Ev.neg (by simp; omega) (bad _ rfl)
  by_cases h1 : 5 < s.size
  · rw [if_pos (.inr (.inl h1))]; exact Ev.neg (by simp; omega) (bad _ rfl)
  refine Ev.pos (by simp; omega) ?_
  have fin : ∀ b : Bool, b = false → ¬ (1 < s.size ∧ bt s 0 = 48) → Ev (fun k => impl_ParseNum.j0 k s most b) (if s.size = 0 ∨ 5 < s.size ∨ (1 < s.size ∧ bt s 0 = 48) ∨ 65535 < most then (0, false) else ofDigits most (digits s 0 0 s.size)) := by
    intro b hb hn
    rw [if_neg (by omega)]
    exact Ev.step (fun k => impl_ParseNum.j0.eq_2 _ _ _ k) (Ev.neg (by simpa using hb) (impl_ParseNum_l0 s most (by omega) s.size 0 0 (by omega) (by omega) (by decide)))
  by_cases h3 : 1 < s.size
  · refine Ev.pos (by omega) (Ev.pos (by omega) ?_)
    by_cases h4 : bt s 0 = 48
    · rw [if_pos (.inr (.inr (.inl ⟨h3, h4⟩)))]; exact bad _ (by simpa using h4)
    · exact fin _ (by simpa using h4) (fun h => h4 h.2)
  · exact Ev.neg (by omega) (fin _ rfl (fun h => h3 h.1))

end Go.Proofs.YthkepmicdpgbbaaGreatDoor.Fn

/- Numerals are read as what they were written from, and the other way round. -/
namespace Go.Proofs.YthkepmicdpgbbaaGreatDoor.Fn
set_option linter.unusedVariables false
set_option linter.unusedSimpArgs false
open Go.RowKit Go.Proofs.YthkepmicdpgbbaaGreatDoorW.PrintWords Go.Proofs.YthkepmicdpgbbaaGreatDoor.P Go.Proofs.YthkepmicdpgbbaaGreatDoor.Base

def isDig (c : UInt8) : Prop := 48 ≤ c.toNat ∧ c.toNat ≤ 57
instance (c : UInt8) : Decidable (isDig c) := inferInstanceAs (Decidable (_ ∧ _))
/-- The number that a list of digits is, behind n. -/
def foldDig : Int → List UInt8 → Option Int
  | n, [] => some n
  | n, c :: cs => if isDig c then foldDig (10 * n + ((c.toNat : Int) - 48)) cs else none
theorem foldDig_snoc (xs : List UInt8) (c : UInt8) : ∀ n, foldDig n (xs ++ [c]) = (foldDig n xs).bind fun m => if isDig c then some (10 * m + ((c.toNat : Int) - 48)) else none := by
  induction xs with
  | nil => intro n; simp [foldDig]
  | cons x xs ih =>
    intro n
    simp only [List.cons_append, foldDig]
    by_cases h : isDig x
    · rw [if_pos h, if_pos h, ih]
    · rw [if_neg h, if_neg h]; rfl
theorem bt_ba (L : List UInt8) (i : Nat) (h : i < L.length) : bt (ba L) (i : Int) = (L[i].toNat : Int) := by
  have hs : i < ({ data := L.toArray } : ByteArray).size := h
  have e : bt (ba L) (i : Int) = if h : i < ({ data := L.toArray } : ByteArray).size then ((({ data := L.toArray } : ByteArray)[i]).toNat : Int) else 0 := by
    first
      | rfl
      | simp [bt, ba]
  rw [e, dif_pos hs]
  rfl
theorem digits_fold (L : List UInt8) (d : Nat) : ∀ (i : Nat) (n : Int), i + d = L.length → digits (ba L) i n d = foldDig n (L.drop i) := by
  induction d with
  | zero =>
    intro i n hi
    rw [List.drop_of_length_le (by omega)]
    rfl
  | succ d ih =>
    intro i n hi
    rw [List.drop_eq_getElem_cons (by omega), digits, foldDig, bt_ba L i (by omega)]
    by_cases h : isDig L[i]
    · have h2 : (48 : Int) ≤ (L[i].toNat : Int) ∧ (L[i].toNat : Int) ≤ 57 := by have := h.1; have := h.2; omega
      rw [if_pos h2, if_pos h, ih (i + 1) _ (by omega)]
    · have h2 : ¬ ((48 : Int) ≤ (L[i].toNat : Int) ∧ (L[i].toNat : Int) ≤ 57) := fun e => h ⟨by omega, by omega⟩
      rw [if_neg h2, if_neg h]
theorem dig_toNat (m : Nat) (h : m < 10) : (UInt8.ofNat (48 + m)).toNat = 48 + m := by
  rw [UInt8.toNat_ofNat']
  omega
theorem fold_dec (m : Nat) : foldDig 0 (Lib.decDigits m) = some (m : Int) := by
  induction m using Nat.strongRecOn with
  | ind m ih =>
    rw [Lib.decDigits]
    by_cases h : m < 10
    · rw [dif_pos h, foldDig, if_pos ⟨by rw [dig_toNat m h]; omega, by rw [dig_toNat m h]; omega⟩, dig_toNat m h, foldDig]
      congr 1
      omega
    · have hm : m % 10 < 10 := Nat.mod_lt _ (by decide)
      rw [dif_neg h, foldDig_snoc, ih (m / 10) (by omega), Option.bind_some, if_pos ⟨by rw [dig_toNat _ hm]; omega, by rw [dig_toNat _ hm]; omega⟩, dig_toNat _ hm]
      congr 1
      omega
theorem dec_head (m : Nat) (h : 1 ≤ m) : ∃ c cs, Lib.decDigits m = c :: cs ∧ c.toNat ≠ 48 := by
  induction m using Nat.strongRecOn with
  | ind m ih =>
    rw [Lib.decDigits]
    by_cases h10 : m < 10
    · rw [dif_pos h10]
      exact ⟨_, _, rfl, by rw [dig_toNat m h10]; omega⟩
    · obtain ⟨c, cs, e, hc⟩ := ih (m / 10) (by omega) (by omega)
      rw [dif_neg h10, e]
      exact ⟨c, _, rfl, hc⟩
theorem dec_length_pos (m : Nat) : 1 ≤ (Lib.decDigits m).length := by
  rw [Lib.decDigits]
  split <;> simp
theorem dec_length (d : Nat) : ∀ (m : Nat), (Lib.decDigits m).length ≤ d + 1 ↔ m < 10 ^ (d + 1) := by
  induction d with
  | zero =>
    intro m
    rw [Lib.decDigits]
    by_cases h : m < 10
    · rw [dif_pos h]; simp; omega
    · have := dec_length_pos (m / 10)
      rw [dif_neg h, List.length_append, List.length_singleton]; omega
  | succ d ih =>
    intro m
    rw [Lib.decDigits]
    have hp : 10 ^ (d + 1 + 1) = 10 ^ (d + 1) * 10 := Nat.pow_succ ..
    have h1 : 1 ≤ 10 ^ (d + 1) := Nat.one_le_pow _ _ (by decide)
    by_cases h : m < 10
    · rw [dif_pos h]; simp only [List.length_singleton]; omega
    · rw [dif_neg h, List.length_append, List.length_singleton]
      have := ih (m / 10)
      omega
theorem fold_inv (n : Nat) : ∀ (L : List UInt8), L.length = n → L ≠ [] → (∀ c cs, L = c :: cs → cs = [] ∨ c.toNat ≠ 48) → ∀ z, foldDig 0 L = some z → 0 ≤ z ∧ Lib.decDigits z.toNat = L ∧ ((∀ c cs, L = c :: cs → c.toNat ≠ 48) → 1 ≤ z) := by
  induction n with
  | zero => intro L hl hne; exact absurd (List.eq_nil_of_length_eq_zero hl) hne
  | succ n ih0 =>
  intro L hl hne hh z hz
  obtain ⟨xs, c, rfl⟩ : ∃ xs c, L = xs ++ [c] := ⟨L.dropLast, L.getLast hne, (List.dropLast_concat_getLast hne).symm⟩
  have ih := ih0 xs (by simpa using hl)
  rw [foldDig_snoc] at hz
  by_cases hx : xs = []
  · subst hx
    simp only [foldDig, Option.bind_some] at hz
    by_cases hd : isDig c
    · rw [if_pos hd] at hz
      obtain rfl := Option.some.inj hz
      obtain ⟨h1, h2⟩ := hd
      refine ⟨by omega, ?_, fun hne => by have := hne c [] rfl; omega⟩
      have e : (10 * 0 + ((c.toNat : Int) - 48)).toNat = c.toNat - 48 := by omega
      rw [e, Lib.decDigits, dif_pos (by omega), show 48 + (c.toNat - 48) = c.toNat by omega]
      simp
    · rw [if_neg hd] at hz; cases hz
  · cases hf : foldDig 0 xs with
    | none => rw [hf] at hz; cases hz
    | some v =>
      rw [hf, Option.bind_some] at hz
      by_cases hd : isDig c
      · rw [if_pos hd] at hz
        obtain rfl := Option.some.inj hz
        obtain ⟨x, xs', rfl⟩ := List.exists_cons_of_ne_nil hx
        have hx0 : x.toNat ≠ 48 := (hh x (xs' ++ [c]) rfl).resolve_left (by simp)
        obtain ⟨h0, he, h1⟩ := ih hx (fun c' cs' e => by injection e with e1 e2; subst e1; exact .inr hx0) v hf
        have hv := h1 (fun c' cs' e => by injection e with e1 e2; subst e1; exact hx0)
        obtain ⟨d1, d2⟩ := hd
        refine ⟨by omega, ?_, fun _ => by omega⟩
        have e : (10 * v + ((c.toNat : Int) - 48)).toNat = 10 * v.toNat + (c.toNat - 48) := by omega
        rw [e, Lib.decDigits, dif_neg (by omega), show (10 * v.toNat + (c.toNat - 48)) / 10 = v.toNat by omega, show (10 * v.toNat + (c.toNat - 48)) % 10 = c.toNat - 48 by omega, he, show 48 + (c.toNat - 48) = c.toNat by omega]
        simp
      · rw [if_neg hd] at hz; cases hz
end Go.Proofs.YthkepmicdpgbbaaGreatDoor.Fn

/- Numerals are read as the numbers that they were written from, up to any most, and the other way round. -/
namespace Go.Proofs.YthkepmicdpgbbaaGreatDoor.Fn
set_option linter.unusedVariables false
set_option linter.unusedSimpArgs false
open Go.RowKit Go.Proofs.YthkepmicdpgbbaaGreatDoorW.PrintWords Go.Proofs.YthkepmicdpgbbaaGreatDoor.P Go.Proofs.YthkepmicdpgbbaaGreatDoor.Base

theorem parse_num (n : Nat) (most : Int) (h : (n : Int) ≤ most) (hm : most ≤ 65535) : parseNum (ba (Lib.itoa (n : Int))) most = ((n : Int), true) := by
  unfold parseNum
  have hi : Lib.itoa (n : Int) = Lib.decDigits n := by rw [Lib.itoa, if_neg (by omega), Int.toNat_natCast]
  have hd : digits (ba (Lib.decDigits n)) 0 0 (Lib.decDigits n).length = some (n : Int) := by
    rw [digits_fold _ _ 0 0 (by omega), List.drop_zero, fold_dec]
  have hp : (10 : Nat) ^ (4 + 1) = 100000 := by decide
  have hlen := (dec_length 4 n).2 (by rw [hp]; omega)
  have hpos := dec_length_pos n
  rw [hi, ba_size, hd]
  have hhead : ¬ (1 < (Lib.decDigits n).length ∧ bt (ba (Lib.decDigits n)) 0 = 48) := by
    rintro ⟨h1, h2⟩
    have hn : 1 ≤ n := by
      rcases Nat.eq_zero_or_pos n with h | h
      · subst h; rw [Lib.decDigits, dif_pos (by decide)] at h1; simp at h1
      · exact h
    obtain ⟨c, cs, e, hc⟩ := dec_head n hn
    have hb := bt_ba (Lib.decDigits n) 0 (by omega)
    rw [show ((0 : Nat) : Int) = 0 from rfl] at hb
    rw [hb] at h2
    have : (Lib.decDigits n)[0] = c := by simp [e]
    rw [this] at h2
    omega
  rw [if_neg (by omega), ofDigits, if_neg (by omega)]
theorem parse_back (u : ByteArray) (most : Int) (h : (parseNum u most).2 = true) : 0 ≤ (parseNum u most).1 ∧ (parseNum u most).1 ≤ most ∧ ba (Lib.itoa (parseNum u most).1) = u := by
  unfold parseNum at h ⊢
  split at h
  · simp at h
  · rename_i hc
    rw [if_neg hc]
    have hu := ba_of u
    have hsz : u.size = u.data.toList.length := rfl
    have hdig : digits u 0 0 u.size = foldDig 0 u.data.toList := by
      conv => lhs; rw [hu, ba_size]
      rw [digits_fold _ _ 0 0 (by omega), List.drop_zero]
    rw [hdig] at h ⊢
    cases hf : foldDig 0 u.data.toList with
    | none => rw [hf] at h; simp [ofDigits] at h
    | some z =>
      rw [hf] at h
      simp only [ofDigits] at h ⊢
      by_cases hz : z > most
      · rw [if_pos hz] at h; simp at h
      · rw [if_neg hz]
        have hne : u.data.toList ≠ [] := fun e => hc (.inl (by rw [hsz, e]; rfl))
        obtain ⟨z0, hd, _⟩ := fold_inv _ u.data.toList rfl hne (by
          intro c cs e
          by_cases hcs : cs = []
          · exact .inl hcs
          · refine .inr fun h48 => hc (.inr (.inr (.inl ⟨?_, ?_⟩)))
            · rw [hsz, e]
              have := List.length_pos_iff.2 hcs
              simp only [List.length_cons]; omega
            · have hb := bt_ba u.data.toList 0 (by rw [e]; simp)
              rw [← hu, show ((0 : Nat) : Int) = 0 from rfl] at hb
              rw [hb]
              have : u.data.toList[0]'(by rw [e]; simp) = c := by simp [e]
              rw [this, h48]
              rfl) z hf
        refine ⟨z0, by dsimp only; omega, ?_⟩
        dsimp only
        rw [Lib.itoa, if_neg (by omega), hd]
        exact hu.symm
theorem dec_digs (m : Nat) : ∀ c ∈ Lib.decDigits m, 48 ≤ c.toNat ∧ c.toNat ≤ 57 := by
  induction m using Nat.strongRecOn with
  | ind m ih =>
    intro c hc
    rw [Lib.decDigits] at hc
    by_cases h : m < 10
    · rw [dif_pos h, List.mem_singleton] at hc
      rw [hc, dig_toNat m h]; omega
    · have hm : m % 10 < 10 := Nat.mod_lt _ (by decide)
      rw [dif_neg h, List.mem_append, List.mem_singleton] at hc
      rcases hc with hc | hc
      · exact ih (m / 10) (by omega) c hc
      · rw [hc, dig_toNat _ hm]; omega
theorem num_free (n : Int) (h : 0 ≤ n) (c : UInt8) (hc : c.toNat < 48 ∨ 57 < c.toNat) : c ∉ Lib.itoa n := by
  intro hm
  rw [Lib.itoa, if_neg (by omega)] at hm
  have := dec_digs _ c hm
  omega
theorem itoa_two (n : Int) (h0 : 0 ≤ n) (h1 : n ≤ 99) : (Lib.itoa n).length ≤ 2 ∧ 1 ≤ (Lib.itoa n).length := by
  rw [Lib.itoa, if_neg (by omega)]
  exact ⟨(dec_length 1 n.toNat).2 (by have hp : (10 : Nat) ^ (1 + 1) = 100 := by decide
                                      rw [hp]; omega), dec_length_pos _⟩
end Go.Proofs.YthkepmicdpgbbaaGreatDoor.Fn

/- What the printed functions that read a configuration come to. -/
namespace Go.Proofs.YthkepmicdpgbbaaGreatDoor.Fn
set_option linter.unusedVariables false
set_option linter.unusedSimpArgs false
open Go.RowKit Go.Proofs.YthkepmicdpgbbaaGreatDoorW.PrintWords Go.Proofs.YthkepmicdpgbbaaGreatDoor.P Go.Proofs.YthkepmicdpgbbaaGreatDoor.Base

/-! ### what a configuration's text is made of -/
theorem name_bytes {s : ByteArray} (h : nameOk s = true) : ∀ c ∈ s.data.toList, 97 ≤ c.toNat ∧ c.toNat ≤ 122 := by
  intro c hc
  obtain ⟨i, hi, rfl⟩ := List.getElem_of_mem hc
  have hb := bt_ba s.data.toList i hi
  rw [← ba_of s] at hb
  have := ((nameOk_iff s).1 h).2 i hi
  omega
def restL (x : Db) : List UInt8 := joinA 47 (Lib.itoa x.f1) [Lib.itoa x.f2, Lib.itoa x.f3, Lib.itoa x.f4]
theorem item_rest (x : Db) : itemL x = x.f0.data.toList ++ 58 :: restL x := by simp [itemL, restL, joinA]
theorem item_join (x : Db) : itemL x = joinA 58 x.f0.data.toList [restL x] := by rw [item_rest]; simp [joinA]
def Pos4 (x : Db) : Prop := 0 ≤ x.f1 ∧ 0 ≤ x.f2 ∧ 0 ≤ x.f3 ∧ 0 ≤ x.f4
theorem dbOk_pos {x : Db} (h : dbOk x = true) : Pos4 x := by
  obtain ⟨_, h1, h2, h3, h4⟩ := dbOk_of h
  exact ⟨by omega, by omega, by omega, by omega⟩
theorem rest_free {x : Db} (h : Pos4 x) (c : UInt8) (hc : 57 < c.toNat) : c ∉ restL x := by
  obtain ⟨h1, h2, h3, h4⟩ := h
  intro hm
  have n1 := num_free _ h1 c (.inr hc)
  have n2 := num_free _ h2 c (.inr hc)
  have n3 := num_free _ h3 c (.inr hc)
  have n4 := num_free _ h4 c (.inr hc)
  have ne : ¬ c = 47 := fun e => by rw [e] at hc; revert hc; decide
  simp only [restL, joinA, List.flatMap_cons, List.flatMap_nil, List.mem_append, List.mem_cons, List.append_nil, List.cons_append] at hm
  simp only [n1, n2, n3, n4, ne, false_or, or_false] at hm
theorem rest_split {x : Db} (h : Pos4 x) : splitA 47 [] (restL x) = [Lib.itoa x.f1, Lib.itoa x.f2, Lib.itoa x.f3, Lib.itoa x.f4] := by
  obtain ⟨h1, h2, h3, h4⟩ := h
  rw [restL, splitA_join 47 _ _ _ (num_free _ h1 47 (.inl (by decide))) (by
    intro y hy
    simp only [List.mem_cons, List.not_mem_nil, or_false] at hy
    rcases hy with rfl | rfl | rfl
    · exact num_free _ h2 47 (.inl (by decide))
    · exact num_free _ h3 47 (.inl (by decide))
    · exact num_free _ h4 47 (.inl (by decide)))]
  rfl
theorem name_free {x : Db} (h : dbOk x = true) (c : UInt8) (hc : c.toNat < 97) : c ∉ x.f0.data.toList := by
  intro hm
  unfold dbOk at h
  simp only [Bool.and_eq_true] at h
  have := name_bytes h.1 c hm
  omega
theorem item_split {x : Db} (h : dbOk x = true) : splitA 58 [] (itemL x) = [x.f0.data.toList, restL x] := by
  rw [item_join, splitA_join 58 _ _ _ (name_free h 58 (by decide)) (by
    intro y hy
    simp only [List.mem_cons, List.not_mem_nil, or_false] at hy
    subst hy
    exact rest_free (dbOk_pos h) 58 (by decide))]
  rfl
theorem item_free {x : Db} (h : dbOk x = true) : (59 : UInt8) ∉ itemL x := by
  have n1 := name_free h 59 (by decide)
  have n2 := rest_free (dbOk_pos h) 59 (by decide)
  rw [item_rest]
  intro hm
  simp only [List.mem_append, List.mem_cons, n1, n2, false_or, or_false] at hm
  revert hm
  decide
theorem itemL_short {x : Db} (h : dbOk x = true) : (itemL x).length ≤ 20 ∧ 1 ≤ (itemL x).length := by
  obtain ⟨hn, h1, h2, h3, h4⟩ := dbOk_of h
  have e1 := itoa_two x.f1 (by omega) (by omega)
  have e2 := itoa_two x.f2 (by omega) (by omega)
  have e3 := itoa_two x.f3 (by omega) (by omega)
  have e4 := itoa_two x.f4 (by omega) (by omega)
  have e0 : x.f0.data.toList.length = x.f0.size := rfl
  simp only [itemL, List.length_append, List.length_singleton, e0]
  omega
theorem conf_cons {l : List Db} (h : confFrom l 0 l.length = true) : ∃ x xs, l = x :: xs ∧ xs.length ≤ 2 ∧ ∀ y ∈ l, dbOk y = true := by
  obtain ⟨h3, hall⟩ := confFrom_all l l.length 0 (by omega) h
  have hm : ∀ y ∈ l, dbOk y = true := by
    intro y hy
    obtain ⟨j, hj, rfl⟩ := List.getElem_of_mem hy
    exact hall j hj (by omega)
  cases l with
  | nil => simp [confFrom] at h
  | cons x xs => exact ⟨x, xs, rfl, by simp only [List.length_cons] at h3; omega, hm⟩
theorem confText_join (x : Db) (xs : List Db) (h : confFrom (x :: xs) 0 (x :: xs).length = true) : confText (x :: xs) = ba (joinA 59 (itemL x) (xs.map itemL)) := by
  unfold confText
  rw [if_pos h, confAcc, if_pos rfl, show (⟨#[]⟩ : ByteArray) = ba [] from rfl, ba_append, List.nil_append, confAcc_eq _ _ _ (by omega), joinA, List.flatMap_map]
theorem conf_split {l : List Db} (h : confFrom l 0 l.length = true) : splitA 59 [] (confText l).data.toList = l.map itemL := by
  obtain ⟨x, xs, rfl, _, hall⟩ := conf_cons h
  rw [confText_join x xs h, show (ba (joinA 59 (itemL x) (xs.map itemL))).data.toList = joinA 59 (itemL x) (xs.map itemL) by simp [ba], splitA_join 59 _ _ _ (item_free (hall x (List.mem_cons_self ..))) (by
    intro y hy
    obtain ⟨z, hz, rfl⟩ := List.mem_map.1 hy
    exact item_free (hall z (List.mem_cons_of_mem _ hz)))]
  rfl
theorem confText_size {l : List Db} (h : confFrom l 0 l.length = true) : 1 ≤ (confText l).size ∧ (confText l).size ≤ 100 := by
  obtain ⟨x, xs, rfl, h2, hall⟩ := conf_cons h
  rw [confText_join x xs h, ba_size, joinA, List.length_append]
  have hx := itemL_short (hall x (List.mem_cons_self ..))
  have b : ∀ ys : List Db, (∀ y ∈ ys, dbOk y = true) → ((ys.map itemL).flatMap (fun y => (59 : UInt8) :: y)).length ≤ 21 * ys.length := by
    intro ys
    induction ys with
    | nil => intro _; simp
    | cons y ys ih =>
      intro hy
      have := ih (fun z hz => hy z (List.mem_cons_of_mem _ hz))
      have h1 := itemL_short (hy y (List.mem_cons_self ..))
      simp only [List.map_cons, List.flatMap_cons, List.length_append, List.length_cons]
      omega
  have := b xs (fun y hy => hall y (List.mem_cons_of_mem _ hy))
  omega
/-! ### a configuration out of its pieces -/
noncomputable def parsed (q : List UInt8) : Option Int := if (parseNum (ba q) 99).2 = true then some (parseNum (ba q) 99).1 else none
theorem parsed_num {n : Int} (h0 : 0 ≤ n) (h1 : n ≤ 99) : parsed (Lib.itoa n) = some n := by
  obtain ⟨m, rfl⟩ := Int.eq_ofNat_of_zero_le h0
  rw [parsed, parse_num m 99 h1 (by omega), if_pos rfl]
theorem parsed_back {q : List UInt8} {n : Int} (h : parsed q = some n) : Lib.itoa n = q := by
  unfold parsed at h
  split at h
  · rename_i hp
    have e := (parse_back _ _ hp).2.2
    obtain rfl := Option.some.inj h
    have := congrArg (fun b : ByteArray => b.data.toList) e
    simpa [ba] using this
  · cases h
noncomputable def numsOf (a : List UInt8) : List (List UInt8) → Option Db
  | [q0, q1, q2, q3] => (parsed q0).bind fun n0 => (parsed q1).bind fun n1 => (parsed q2).bind fun n2 => (parsed q3).bind fun n3 => some ⟨ba a, n0, n1, n2, n3⟩
  | _ => none
noncomputable def partsOf : List (List UInt8) → Option Db
  | [a, b] => numsOf a (splitA 47 [] b)
  | _ => none
noncomputable def itemOf (p : List UInt8) : Option Db := partsOf (splitA 58 [] p)
noncomputable def itemsOf : List (List UInt8) → Option (List Db)
  | [] => some []
  | p :: ps => (itemOf p).bind fun x => (itemsOf ps).bind fun xs => some (x :: xs)
theorem itemOf_item {x : Db} (h : dbOk x = true) : itemOf (itemL x) = some x := by
  obtain ⟨hn, h1, h2, h3, h4⟩ := dbOk_of h
  rw [itemOf, item_split h, partsOf, rest_split (dbOk_pos h), numsOf, parsed_num (by omega) (by omega), parsed_num (by omega) (by omega), parsed_num (by omega) (by omega), parsed_num (by omega) (by omega)]
  simp only [Option.bind_some]
  rw [← ba_of]
theorem itemOf_back {p : List UInt8} {x : Db} (h : itemOf p = some x) : itemL x = p := by
  unfold itemOf at h
  obtain ⟨a, us, e, hj⟩ := splitA_back 58 p []
  rw [e] at h
  rcases us with _ | ⟨b, _ | ⟨c, cs⟩⟩
  · cases h
  · obtain ⟨q0, qs, e2, hj2⟩ := splitA_back 47 b []
    rw [partsOf, e2] at h
    rcases qs with _ | ⟨q1, _ | ⟨q2, _ | ⟨q3, _ | ⟨q4, qs⟩⟩⟩⟩
    · cases h
    · cases h
    · cases h
    · rw [numsOf] at h
      simp only [Option.bind_eq_some_iff] at h
      obtain ⟨n0, p0, n1, p1, n2, p2, n3, p3, hx⟩ := h
      obtain rfl := Option.some.inj hx
      rw [item_join, restL]
      simp only
      rw [parsed_back p0, parsed_back p1, parsed_back p2, parsed_back p3, ← hj2, List.nil_append]
      rw [List.nil_append] at hj
      rw [hj]
      simp [ba]
    · cases h
  · cases h
theorem itemsOf_items : ∀ (l : List Db), (∀ x ∈ l, dbOk x = true) → itemsOf (l.map itemL) = some l
  | [], _ => rfl
  | x :: xs, h => by
    rw [List.map_cons, itemsOf, itemOf_item (h x (List.mem_cons_self ..)), itemsOf_items xs (fun y hy => h y (List.mem_cons_of_mem _ hy))]
    rfl
theorem itemsOf_back : ∀ (ps : List (List UInt8)) (l : List Db), itemsOf ps = some l → l.map itemL = ps
  | [], l, h => by obtain rfl := Option.some.inj h; rfl
  | p :: ps, l, h => by
    rw [itemsOf] at h
    simp only [Option.bind_eq_some_iff] at h
    obtain ⟨x, hx, xs, hxs, he⟩ := h
    obtain rfl := Option.some.inj he
    rw [List.map_cons, itemOf_back hx, itemsOf_back ps xs hxs]
noncomputable def confFin : Option (List Db) → List Db × Bool
  | some l => if confFrom l 0 l.length = true then (l, true) else ([], false)
  | none => ([], false)
noncomputable def parseConf (s : ByteArray) : List Db × Bool := confFin (itemsOf (splitA 59 [] s.data.toList))
theorem parseConf_text {l : List Db} (h : confFrom l 0 l.length = true) : parseConf (confText l) = (l, true) := by
  obtain ⟨x, xs, rfl, _, hall⟩ := conf_cons h
  rw [parseConf, conf_split h, itemsOf_items _ hall, confFin, if_pos h]
theorem parseConf_back (s : ByteArray) : parseConf s = ([], false) ∨ ∃ l, parseConf s = (l, true) ∧ confFrom l 0 l.length = true ∧ confText l = s := by
  unfold parseConf
  cases h : itemsOf (splitA 59 [] s.data.toList) with
  | none => exact .inl rfl
  | some l =>
    by_cases hc : confFrom l 0 l.length = true
    · refine .inr ⟨l, by rw [confFin, if_pos hc], hc, ?_⟩
      have e := itemsOf_back _ _ h
      obtain ⟨x, xs, rfl, _, hall⟩ := conf_cons hc
      obtain ⟨y, ys, e2, hj⟩ := splitA_back 59 s.data.toList []
      rw [e2, List.map_cons] at e
      injection e with e3 e4
      rw [confText_join x xs hc, e3, e4, ← hj, List.nil_append]
      exact (ba_of s).symm
    · exact .inl (by rw [confFin, if_neg hc])
theorem parseConf_long {s : ByteArray} (h : 100 < s.size) : parseConf s = ([], false) := by
  rcases parseConf_back s with h' | ⟨l, _, hc, rfl⟩
  · exact h'
  · have := confText_size hc; omega
/-! ### the reference -/
theorem extract_ba (s : ByteArray) (a b : Nat) : s.extract a b = ba ((s.data.toList.drop a).take (b - a)) := by
  rw [← Lib.extract_data]
  exact ba_of _
theorem spec_l3Split_l0 (s : ByteArray) (hs : s.size ≤ 1048576) (c : UInt8) (d : Nat) : ∀ (i fr : Nat) (out : List ByteArray), i + d = s.size → fr ≤ i → out.length ≤ i →
    Ev (fun k => spec_l3Split.l0 k s (c.toNat : Int) out (fr : Int) (i : Int)) (out ++ (splitA c ((s.data.toList.drop fr).take (i - fr)) (s.data.toList.drop i)).map ba) := by
  have hL : s.data.toList.length = s.size := rfl
  induction d with
  | zero =>
    intro i fr out hi hf ho
    refine Ev.step (fun k => spec_l3Split.l0.eq_2 _ _ _ _ _ k) (Ev.pos (by omega) (Ev.pos (by omega) (Ev.pos (by omega) (Ev.pos (by omega) (Ev.pos (by omega) ?_)))))
    rw [w64 (n := (i : Int) + 1) (by omega) (by omega), cast_succ]
    refine Ev.step (fun k => spec_l3Split.l0.eq_2 _ _ _ _ _ k) (Ev.neg (by omega) (Ev.done ?_))
    rw [List.drop_of_length_le (l := s.data.toList) (i := i) (by omega), splitA, Int.toNat_natCast, Int.toNat_natCast, extract_ba]
    rfl
  | succ d ih =>
    intro i fr out hi hf ho
    have hlt : i < s.data.toList.length := by omega
    have hb := bt_ba s.data.toList i hlt
    rw [← ba_of s] at hb
    refine Ev.step (fun k => spec_l3Split.l0.eq_2 _ _ _ _ _ k) (Ev.pos (by omega) (Ev.neg (by omega) (Ev.pos (by omega) (Ev.pos (by omega) ?_))))
    rw [w64 (n := (i : Int) + 1) (by omega) (by omega), cast_succ, List.drop_eq_getElem_cons hlt, splitA]
    by_cases h : s.data.toList[i] = c
    · refine Ev.pos (by rw [hb, h]) (Ev.pos (by omega) (Ev.pos (by omega) (Ev.pos (by omega) ?_)))
      rw [Int.toNat_natCast, Int.toNat_natCast, extract_ba, if_pos h]
      refine Ev.eq (ih (i + 1) (i + 1) _ (by omega) (by omega) (by simp; omega)) ?_
      rw [Nat.sub_self, List.take_zero, List.map_cons, List.append_assoc]
      rfl
    · have hne : ¬ bt s (i : Int) = (c.toNat : Int) := by
        rw [hb]
        intro e
        exact h (UInt8.toNat_inj.1 (by omega))
      refine Ev.neg hne ?_
      rw [if_neg h]
      refine Ev.eq (ih (i + 1) fr _ (by omega) (by omega) (by omega)) ?_
      rw [show i + 1 - fr = (i - fr) + 1 by omega, List.take_succ_eq_append_getElem (by rw [List.length_drop]; omega), List.getElem_drop]
      have e : s.data.toList[fr + (i - fr)]'(by omega) = s.data.toList[i] := by congr 1; omega
      rw [e]
theorem spec_l3Split (s : ByteArray) (hs : s.size ≤ 1048576) (c : UInt8) : Ev (fun k => spec_l3Split.f k s (c.toNat : Int)) ((splitA c [] s.data.toList).map ba) := spec_l3Split_l0 s hs c s.size 0 0 [] (by omega) (by omega) (by simp)
theorem ba_data (l : List UInt8) : (ba l).data.toList = l := by simp [ba]
theorem spec_PC_step (P : List ByteArray) (out : List Db) (I : Int) (p q : List ByteArray) (nums : List Int) (j : Nat) (hj : j < 4) (hq : q.length = 4) (hn : nums.length = 4) (r : List Db × Bool)
    (h : ∀ n, parseNum (q[j]'(by omega)) 99 = (n, true) → Ev (fun k => spec_ParseConf.l1 k P out I p q (nums.set j n) ((j + 1 : Nat) : Int)) r) (hb : (parseNum (q[j]'(by omega)) 99).2 = false → r = ([], false)) :
    Ev (fun k => spec_ParseConf.l1 k P out I p q nums (j : Int)) r := by
  have he : rdOf ByteArray.empty q (j : Int) = q[j]'(by omega) := getD_nat q _ (by omega)
  refine Ev.step (fun k => spec_ParseConf.l1.eq_2 _ _ _ _ _ _ _ k) (Ev.pos (by omega) (Ev.pos (by omega) (Ev.pos (by omega) ?_)))
  rw [he]
  refine Ev.bind (spec_parseNum _ _) ?_
  cases hv : parseNum (q[j]'(by omega)) 99 with
  | mk n b =>
    cases b
    · exact Ev.neg (by simp) (Ev.done (hb (by rw [hv])).symm)
    · refine Ev.pos rfl (Ev.pos (by omega) ?_)
      rw [w64 (n := (j : Int) + 1) (by omega) (by omega), cast_succ, Int.toNat_natCast]
      exact h n hv
theorem spec_PC_end (P : List ByteArray) (out : List Db) (i : Nat) (hi : i ≤ 1048576) (a b : ByteArray) (q : List ByteArray) (n0 n1 n2 n3 : Int) (ho : out.length ≤ 1048577) (r : List Db × Bool)
    (h : Ev (fun k => spec_ParseConf.l0 k P (out ++ [⟨a, n0, n1, n2, n3⟩]) ((i + 1 : Nat) : Int)) r) : Ev (fun k => spec_ParseConf.l1 k P out (i : Int) [a, b] q [n0, n1, n2, n3] ((4 : Nat) : Int)) r := by
  refine Ev.step (fun k => spec_ParseConf.l1.eq_2 _ _ _ _ _ _ _ k) (Ev.neg (by omega) (Ev.pos (by simp) (Ev.pos (by simp) (Ev.pos (by simp) (Ev.pos (by simp) (Ev.pos (by simp) (Ev.pos (by omega) ?_)))))))
  rw [w64 (n := (i : Int) + 1) (by omega) (by omega), cast_succ]
  exact h
theorem spec_PC_nums (P : List ByteArray) (out : List Db) (i : Nat) (hi : i ≤ 1048576) (a : List UInt8) (b : ByteArray) (Q : List (List UInt8)) (hQ : Q.length = 4) (ho : out.length ≤ 1048577) (r : List Db × Bool)
    (h : ∀ x, numsOf a Q = some x → Ev (fun k => spec_ParseConf.l0 k P (out ++ [x]) ((i + 1 : Nat) : Int)) r) (hb : numsOf a Q = none → r = ([], false)) :
    Ev (fun k => spec_ParseConf.l1 k P out (i : Int) [ba a, b] (Q.map ba) [0, 0, 0, 0] ((0 : Nat) : Int)) r := by
  rcases Q with _ | ⟨q0, _ | ⟨q1, _ | ⟨q2, _ | ⟨q3, _ | ⟨q4, qs⟩⟩⟩⟩⟩
  · simp at hQ
  · simp at hQ
  · simp at hQ
  · simp at hQ
  · have no : ∀ q : List UInt8, (parseNum (ba q) 99).2 = false → parsed q = none := fun q hq => by rw [parsed, if_neg (by rw [hq]; decide)]
    have yes : ∀ (q : List UInt8) (n : Int), parseNum (ba q) 99 = (n, true) → parsed q = some n := fun q n hq => by rw [parsed, hq, if_pos rfl]
    refine spec_PC_step P out i _ _ _ 0 (by omega) rfl rfl r (fun n0 p0 => ?_) (fun p0 => hb ?_)
    · refine spec_PC_step P out i _ _ _ 1 (by omega) rfl rfl r (fun n1 p1 => ?_) (fun p1 => hb ?_)
      · refine spec_PC_step P out i _ _ _ 2 (by omega) rfl rfl r (fun n2 p2 => ?_) (fun p2 => hb ?_)
        · refine spec_PC_step P out i _ _ _ 3 (by omega) rfl rfl r (fun n3 p3 => ?_) (fun p3 => hb ?_)
          · refine spec_PC_end P out i hi _ _ _ n0 n1 n2 n3 ho r (h _ ?_)
            rw [numsOf, yes _ _ p0, yes _ _ p1, yes _ _ p2, yes _ _ p3]
            rfl
          · rw [numsOf, yes _ _ p0, yes _ _ p1, yes _ _ p2, no _ p3]; rfl
        · rw [numsOf, yes _ _ p0, yes _ _ p1, no _ p2]; rfl
      · rw [numsOf, yes _ _ p0, no _ p1]; rfl
    · rw [numsOf, no _ p0]; rfl
  · simp at hQ
theorem spec_PC_item (P : List ByteArray) (out : List Db) (i : Nat) (hi : i < P.length) (hP : P.length ≤ 1048577) (piece : List UInt8) (hp : P[i] = ba piece) (hl : piece.length ≤ 1048576) (ho : out.length ≤ 1048577) (r : List Db × Bool)
    (h : ∀ x, itemOf piece = some x → Ev (fun k => spec_ParseConf.l0 k P (out ++ [x]) ((i + 1 : Nat) : Int)) r) (hb : itemOf piece = none → r = ([], false)) :
    Ev (fun k => spec_ParseConf.l0 k P out (i : Int)) r := by
  have he : rdOf ByteArray.empty P (i : Int) = ba piece := (getD_nat P _ hi).trans hp
  refine Ev.step (fun k => spec_ParseConf.l0.eq_2 _ _ _ k) (Ev.pos (by omega) (Ev.pos (by omega) ?_))
  rw [he]
  have e1 : Ev (fun k => spec_l3Split.f k (ba piece) 58) ((splitA 58 [] piece).map ba) := by
    have := spec_l3Split (ba piece) (by rw [ba_size]; exact hl) 58
    rw [ba_data] at this
    exact this
  refine Ev.bind e1 ?_
  obtain ⟨a, us, e, hj⟩ := splitA_back 58 piece []
  unfold itemOf at h hb
  rw [e] at h hb ⊢
  rcases us with _ | ⟨b, _ | ⟨c, cs⟩⟩
  · exact Ev.neg (by simp) (Ev.done (hb rfl).symm)
  · refine Ev.pos (by simp) (Ev.pos (by simp) ?_)
    have hlb : b.length ≤ 1048576 := by
      have := congrArg List.length hj
      simp [joinA] at this
      omega
    have e2 : Ev (fun k => spec_l3Split.f k (rdOf ByteArray.empty ([a, b].map ba) 1) 47) ((splitA 47 [] b).map ba) := by
      have := spec_l3Split (ba b) (by rw [ba_size]; exact hlb) 47
      rw [ba_data] at this
      exact this
    refine Ev.bind e2 ?_
    by_cases h4 : (splitA 47 [] b).length = 4
    · refine Ev.pos (by rw [List.length_map, h4]; rfl) ?_
      exact spec_PC_nums P out i (by omega) a (ba b) _ h4 ho r (fun x hx => h x hx) (fun hx => hb hx)
    · refine Ev.neg (by rw [List.length_map]; omega) (Ev.done (hb ?_).symm)
      rw [partsOf]
      match hq : splitA 47 [] b with
      | [] => rfl
      | [_] => rfl
      | [_, _] => rfl
      | [_, _, _] => rfl
      | [_, _, _, _] => rw [hq] at h4; simp at h4
      | _ :: _ :: _ :: _ :: _ :: _ => rfl
  · refine Ev.neg (by simp; omega) (Ev.done (hb rfl).symm)
theorem spec_PC_l0 (ps : List (List UInt8)) (hps : ps.length ≤ 1048577) (hsz : ∀ p ∈ ps, p.length ≤ 1048576) (d : Nat) : ∀ (i : Nat) (out : List Db), i + d = ps.length → out.length = i → (∀ x ∈ out, x.f0.size ≤ 9223372036854775807) →
    Ev (fun k => spec_ParseConf.l0 k (ps.map ba) out (i : Int)) (confFin ((itemsOf (ps.drop i)).map (out ++ ·))) := by
  induction d with
  | zero =>
    intro i out hi ho hg
    rw [List.drop_of_length_le (by omega), itemsOf]
    refine Ev.step (fun k => spec_ParseConf.l0.eq_2 _ _ _ k) (Ev.neg (by rw [List.length_map]; omega) (Ev.bind (spec_confOk out (by omega) hg) ?_))
    simp only [Option.map_some, confFin, List.append_nil]
    by_cases hc : confFrom out 0 out.length = true
    · exact Ev.pos hc (Ev.done (if_pos hc).symm)
    · exact Ev.neg hc (Ev.done (if_neg hc).symm)
  | succ d ih =>
    intro i out hi ho hg
    have hlt : i < ps.length := by omega
    rw [List.drop_eq_getElem_cons hlt, itemsOf]
    refine spec_PC_item (ps.map ba) out i (by simpa using hlt) (by simpa using hps) ps[i] (by simp) (hsz _ (List.getElem_mem _)) (by omega) _ (fun x hx => ?_) (fun hx => ?_)
    · have hxs : x.f0.size ≤ 9223372036854775807 := by
        have e := congrArg List.length (itemOf_back hx)
        have := hsz _ (List.getElem_mem hlt)
        rw [item_rest, List.length_append] at e
        have e0 : x.f0.data.toList.length = x.f0.size := rfl
        omega
      refine Ev.eq (ih (i + 1) (out ++ [x]) (by omega) (by simp [ho]) (fun y hy => ?_)) ?_
      · rcases List.mem_append.1 hy with hy | hy
        · exact hg y hy
        · rw [List.mem_singleton] at hy; rw [hy]; exact hxs
      · rw [hx]
        cases itemsOf (ps.drop (i + 1)) with
        | none => rfl
        | some xs => simp
    · rw [hx]; rfl
theorem pieces_length (c : UInt8) (s : List UInt8) : ∀ acc, (splitA c acc s).length ≤ s.length + 1 ∧ ∀ p ∈ splitA c acc s, p.length ≤ acc.length + s.length := by
  induction s with
  | nil => intro acc; simp [splitA]
  | cons x xs ih =>
    intro acc
    rw [splitA]
    split
    · obtain ⟨h1, h2⟩ := ih []
      refine ⟨by simp only [List.length_cons]; omega, fun p hp => ?_⟩
      rcases List.mem_cons.1 hp with rfl | hp
      · simp
      · have := h2 p hp
        simp only [List.length_cons, List.length_nil] at this ⊢
        omega
    · obtain ⟨h1, h2⟩ := ih (acc ++ [x])
      refine ⟨by simp only [List.length_cons]; omega, fun p hp => ?_⟩
      have := h2 p hp
      simp only [List.length_append, List.length_cons, List.length_nil] at this ⊢
      omega
theorem spec_parseConf (s : ByteArray) (hs : s.size ≤ 1048576) : Ev (fun k => spec_ParseConf.f k s) (parseConf s) := by
  unfold spec_ParseConf.f
  by_cases h : (s.size : Int) > 100
  · exact Ev.pos h (Ev.done (parseConf_long (by omega)).symm)
  · refine Ev.neg h ?_
    have e1 : Ev (fun k => spec_l3Split.f k s 59) ((splitA 59 [] s.data.toList).map ba) := spec_l3Split s hs 59
    have hL : s.data.toList.length = s.size := rfl
    obtain ⟨h1, h2⟩ := pieces_length 59 s.data.toList []
    refine Ev.bind e1 (Ev.eq (spec_PC_l0 _ (by omega) (fun p hp => by have := h2 p hp; simp only [List.length_nil] at this; omega) (splitA 59 [] s.data.toList).length 0 [] (by omega) rfl (fun x hx => by cases hx)) ?_)
    rw [parseConf, List.drop_zero]
    cases itemsOf (splitA 59 [] s.data.toList) <;> rfl
end Go.Proofs.YthkepmicdpgbbaaGreatDoor.Fn

/- What the program's printed function that reads a configuration comes to: the reference's answer. -/
namespace Go.Proofs.YthkepmicdpgbbaaGreatDoor.Fn
set_option linter.unusedVariables false
set_option linter.unusedSimpArgs false
open Go.RowKit Go.Proofs.YthkepmicdpgbbaaGreatDoorW.PrintWords Go.Proofs.YthkepmicdpgbbaaGreatDoor.P Go.Proofs.YthkepmicdpgbbaaGreatDoor.Base

noncomputable def numAt (ws : List ByteArray) (j : Nat) : Int := if h : j < ws.length then (parseNum ws[j] 20).1 else 0
def wsOf (rest : ByteArray) : List ByteArray := Lib.splitB (⟨#[47]⟩ : ByteArray) 0 (min (4 : Int).toNat (rest.size + 1) - 1) rest
def upd (f : Nat → Int) (i : Nat) (v : Int) (j : Nat) : Int := if j = i then v else f j
noncomputable def implItem (p : ByteArray) : Db :=
  ⟨ba (Lib.cut p.data.toList [58]).1, numAt (wsOf (ba (Lib.cut p.data.toList [58]).2.1)) 0, numAt (wsOf (ba (Lib.cut p.data.toList [58]).2.1)) 1, numAt (wsOf (ba (Lib.cut p.data.toList [58]).2.1)) 2, numAt (wsOf (ba (Lib.cut p.data.toList [58]).2.1)) 3⟩
theorem splitB_sizes (sep : ByteArray) (save : Nat) : ∀ (k : Nat) (s : ByteArray), ∀ p ∈ Lib.splitB sep save k s, p.size ≤ s.size
  | 0, s, p, hp => by
    rw [Lib.splitB_zero, List.mem_singleton] at hp
    rw [hp]; exact Nat.le_refl _
  | k + 1, s, p, hp => by
    unfold Lib.splitB at hp
    split at hp
    · rw [List.mem_singleton] at hp
      rw [hp]; exact Nat.le_refl _
    · rcases List.mem_cons.1 hp with rfl | hp
      · rw [ByteArray.size_extract]; omega
      · have := splitB_sizes sep save k _ p hp
        rw [ByteArray.size_extract] at this
        omega
theorem impl_PC_l1 (s : ByteArray) (out : List Db) (a : ByteArray) (P : List ByteArray) (i : Nat) (hi : i ≤ 1048577) (ho : out.length ≤ 1048577) (ws : List ByteArray) (h4 : ws.length ≤ 4) (r : List Db × Bool) (d : Nat) : ∀ (j : Nat) (f : Nat → Int), j + d = ws.length →
    (∀ g : Nat → Int, (∀ m, g m = if j ≤ m ∧ m < ws.length then numAt ws m else f m) → Ev (fun k => impl_ParseConf.l0 k s (out ++ [⟨a, g 0, g 1, g 2, g 3⟩]) P (P.length : Int) ((i + 1 : Nat) : Int)) r) →
    Ev (fun k => impl_ParseConf.l1 k s out a P (P.length : Int) (i : Int) ws (ws.length : Int) (j : Int) (f 0) (f 1) (f 2) (f 3)) r := by
  induction d with
  | zero =>
    intro j f hj h
    refine Ev.step (fun k => impl_ParseConf.l1.eq_2 _ _ _ _ _ _ _ _ _ _ _ _ _ k) (Ev.neg (by omega) (Ev.pos (by omega) ?_))
    rw [w64 (n := (i : Int) + 1) (by omega) (by omega), cast_succ]
    exact h f (fun m => by rw [if_neg (by omega)])
  | succ d ih =>
    intro j f hj h
    have he : rdOf ByteArray.empty ws (j : Int) = ws[j]'(by omega) := getD_nat ws _ (by omega)
    have hv : numAt ws j = (parseNum (ws[j]'(by omega)) 20).1 := dif_pos (by omega)
    have key := ih (j + 1) (upd f j (numAt ws j)) (by omega) (fun g hg => h g (fun m => by
      rw [hg m]
      unfold upd
      by_cases e : m = j
      · subst e
        rw [if_neg (by omega), if_pos rfl, if_pos (by omega)]
      · rw [if_neg e]
        by_cases c : j + 1 ≤ m ∧ m < ws.length
        · rw [if_pos c, if_pos (by omega)]
        · rw [if_neg c, if_neg (by omega)]))
    rw [← cast_succ] at key
    refine Ev.step (fun k => impl_ParseConf.l1.eq_2 _ _ _ _ _ _ _ _ _ _ _ _ _ k) (Ev.pos (by omega) (Ev.pos (by omega) (Ev.pos (by omega) ?_)))
    rw [he]
    refine Ev.bind (impl_parseNum _ _) (Ev.pos (by omega) ?_)
    rw [← hv, w64 (n := (j : Int) + 1) (by omega) (by omega)]
    rcases (show j = 0 ∨ j = 1 ∨ j = 2 ∨ j = 3 by omega) with rfl | rfl | rfl | rfl
    · exact Ev.pos (by omega) key
    · exact Ev.neg (by omega) (Ev.pos (by omega) key)
    · exact Ev.neg (by omega) (Ev.neg (by omega) (Ev.pos (by omega) key))
    · exact Ev.neg (by omega) (Ev.neg (by omega) (Ev.neg (by omega) (Ev.pos (by omega) key)))
theorem cut_short (p : List UInt8) : (Lib.cut p [58]).1.length ≤ p.length ∧ (Lib.cut p [58]).2.1.length ≤ p.length := by
  unfold Lib.cut
  split
  · simp only [List.length_take, List.length_drop]; omega
  · simp
noncomputable def implFin (s : ByteArray) (out : List Db) : List Db × Bool := if s.toList = ([] : List UInt8) then ([], false) else if (confText out).toList = s.toList then (out, true) else ([], false)
theorem impl_PC_l0 (s : ByteArray) (P : List ByteArray) (hP : P.length ≤ 1048577) (hsz : ∀ p ∈ P, p.size ≤ 1048576) (d : Nat) : ∀ (i : Nat) (out : List Db), i + d = P.length → out.length = i → (∀ x ∈ out, x.f0.size ≤ 9223372036854775807) →
    Ev (fun k => impl_ParseConf.l0 k s out P (P.length : Int) (i : Int)) (implFin s (out ++ (P.drop i).map implItem)) := by
  induction d with
  | zero =>
    intro i out hi ho hg
    rw [List.drop_of_length_le (by omega), List.map_nil, List.append_nil]
    refine Ev.step (fun k => impl_ParseConf.l0.eq_2 _ _ _ _ _ k) (Ev.neg (by omega) ?_)
    by_cases h0 : s.toList = ([] : List UInt8)
    · exact Ev.pos h0 (Ev.done (if_pos h0).symm)
    · refine Ev.neg h0 (Ev.bind (impl_confText out (by omega) hg) ?_)
      by_cases h1 : (confText out).toList = s.toList
      · exact Ev.pos h1 (Ev.done ((if_neg h0).trans (if_pos h1)).symm)
      · exact Ev.neg h1 (Ev.done ((if_neg h0).trans (if_neg h1)).symm)
  | succ d ih =>
    intro i out hi ho hg
    have hlt : i < P.length := by omega
    have he : rdOf ByteArray.empty P (i : Int) = P[i] := getD_nat P _ hlt
    have hpz := hsz _ (List.getElem_mem hlt)
    have hL : (P[i]).data.toList.length = (P[i]).size := rfl
    obtain ⟨c1, c2⟩ := cut_short (P[i]).data.toList
    refine Ev.step (fun k => impl_ParseConf.l0.eq_2 _ _ _ _ _ k) (Ev.pos (by omega) (Ev.pos (by omega) (Ev.pos (by omega) ?_)))
    rw [he]
    refine Ev.then (a := (ba (Lib.cut (P[i]).data.toList [58]).1, ba (Lib.cut (P[i]).data.toList [58]).2.1, (Lib.cut (P[i]).data.toList [58]).2.2)) ?_ ?_
    · unfold strings_Cut.f
      rw [if_pos (by omega)]
      rfl
    have hws : (wsOf (ba (Lib.cut (P[i]).data.toList [58]).2.1)).length ≤ 4 := by
      have := Lib.splitB_length_le (⟨#[47]⟩ : ByteArray) 0 (min (4 : Int).toNat ((ba (Lib.cut (P[i]).data.toList [58]).2.1).size + 1) - 1) (ba (Lib.cut (P[i]).data.toList [58]).2.1)
      have h4 : (4 : Int).toNat = 4 := rfl
      unfold wsOf
      omega
    refine Ev.then (a := wsOf (ba (Lib.cut (P[i]).data.toList [58]).2.1)) ?_ ?_
    · unfold strings_SplitN.f
      rw [if_pos ⟨by show (ba _).size < _; rw [ba_size]; omega, by decide, by decide, by decide⟩]
      rfl
    refine impl_PC_l1 s out _ P i (by omega) (by omega) _ hws _ _ 0 (fun _ => 0) (Nat.zero_add _) (fun g hg' => ?_)
    have hn : ∀ m, g m = numAt (wsOf (ba (Lib.cut (P[i]).data.toList [58]).2.1)) m := by
      intro m
      rw [hg' m]
      by_cases c : 0 ≤ m ∧ m < (wsOf (ba (Lib.cut (P[i]).data.toList [58]).2.1)).length
      · rw [if_pos c]
      · rw [if_neg c, numAt, dif_neg (by omega)]
    rw [hn, hn, hn, hn]
    refine Ev.eq (ih (i + 1) _ (by omega) (by simp [ho]) (fun y hy => ?_)) ?_
    · rcases List.mem_append.1 hy with hy | hy
      · exact hg y hy
      · rw [List.mem_singleton] at hy
        rw [hy]
        show (ba _).size ≤ _
        rw [ba_size]; omega
    · rw [List.drop_eq_getElem_cons hlt, List.map_cons, List.append_assoc]
      rfl
/-! ### what was written is read again -/
theorem map_ba (ws : List ByteArray) : (ws.map (·.data.toList)).map ba = ws := by
  rw [List.map_map]
  refine (List.map_congr_left (g := id) fun x _ => ?_).trans (List.map_id _)
  exact (ba_of x).symm
theorem num_small {n : Int} (h0 : 0 ≤ n) (h1 : n ≤ 20) : (parseNum (ba (Lib.itoa n)) 20).1 = n := by
  obtain ⟨m, rfl⟩ := Int.eq_ofNat_of_zero_le h0
  rw [parse_num m 20 h1 (by omega)]
theorem implItem_item {x : Db} (h : dbOk x = true) (p : ByteArray) (hp : p.data.toList = itemL x) : implItem p = x := by
  obtain ⟨hn, h1, h2, h3, h4⟩ := dbOk_of h
  have e1 := itoa_two x.f1 (by omega) (by omega)
  have e2 := itoa_two x.f2 (by omega) (by omega)
  have e3 := itoa_two x.f3 (by omega) (by omega)
  have e4 := itoa_two x.f4 (by omega) (by omega)
  have hc : Lib.cut p.data.toList [58] = (x.f0.data.toList, restL x, true) := by
    rw [hp, item_rest, cut_join 58 _ _ (name_free h 58 (by decide))]
  have hlen : 7 ≤ (restL x).length := by
    simp only [restL, joinA, List.flatMap_cons, List.flatMap_nil, List.length_append, List.length_cons, List.append_nil]
    omega
  have hw : wsOf (ba (restL x)) = [ba (Lib.itoa x.f1), ba (Lib.itoa x.f2), ba (Lib.itoa x.f3), ba (Lib.itoa x.f4)] := by
    have hd := Lib.splitB_data (⟨#[47]⟩ : ByteArray) 0 (min (4 : Int).toNat ((ba (restL x)).size + 1) - 1) (ba (restL x))
    rw [ba_data, show (min (4 : Int).toNat ((ba (restL x)).size + 1) - 1) = [Lib.itoa x.f2, Lib.itoa x.f3, Lib.itoa x.f4].length by rw [ba_size]; have h4 : (4 : Int).toNat = 4 := rfl; simp only [List.length_cons, List.length_nil]; omega] at hd
    have hk : Lib.splitK [47] 0 [Lib.itoa x.f2, Lib.itoa x.f3, Lib.itoa x.f4].length (restL x) = [Lib.itoa x.f1, Lib.itoa x.f2, Lib.itoa x.f3, Lib.itoa x.f4] := by
      refine splitK_join 47 [Lib.itoa x.f2, Lib.itoa x.f3, Lib.itoa x.f4] _ (num_free _ (by omega) 47 (.inl (by decide))) ?_
      intro y hy
      simp only [List.mem_cons, List.not_mem_nil, or_false] at hy
      rcases hy with rfl | rfl | rfl
      · exact num_free _ (by omega) 47 (.inl (by decide))
      · exact num_free _ (by omega) 47 (.inl (by decide))
      · exact num_free _ (by omega) 47 (.inl (by decide))
    have hd' := hd.trans hk
    have e := congrArg (List.map ba) hd'
    rw [map_ba] at e
    unfold wsOf
    rw [show (min (4 : Int).toNat ((ba (restL x)).size + 1) - 1) = [Lib.itoa x.f2, Lib.itoa x.f3, Lib.itoa x.f4].length by rw [ba_size]; have h4 : (4 : Int).toNat = 4 := rfl; simp only [List.length_cons, List.length_nil]; omega]
    exact e
  unfold implItem
  rw [hc]
  simp only
  rw [hw]
  have n0 : numAt [ba (Lib.itoa x.f1), ba (Lib.itoa x.f2), ba (Lib.itoa x.f3), ba (Lib.itoa x.f4)] 0 = x.f1 := (dif_pos (by simp)).trans (num_small (n := x.f1) (by omega) (by omega))
  have n1 : numAt [ba (Lib.itoa x.f1), ba (Lib.itoa x.f2), ba (Lib.itoa x.f3), ba (Lib.itoa x.f4)] 1 = x.f2 := (dif_pos (by simp)).trans (num_small (n := x.f2) (by omega) (by omega))
  have n2 : numAt [ba (Lib.itoa x.f1), ba (Lib.itoa x.f2), ba (Lib.itoa x.f3), ba (Lib.itoa x.f4)] 2 = x.f3 := (dif_pos (by simp)).trans (num_small (n := x.f3) (by omega) (by omega))
  have n3 : numAt [ba (Lib.itoa x.f1), ba (Lib.itoa x.f2), ba (Lib.itoa x.f3), ba (Lib.itoa x.f4)] 3 = x.f4 := (dif_pos (by simp)).trans (num_small (n := x.f4) (by omega) (by omega))
  rw [n0, n1, n2, n3, ← ba_of]
def piecesOf (s : ByteArray) : List ByteArray := Lib.splitB (⟨#[59]⟩ : ByteArray) 0 (Lib.countB s (⟨#[59]⟩ : ByteArray)) s
theorem pieces_text {l : List Db} (h : confFrom l 0 l.length = true) : (piecesOf (confText l)).map implItem = l := by
  obtain ⟨x, xs, rfl, _, hall⟩ := conf_cons h
  have hf := item_free (hall x (List.mem_cons_self ..))
  have hfs : ∀ y ∈ xs.map itemL, (59 : UInt8) ∉ y := by
    intro y hy
    obtain ⟨z, hz, rfl⟩ := List.mem_map.1 hy
    exact item_free (hall z (List.mem_cons_of_mem _ hz))
  have hcnt : Lib.countB (confText (x :: xs)) (⟨#[59]⟩ : ByteArray) = (xs.map itemL).length := by
    show Lib.count (confText (x :: xs)).data.toList [59] = _
    rw [confText_join x xs h, ba_data, Lib.count_one, count_join 59 _ _ hf hfs]
  have hd := Lib.splitB_data (⟨#[59]⟩ : ByteArray) 0 (Lib.countB (confText (x :: xs)) (⟨#[59]⟩ : ByteArray)) (confText (x :: xs))
  have hk : (piecesOf (confText (x :: xs))).map (·.data.toList) = (x :: xs).map itemL := by
    refine hd.trans ?_
    rw [hcnt, show (⟨#[59]⟩ : ByteArray).data.toList = [59] from rfl]
    conv => lhs; rw [confText_join x xs h, ba_data]
    exact splitK_join 59 _ _ hf hfs
  have hlen : (piecesOf (confText (x :: xs))).length = (x :: xs).length := by
    have := congrArg List.length hk
    simpa using this
  apply List.ext_getElem
  · rw [List.length_map]; exact hlen
  · intro j h1 h2
    rw [List.getElem_map]
    refine implItem_item (hall _ (List.getElem_mem h2)) _ ?_
    have hj : j < (piecesOf (confText (x :: xs))).length := by rw [hlen]; exact h2
    have e := congrArg (fun L : List (List UInt8) => L[j]?) hk
    simp only [List.getElem?_map, List.getElem?_eq_getElem hj, List.getElem?_eq_getElem h2, Option.map_some, Option.some.injEq] at e
    exact e
theorem impl_parseConf (s : ByteArray) (hs : s.size ≤ 1048576) : Ev (fun k => impl_ParseConf.f k s) (parseConf s) := by
  unfold impl_ParseConf.f
  have hcl := Lib.countB_le (⟨#[59]⟩ : ByteArray) (by decide) s.size s (Nat.le_refl _)
  have hpl : (piecesOf s).length ≤ 1048577 := by
    have := Lib.splitB_all (⟨#[59]⟩ : ByteArray) (by decide) 0 _ s rfl
    unfold piecesOf
    omega
  refine Ev.then (a := piecesOf s) ?_ ?_
  · unfold strings_Split.f
    rw [if_pos ⟨by omega, by decide⟩]
    rfl
  refine Ev.eq (impl_PC_l0 s (piecesOf s) hpl (fun p hp => Nat.le_trans (splitB_sizes _ _ _ _ p hp) hs) (piecesOf s).length 0 [] (by omega) rfl (fun x hx => by cases hx)) ?_
  rw [List.drop_zero, List.nil_append]
  unfold implFin
  rcases parseConf_back s with h | ⟨l, hl, hc, rfl⟩
  · rw [h]
    split
    · rfl
    · rename_i h0
      split
      · rename_i h1
        have e := text_inj h1
        by_cases hc : confFrom ((piecesOf s).map implItem) 0 ((piecesOf s).map implItem).length = true
        · have := parseConf_text hc
          rw [e, h] at this
          exact absurd (congrArg Prod.snd this) (by simp)
        · exact absurd (by rw [← e, confText, if_neg hc]; exact text_nil.2 rfl) h0
      · rfl
  · rw [hl, pieces_text hc]
    have hsz := confText_size hc
    rw [if_neg (fun e => by rw [text_nil.1 e] at hsz; revert hsz; decide), if_pos rfl]
end Go.Proofs.YthkepmicdpgbbaaGreatDoor.Fn

/- What the printed functions that check a record, and the known state, come to. -/
namespace Go.Proofs.YthkepmicdpgbbaaGreatDoor.Fn
set_option linter.unusedVariables false
set_option linter.unusedSimpArgs false
open Go.RowKit Go.Proofs.YthkepmicdpgbbaaGreatDoorW.PrintWords Go.Proofs.YthkepmicdpgbbaaGreatDoor.P Go.Proofs.YthkepmicdpgbbaaGreatDoor.Base

noncomputable def confB (s : ByteArray) : Bool := (parseConf s).2
def emptyT (s : ByteArray) : Bool := s.toList == ([] : List UInt8)
theorem spec_l4Text (s : ByteArray) (hs : s.size ≤ 1048576) : Ev (fun k => spec_l4Text.f k s) (confB s) := Ev.bind (spec_parseConf s hs) (Ev.done rfl)
theorem impl_confB (s : ByteArray) (hs : s.size ≤ 1048576) : Ev (fun k => impl_confOk.f k s) (confB s) := Ev.bind (impl_parseConf s hs) (Ev.done rfl)
noncomputable def recOk (kind n owner : Int) (s : ByteArray) : Bool :=
  decide (1 ≤ n ∧ n ≤ 60000) && (if kind = 1 then decide (owner = 0) && confB s else if kind = 2 then decide (owner = 0) && emptyT s else if kind = 3 then decide (0 ≤ owner ∧ owner ≤ 1) && emptyT s else false)
theorem spec_recOk (kind n owner : Int) (s : ByteArray) (hs : s.size ≤ 1048576) : Ev (fun k => spec_RecOk.f k kind n owner s) (recOk kind n owner s) := by
  unfold spec_RecOk.f recOk
  refine Ev.then (l1In _ _ _) ?_
  by_cases h0 : 1 ≤ n ∧ n ≤ 60000
  · rw [decide_eq_true h0, Bool.true_and]
    refine Ev.pos rfl ?_
    by_cases h1 : kind = 1
    · refine Ev.eq (Ev.pos h1 ?_) (if_pos h1).symm
      by_cases h2 : owner = 0
      · rw [decide_eq_true h2, Bool.true_and]; exact Ev.pos h2 (Ev.bind (spec_l4Text s hs) (Ev.done rfl))
      · rw [decide_eq_false h2, Bool.false_and]; exact Ev.neg h2 (Ev.done rfl)
    refine Ev.eq (Ev.neg h1 ?_) (if_neg h1).symm
    by_cases h1 : kind = 2
    · refine Ev.eq (Ev.pos h1 ?_) (if_pos h1).symm
      by_cases h2 : owner = 0
      · rw [decide_eq_true h2, Bool.true_and]; exact Ev.pos h2 (Ev.done rfl)
      · rw [decide_eq_false h2, Bool.false_and]; exact Ev.neg h2 (Ev.done rfl)
    refine Ev.eq (Ev.neg h1 ?_) (if_neg h1).symm
    by_cases h1 : kind = 3
    · refine Ev.eq (Ev.pos h1 (Ev.then (l1In _ _ _) ?_)) (if_pos h1).symm
      by_cases h2 : 0 ≤ owner ∧ owner ≤ 1
      · rw [decide_eq_true h2, Bool.true_and]; exact Ev.pos rfl (Ev.done rfl)
      · rw [decide_eq_false h2, Bool.false_and]; exact Ev.neg (by decide) (Ev.done rfl)
    exact Ev.neg h1 (Ev.done (if_neg h1).symm)
  · rw [decide_eq_false h0, Bool.false_and]; exact Ev.neg (by decide) (Ev.done rfl)
theorem impl_recOk (kind n owner : Int) (s : ByteArray) (hs : s.size ≤ 1048576) : Ev (fun k => impl_RecOk.f k kind n owner s) (recOk kind n owner s) := by
  unfold impl_RecOk.f recOk
  refine Ev.then (isIn _ _ _) ?_
  by_cases h0 : 1 ≤ n ∧ n ≤ 60000
  · rw [decide_eq_true h0, Bool.true_and]
    refine Ev.pos rfl ?_
    by_cases h1 : kind = 1
    · refine Ev.eq (Ev.pos h1 ?_) (if_pos h1).symm
      by_cases h2 : owner = 0
      · rw [decide_eq_true h2, Bool.true_and]; exact Ev.pos h2 (Ev.bind (impl_confB s hs) (Ev.done rfl))
      · rw [decide_eq_false h2, Bool.false_and]; exact Ev.neg h2 (Ev.done rfl)
    refine Ev.eq (Ev.neg h1 ?_) (if_neg h1).symm
    by_cases h1 : kind = 2
    · refine Ev.eq (Ev.pos h1 ?_) (if_pos h1).symm
      by_cases h2 : owner = 0
      · rw [decide_eq_true h2, Bool.true_and]; exact Ev.pos h2 (Ev.done rfl)
      · rw [decide_eq_false h2, Bool.false_and]; exact Ev.neg h2 (Ev.done rfl)
    refine Ev.eq (Ev.neg h1 ?_) (if_neg h1).symm
    by_cases h1 : kind = 3
    · refine Ev.eq (Ev.pos h1 (Ev.then (isIn _ _ _) ?_)) (if_pos h1).symm
      by_cases h2 : 0 ≤ owner ∧ owner ≤ 1
      · rw [decide_eq_true h2, Bool.true_and]; exact Ev.pos rfl (Ev.done rfl)
      · rw [decide_eq_false h2, Bool.false_and]; exact Ev.neg (by decide) (Ev.done rfl)
    exact Ev.neg h1 (Ev.done (if_neg h1).symm)
  · rw [decide_eq_false h0, Bool.false_and]; exact Ev.neg (by decide) (Ev.done rfl)
end Go.Proofs.YthkepmicdpgbbaaGreatDoor.Fn

/- What the printed functions that make a checksum come to. No memory is in sight here. -/
namespace Go.Proofs.YthkepmicdpgbbaaGreatDoor.Fn
set_option linter.unusedVariables false
set_option linter.unusedSimpArgs false
open Go.RowKit Go.Proofs.YthkepmicdpgbbaaGreatDoorW.PrintWords Go.Proofs.YthkepmicdpgbbaaGreatDoor.P Go.Proofs.YthkepmicdpgbbaaGreatDoor.Base

/-! ### the checksum -/
theorem bits_nat64 (a b : Nat) (ha : a < 2 ^ 63) (hb : b < 2 ^ 63) : Go.bits .and .i64 a b = ((a &&& b : Nat) : Int) := (Go.bits_nat .i64 63 (by decide) wraps_i64 a b ha hb).1
theorem xor_nat (a b : Nat) (ha : a < 2 ^ 63) (hb : b < 2 ^ 63) : Go.bits .xor .i64 a b = ((a ^^^ b : Nat) : Int) := by
  have hc : a ^^^ b < 2 ^ 63 := Nat.xor_lt_two_pow ha hb
  have hk : IntKind.i64.bits = 64 := rfl
  have ha' : a % 2 ^ IntKind.i64.bits = a := Nat.mod_eq_of_lt (by rw [hk]; omega)
  have hb' : b % 2 ^ IntKind.i64.bits = b := Nat.mod_eq_of_lt (by rw [hk]; omega)
  simp only [Go.bits, BitVec.ofInt_natCast, BitVec.toNat_xor, BitVec.toNat_ofNat, ha', hb']
  exact wraps_i64 _ (by omega) (by exact_mod_cast hc)
theorem and_mask (a : Nat) (ha : a < 65536) : Go.bits .and .i64 a 65535 = (a : Int) := by
  rw [show (65535 : Int) = ((65535 : Nat) : Int) from rfl, bits_nat64 a 65535 (by omega) (by omega), show (65535 : Nat) = 2 ^ 16 - 1 by decide, Nat.and_two_pow_sub_one_eq_mod, Nat.mod_eq_of_lt ha]
theorem bit_int {s : Nat} (h : s < 65536) : (if 65535 < wrap64 ((s : Int) * 2) then Go.bits .xor .i64 (wrap64 ((s : Int) * 2)) 69665 else wrap64 ((s : Int) * 2)) = (Crc.bit s : Int) := by
  unfold Crc.bit
  rw [w64 (by omega) (by omega)]
  by_cases hs : 2 * s > 65535
  · rw [if_pos (by omega), if_pos hs, show (s : Int) * 2 = ((2 * s : Nat) : Int) by omega, show (69665 : Int) = ((69665 : Nat) : Int) from rfl, xor_nat _ _ (by omega) (by omega)]
  · rw [if_neg (by omega), if_neg hs]; omega
theorem impl_Sum_l1 (l : List Int) (i : Nat) (r : Int) (s' : Nat) (d : Nat) : ∀ (j s : Nat), j + d = 8 → s < 65536 → Crc.bits s d = s' → Ev (fun k => impl_Sum.l0 k (s' : Int) l (l.length : Int) (wrap64 ((i : Int) + 1))) r → Ev (fun k => impl_Sum.l1 k (s : Int) l (l.length : Int) (i : Int) (j : Int)) r := by
  induction d with
  | zero =>
    intro j s hj hs he hk
    refine Ev.step (fun k => impl_Sum.l1.eq_2 _ _ _ _ _ k) (Ev.neg (by omega) ?_)
    rw [show s = s' from he]
    exact hk
  | succ d ih =>
    intro j s hj hs he hk
    refine Ev.step (fun k => impl_Sum.l1.eq_2 _ _ _ _ _ k) (Ev.pos (by omega) ?_)
    have hb := bit_int hs
    have hn := ih (j + 1) (Crc.bit s) (by omega) (Crc.bit_lt hs) he hk
    have hj1 : wrap64 ((j : Int) + 1) = ((j + 1 : Nat) : Int) := by rw [w64 (by omega) (by omega)]; rfl
    by_cases h : wrap64 ((s : Int) * 2) > 65535
    · rw [if_pos h] at hb
      refine Ev.pos h ?_
      rw [hb, hj1]
      exact hn
    · rw [if_neg h] at hb
      refine Ev.neg h ?_
      rw [hb, hj1]
      exact hn
theorem spec_Sum_l1 (l : List Int) (i : Nat) (r : Int) (s' : Nat) (d : Nat) : ∀ (j s : Nat), j + d = 8 → s < 65536 → Crc.bits s d = s' → Ev (fun k => spec_Sum.l0 k l (s' : Int) (wrap64 ((i : Int) + 1))) r → Ev (fun k => spec_Sum.l1 k l (s : Int) (i : Int) (j : Int)) r := by
  induction d with
  | zero =>
    intro j s hj hs he hk
    refine Ev.step (fun k => spec_Sum.l1.eq_2 _ _ _ _ k) (Ev.neg (by omega) ?_)
    rw [show s = s' from he]
    exact hk
  | succ d ih =>
    intro j s hj hs he hk
    refine Ev.step (fun k => spec_Sum.l1.eq_2 _ _ _ _ k) (Ev.pos (by omega) ?_)
    have hb := bit_int hs
    have hn := ih (j + 1) (Crc.bit s) (by omega) (Crc.bit_lt hs) he hk
    have hj1 : wrap64 ((j : Int) + 1) = ((j + 1 : Nat) : Int) := by rw [w64 (by omega) (by omega)]; rfl
    by_cases h : wrap64 ((s : Int) * 2) > 65535
    · rw [if_pos h] at hb
      refine Ev.pos h ?_
      rw [hb, hj1]
      exact hn
    · rw [if_neg h] at hb
      refine Ev.neg h ?_
      rw [hb, hj1]
      exact hn
theorem byte_int {s : Nat} {x : Int} (hs : s < 65536) (hx : 0 ≤ x ∧ x ≤ 255) : Go.bits .xor .i64 (s : Int) (wrap64 (x * 256)) = ((s ^^^ (256 * x.toNat) : Nat) : Int) := by
  rw [w64 (by omega) (by omega), show x * 256 = ((256 * x.toNat : Nat) : Int) by omega, xor_nat _ _ (by omega) (by omega)]
theorem impl_Sum_l0 (l : List Int) (hb : Bytes l) (hl : l.length ≤ 140737488351232) (d : Nat) : ∀ (i s : Nat), i + d = l.length → s < 65536 → Ev (fun k => impl_Sum.l0 k (s : Int) l (l.length : Int) (i : Int)) (Crc.sum s (l.drop i) : Int) := by
  induction d with
  | zero =>
    intro i s hi hs
    refine Ev.step (fun k => impl_Sum.l0.eq_2 _ _ _ _ k) (Ev.neg (by omega) (Ev.done ?_))
    rw [List.drop_of_length_le (by omega), and_mask s hs]; rfl
  | succ d ih =>
    intro i s hi hs
    have hr := rd_byte hb (i : Int)
    refine Ev.step (fun k => impl_Sum.l0.eq_2 _ _ _ _ k) (Ev.pos (by omega) (Ev.pos (by omega) (Ev.pos (by omega) ?_)))
    rw [drop_rd (by omega), Crc.sum_cons, w64_byte hb, Int.mul_comm 256, byte_int hs hr]
    refine impl_Sum_l1 l i _ _ 8 0 _ (by omega) (Nat.xor_lt_two_pow (n := 16) hs (by omega)) (Crc.byte_def _ _) ?_
    rw [w64 (by omega) (by omega), cast_succ]
    exact ih (i + 1) _ (by omega) (Crc.byte_lt hs (by omega))
theorem spec_Sum_l0 (l : List Int) (hb : Bytes l) (hl : l.length ≤ 140737488351232) (d : Nat) : ∀ (i s : Nat), i + d = l.length → s < 65536 → Ev (fun k => spec_Sum.l0 k l (s : Int) (i : Int)) (Crc.sum s (l.drop i) : Int) := by
  induction d with
  | zero =>
    intro i s hi hs
    refine Ev.step (fun k => spec_Sum.l0.eq_2 _ _ _ k) (Ev.neg (by omega) (Ev.done ?_))
    rw [List.drop_of_length_le (by omega), and_mask s hs]; rfl
  | succ d ih =>
    intro i s hi hs
    have hr := rd_byte hb (i : Int)
    refine Ev.step (fun k => spec_Sum.l0.eq_2 _ _ _ k) (Ev.pos (by omega) (Ev.pos (by omega) ?_))
    rw [drop_rd (by omega), Crc.sum_cons, w64_byte hb, byte_int hs hr]
    refine spec_Sum_l1 l i _ _ 8 0 _ (by omega) (Nat.xor_lt_two_pow (n := 16) hs (by omega)) (Crc.byte_def _ _) ?_
    rw [w64 (by omega) (by omega), cast_succ]
    exact ih (i + 1) _ (by omega) (Crc.byte_lt hs (by omega))
def crc (l : List Int) : Int := (Crc.sum 65535 l : Nat)
theorem impl_sum (l : List Int) (hb : Bytes l) (hl : l.length ≤ 140737488351232) : Ev (fun k => impl_Sum.f k l) (crc l) := by
  unfold impl_Sum.f
  exact impl_Sum_l0 l hb hl l.length 0 65535 (by omega) (by decide)
theorem spec_sum (l : List Int) (hb : Bytes l) (hl : l.length ≤ 140737488351232) : Ev (fun k => spec_Sum.f k l) (crc l) := by
  unfold spec_Sum.f
  exact spec_Sum_l0 l hb hl l.length 0 65535 (by omega) (by decide)
end Go.Proofs.YthkepmicdpgbbaaGreatDoor.Fn

/- What the printed functions that write words and texts come to. No memory is in sight here. -/
namespace Go.Proofs.YthkepmicdpgbbaaGreatDoor.Fn
set_option linter.unusedVariables false
set_option linter.unusedSimpArgs false
open Go.RowKit Go.Proofs.YthkepmicdpgbbaaGreatDoorW.PrintWords Go.Proofs.YthkepmicdpgbbaaGreatDoor.P Go.Proofs.YthkepmicdpgbbaaGreatDoor.Base

theorem clone (l : List Int) (hl : l.length < 140737488355328) : slices_Clone_byte_byte.f l = some l := by
  unfold slices_Clone_byte_byte.f
  simp only [Option.bind_some, List.nil_append, List.length_nil, Nat.zero_add]
  rw [if_pos hl]
theorem and255_mod (x : Int) : Go.bits .and .i64 x 255 = x % 256 := by
  have hk : IntKind.i64.bits = 64 := rfl
  have h255 : (255 : Nat) % 2 ^ IntKind.i64.bits = 255 := by decide
  rw [show (255 : Int) = ((255 : Nat) : Int) from rfl]
  simp only [Go.bits, BitVec.ofInt_natCast, BitVec.toNat_and, BitVec.toNat_ofNat, h255]
  rw [show (255 : Nat) = 2 ^ 8 - 1 by decide, Nat.and_two_pow_sub_one_eq_mod, BitVec.toNat_ofInt, hk, wraps_i64 _ (by omega) (by omega)]
  omega
/-- The two bytes of a word. -/
def wordBytes (n : Int) : List Int := [n / 256 % 256, n % 256]
theorem wordBytes_bytes (n : Int) : Bytes (wordBytes n) := Bytes.cons (by omega) (Bytes.cons (by omega) Bytes.nil)
theorem wordBytes_length (n : Int) : (wordBytes n).length = 2 := rfl
theorem spec_putWord (l : List Int) (n : Int) (hl : l.length < 140737488355326) : spec_PutWord.f l n = some (l ++ wordBytes n) := by
  unfold spec_PutWord.f wordBytes
  simp only [Option.bind_some, List.nil_append, List.length_nil, Nat.zero_add, List.length_cons]
  rw [if_pos (by omega), if_pos (by omega), and255_mod, and255_mod]
  simp
theorem impl_putWord (l : List Int) (n : Int) (hl : l.length < 140737488355326) : impl_PutWord.f l n = some (l ++ wordBytes n) := by
  unfold impl_PutWord.f wordBytes
  rw [clone l (by omega)]
  simp only [Option.bind_some, List.length_cons, List.length_nil]
  rw [if_pos (by omega)]
/-- b followed by a text, if that is one. -/
def putText (l : List Int) (s : ByteArray) : List Int := if textOk s = true then l ++ [(s.size : Int)] ++ bytesOf s else l
theorem textOk_size {s : ByteArray} (h : textOk s = true) : s.size ≤ 100 := ((textOk_iff s).1 h).1
theorem spec_putText (l : List Int) (s : ByteArray) (hl : l.length < 140737488355000) (hs : s.size ≤ 9223372036854775807) : Ev (fun k => spec_PutText.f k l s) (putText l s) := by
  unfold spec_PutText.f putText
  simp only [Option.bind_some, List.nil_append, List.length_nil, Nat.zero_add]
  refine Ev.pos (by omega) (Ev.bind (spec_textOk s hs) ?_)
  by_cases h : textOk s = true
  · have := textOk_size h
    refine Ev.pos h (Ev.pos (by omega) (Ev.pos (by simp; omega) (Ev.done ?_)))
    rw [if_pos h, Int.emod_eq_of_lt (by omega) (by omega)]
  · exact Ev.neg h (Ev.done (if_neg h).symm)
theorem impl_putText (l : List Int) (s : ByteArray) (hl : l.length < 140737488355000) (hs : s.size ≤ 9223372036854775807) : Ev (fun k => impl_PutText.f k l s) (putText l s) := by
  unfold impl_PutText.f putText
  rw [clone l (by omega)]
  simp only [Option.bind_some]
  refine Ev.bind (impl_textOk s hs) ?_
  by_cases h : textOk s = true
  · have := textOk_size h
    refine Ev.pos h (Ev.pos (by omega) (Ev.pos (by simp; omega) (Ev.done ?_)))
    rw [if_pos h, Int.emod_eq_of_lt (by omega) (by omega)]
  · exact Ev.neg h (Ev.done (if_neg h).symm)
theorem putText_bytes {l : List Int} (h : Bytes l) (s : ByteArray) : Bytes (putText l s) := by
  unfold putText
  split
  · rename_i ht
    have := textOk_size ht
    exact (h.append (Bytes.cons (by omega) Bytes.nil)).append (bytesOf_bytes s)
  · exact h
theorem putText_length (l : List Int) (s : ByteArray) : (putText l s).length ≤ l.length + 101 := by
  unfold putText
  split
  · rename_i ht
    have := textOk_size ht
    simp [bytesOf_length]; omega
  · omega
end Go.Proofs.YthkepmicdpgbbaaGreatDoor.Fn

/- What the printed functions that write and read a record come to. -/
namespace Go.Proofs.YthkepmicdpgbbaaGreatDoor.Fn
set_option linter.unusedVariables false
set_option linter.unusedSimpArgs false
open Go.RowKit Go.Proofs.YthkepmicdpgbbaaGreatDoorW.PrintWords Go.Proofs.YthkepmicdpgbbaaGreatDoor.P Go.Proofs.YthkepmicdpgbbaaGreatDoor.Base

def recHead (gen place kind n owner : Int) : List Int := wordBytes gen ++ wordBytes place ++ [kind % 256] ++ wordBytes n ++ [owner % 256]
theorem recHead_bytes (gen place kind n owner : Int) : Bytes (recHead gen place kind n owner) :=
  ((((wordBytes_bytes gen).append (wordBytes_bytes place)).append (Bytes.cons (by omega) Bytes.nil)).append (wordBytes_bytes n)).append (Bytes.cons (by omega) Bytes.nil)
theorem recHead_length (gen place kind n owner : Int) : (recHead gen place kind n owner).length = 8 := by simp [recHead, wordBytes]
def recBody (gen place kind n owner : Int) (s : ByteArray) : List Int := putText (recHead gen place kind n owner) s
theorem recBody_bytes (gen place kind n owner : Int) (s : ByteArray) : Bytes (recBody gen place kind n owner s) := putText_bytes (recHead_bytes gen place kind n owner) s
theorem recBody_length (gen place kind n owner : Int) (s : ByteArray) : (recBody gen place kind n owner s).length ≤ 109 := by
  have := putText_length (recHead gen place kind n owner) s
  rw [recHead_length] at this
  exact this
abbrev wordIn (n : Int) : Prop := 0 ≤ n ∧ n ≤ 65535
noncomputable def putRec (gen place kind n owner : Int) (s : ByteArray) : List Int :=
  @ite _ (recOk kind n owner s = true ∧ wordIn gen ∧ wordIn place) (Classical.propDecidable _) (recBody gen place kind n owner s ++ wordBytes (crc (recBody gen place kind n owner s))) []
theorem putRec_yes {gen place kind n owner : Int} {s : ByteArray} (h : recOk kind n owner s = true ∧ wordIn gen ∧ wordIn place) : putRec gen place kind n owner s = recBody gen place kind n owner s ++ wordBytes (crc (recBody gen place kind n owner s)) := if_pos h
theorem putRec_no {gen place kind n owner : Int} {s : ByteArray} (h : ¬ (recOk kind n owner s = true ∧ wordIn gen ∧ wordIn place)) : putRec gen place kind n owner s = [] := if_neg h
theorem putRec_bytes (gen place kind n owner : Int) (s : ByteArray) : Bytes (putRec gen place kind n owner s) := by
  by_cases h : recOk kind n owner s = true ∧ wordIn gen ∧ wordIn place
  · rw [putRec_yes h]; exact (recBody_bytes gen place kind n owner s).append (wordBytes_bytes _)
  · rw [putRec_no h]; exact Bytes.nil
theorem putRec_length (gen place kind n owner : Int) (s : ByteArray) : (putRec gen place kind n owner s).length ≤ 111 := by
  by_cases h : recOk kind n owner s = true ∧ wordIn gen ∧ wordIn place
  · have := recBody_length gen place kind n owner s
    rw [putRec_yes h, List.length_append, wordBytes_length]; omega
  · rw [putRec_no h]; simp
theorem spec_putRec (gen place kind n owner : Int) (s : ByteArray) (hs : s.size ≤ 1048576) : Ev (fun k => spec_PutRec.f k gen place kind n owner s) (putRec gen place kind n owner s) := by
  unfold spec_PutRec.f
  have bad : ¬ (recOk kind n owner s = true ∧ wordIn gen ∧ wordIn place) → ∀ b : Bool, b = true → Ev (fun k => spec_PutRec.j0 k gen place b kind n owner s) (putRec gen place kind n owner s) := fun hn b hb => Ev.step (fun k => spec_PutRec.j0.eq_2 _ _ _ _ _ _ _ k) (Ev.pos hb (Ev.done (putRec_no hn).symm))
  refine Ev.bind (spec_recOk kind n owner s hs) ?_
  by_cases h1 : recOk kind n owner s = true
  case neg => exact Ev.neg h1 (bad (fun h => h1 h.1) _ rfl)
  refine Ev.pos h1 ?_
  have e1 : ∀ x : Int, spec_l4Word.f x = some (decide (wordIn x)) := fun x => by unfold spec_l4Word.f; rw [l1In]; rfl
  refine Ev.then (e1 gen) ?_
  by_cases h2 : wordIn gen
  case neg => exact Ev.neg (by simpa using h2) (bad (fun h => h2 h.2.1) _ rfl)
  refine Ev.pos (by simpa using h2) (Ev.then (e1 place) ?_)
  by_cases h3 : wordIn place
  case neg => exact bad (fun h => h3 h.2.2) _ (by rw [decide_eq_false h3]; rfl)
  rw [putRec_yes ⟨h1, h2, h3⟩]
  have hb := recBody_length gen place kind n owner s
  refine Ev.step (fun k => spec_PutRec.j0.eq_2 _ _ _ _ _ _ _ k) (Ev.neg (by simpa using h3) ?_)
  refine Ev.then (spec_putWord _ _ (by simp)) (Ev.then (spec_putWord _ _ (by simp [wordBytes])) (Ev.then rfl (Ev.pos (by simp [wordBytes]) (Ev.then (spec_putWord _ _ (by simp [wordBytes])) (Ev.then rfl (Ev.pos (by simp [wordBytes]) ?_))))))
  rw [List.nil_append]
  exact Ev.bind (spec_putText (recHead gen place kind n owner) s (by rw [recHead_length]; omega) (by omega)) (Ev.bind (spec_sum _ (recBody_bytes gen place kind n owner s) (by unfold recBody at hb; omega)) (Ev.then (spec_putWord _ _ (by unfold recBody at hb; omega)) (Ev.then rfl (Ev.done rfl))))
theorem impl_putRec (gen place kind n owner : Int) (s : ByteArray) (hs : s.size ≤ 1048576) : Ev (fun k => impl_PutRec.f k gen place kind n owner s) (putRec gen place kind n owner s) := by
  unfold impl_PutRec.f
  have bad : ¬ (recOk kind n owner s = true ∧ wordIn gen ∧ wordIn place) → ∀ b : Bool, b = true → Ev (fun k => impl_PutRec.j0 k gen place b kind n owner s) (putRec gen place kind n owner s) := fun hn b hb => Ev.step (fun k => impl_PutRec.j0.eq_2 _ _ _ _ _ _ _ k) (Ev.pos hb (Ev.done (putRec_no hn).symm))
  refine Ev.bind (impl_recOk kind n owner s hs) ?_
  by_cases h1 : recOk kind n owner s = true
  case neg => exact Ev.neg h1 (bad (fun h => h1 h.1) _ rfl)
  refine Ev.pos h1 ?_
  have e1 : ∀ x : Int, impl_wordOk.f x = some (decide (wordIn x)) := fun x => by unfold impl_wordOk.f; rw [isIn]; rfl
  refine Ev.then (e1 gen) ?_
  by_cases h2 : wordIn gen
  case neg => exact Ev.neg (by simpa using h2) (bad (fun h => h2 h.2.1) _ rfl)
  refine Ev.pos (by simpa using h2) (Ev.then (e1 place) ?_)
  by_cases h3 : wordIn place
  case neg => exact bad (fun h => h3 h.2.2) _ (by rw [decide_eq_false h3]; rfl)
  rw [putRec_yes ⟨h1, h2, h3⟩]
  have hb := recBody_length gen place kind n owner s
  refine Ev.step (fun k => impl_PutRec.j0.eq_2 _ _ _ _ _ _ _ k) (Ev.neg (by simpa using h3) ?_)
  refine Ev.then (impl_putWord _ _ (by simp)) (Ev.then (impl_putWord _ _ (by simp [wordBytes])) (Ev.then rfl (Ev.pos (by simp [wordBytes]) (Ev.then (impl_putWord _ _ (by simp [wordBytes])) (Ev.then rfl (Ev.pos (by simp [wordBytes]) ?_))))))
  rw [List.nil_append]
  exact Ev.bind (impl_putText (recHead gen place kind n owner) s (by rw [recHead_length]; omega) (by omega)) (Ev.bind (impl_sum _ (recBody_bytes gen place kind n owner s) (by unfold recBody at hb; omega)) (Ev.then (impl_putWord _ _ (by unfold recBody at hb; omega)) (Ev.then rfl (Ev.done rfl))))
end Go.Proofs.YthkepmicdpgbbaaGreatDoor.Fn

/- What the printed functions that read a text come to. No memory is in sight here. -/
namespace Go.Proofs.YthkepmicdpgbbaaGreatDoor.Fn
set_option linter.unusedVariables false
set_option linter.unusedSimpArgs false
open Go.RowKit Go.Proofs.YthkepmicdpgbbaaGreatDoorW.PrintWords Go.Proofs.YthkepmicdpgbbaaGreatDoor.P Go.Proofs.YthkepmicdpgbbaaGreatDoor.Base

/-! ### texts out of bytes -/
def noText : ByteArray × Int × Bool := (⟨#[]⟩, 0, false)
/-- The bytes of l from a + 1 on, as many as byte a tells. -/
def textAt (l : List Int) (a : Int) : ByteArray := strOfNums ((l.take (a + 1 + rd l a).toNat).drop (a + 1).toNat)
def getText (l : List Int) (a : Int) : ByteArray × Int × Bool :=
  if a < 0 ∨ (l.length : Int) ≤ a ∨ (l.length : Int) - a - 1 < rd l a then noText
  else if textOk (textAt l a) = true then (textAt l a, a + 1 + rd l a, true) else noText
theorem textAt_size (l : List Int) (a : Int) (hl : l.length ≤ 140737488351232) : (textAt l a).size ≤ 9223372036854775807 := by
  unfold textAt
  rw [size_strOfNums, List.length_drop, List.length_take]
  omega
theorem spec_getText (l : List Int) (a : Int) (hb : Bytes l) (hl : l.length ≤ 140737488351232) : Ev (fun k => spec_GetText.f k l a) (getText l a) := by
  unfold spec_GetText.f getText
  have bad : ∀ b : Bool, b = true → Ev (fun k => spec_GetText.j0 k l a b) noText := fun b hb => Ev.step (fun k => spec_GetText.j0.eq_2 _ _ _ k) (Ev.pos hb (Ev.done rfl))
  by_cases h0 : a < 0
  · rw [if_pos (.inl h0)]; exact Ev.pos h0 (bad _ rfl)
  refine Ev.neg h0 ?_
  by_cases h1 : (l.length : Int) ≤ a
  · rw [if_pos (.inr (.inl h1))]; exact bad _ (by simpa using h1)
  have hr := rd_byte hb a
  refine Ev.step (fun k => spec_GetText.j0.eq_2 _ _ _ k) (Ev.neg (by simpa using h1) (Ev.pos (by omega) (Ev.pos (by omega) ?_)))
  rw [w64_byte hb, w64 (n := (l.length : Int) - a) (by omega) (by omega), w64 (n := (l.length : Int) - a - 1) (by omega) (by omega)]
  by_cases h2 : (l.length : Int) - a - 1 < rd l a
  · rw [if_pos (.inr (.inr h2))]; exact Ev.pos h2 (Ev.done rfl)
  rw [if_neg (by omega), w64 (n := a + 1) (by omega) (by omega), w64 (n := a + 1 + rd l a) (by omega) (by omega)]
  refine Ev.neg h2 (Ev.pos (by omega) (Ev.pos (by omega) (Ev.pos (by omega) (Ev.bind (spec_textOk (textAt l a) (textAt_size l a hl)) ?_))))
  by_cases h3 : textOk (textAt l a) = true
  · exact Ev.pos h3 (Ev.done (if_pos h3).symm)
  · exact Ev.neg h3 (Ev.done (if_neg h3).symm)
theorem impl_getText (l : List Int) (a : Int) (hb : Bytes l) (hl : l.length ≤ 140737488351232) : Ev (fun k => impl_GetText.f k l a) (getText l a) := by
  unfold impl_GetText.f getText
  have bad : ∀ b : Bool, b = true → Ev (fun k => impl_GetText.j0 k l a b) noText := fun b hb => Ev.step (fun k => impl_GetText.j0.eq_2 _ _ _ k) (Ev.pos hb (Ev.done rfl))
  rw [isIn, w64 (n := (l.length : Int) - 1) (by omega) (by omega)]
  by_cases h0 : a < 0 ∨ (l.length : Int) ≤ a
  · rw [if_pos (by omega)]
    exact Ev.neg (by simp; omega) (bad _ rfl)
  have hr := rd_byte hb a
  refine Ev.pos (by simp; omega) (Ev.pos (by omega) (Ev.pos (by omega) ?_))
  rw [w64_byte hb, w64 (n := (l.length : Int) - a) (by omega) (by omega), w64 (n := (l.length : Int) - a - 1) (by omega) (by omega)]
  by_cases h2 : (l.length : Int) - a - 1 < rd l a
  · rw [if_pos (.inr (.inr h2))]; exact bad _ (by simpa using h2)
  rw [if_neg (by omega)]
  refine Ev.step (fun k => impl_GetText.j0.eq_2 _ _ _ k) (Ev.neg (by simpa using h2) (Ev.pos (by omega) (Ev.pos (by omega) ?_)))
  rw [w64_byte hb, w64 (n := a + 1) (by omega) (by omega), w64 (n := a + 1 + rd l a) (by omega) (by omega)]
  refine Ev.pos (by omega) (Ev.pos (by omega) (Ev.pos (by omega) (Ev.bind (impl_textOk (textAt l a) (textAt_size l a hl)) ?_)))
  by_cases h3 : textOk (textAt l a) = true
  · exact Ev.pos h3 (Ev.done (if_pos h3).symm)
  · exact Ev.neg h3 (Ev.done (if_neg h3).symm)
end Go.Proofs.YthkepmicdpgbbaaGreatDoor.Fn

/- What the printed functions that read a record come to. -/
namespace Go.Proofs.YthkepmicdpgbbaaGreatDoor.Fn
set_option linter.unusedVariables false
set_option linter.unusedSimpArgs false
open Go.RowKit Go.Proofs.YthkepmicdpgbbaaGreatDoorW.PrintWords Go.Proofs.YthkepmicdpgbbaaGreatDoor.P Go.Proofs.YthkepmicdpgbbaaGreatDoor.Base

theorem sameBytes' {l m : List Int} (hl : Bytes l) (hm : Bytes m) : ((strOfNums l).toList == (strOfNums m).toList) = eqB l m := by
  rw [Bool.eq_iff_iff, beq_iff_eq, eqB_iff, strOfNums_inj hl hm]
noncomputable def recAt (l : List Int) : List Int := putRec (word l 0).1 (word l 2).1 (rd l 4) (word l 5).1 (rd l 7) (getText l 8).1
def IsRec (l : List Int) : Prop := 9 ≤ l.length ∧ recAt l = l
noncomputable def getRec (l : List Int) : Int × Int × Int × Int × Int × ByteArray × Bool :=
  @ite _ (IsRec l) (Classical.propDecidable _) ((word l 0).1, (word l 2).1, rd l 4, (word l 5).1, rd l 7, (getText l 8).1, true) (0, 0, 0, 0, 0, ⟨#[]⟩, false)
theorem getRec_yes {l : List Int} (h : IsRec l) : getRec l = ((word l 0).1, (word l 2).1, rd l 4, (word l 5).1, rd l 7, (getText l 8).1, true) := if_pos h
theorem getRec_no {l : List Int} (h : ¬ IsRec l) : getRec l = (0, 0, 0, 0, 0, ⟨#[]⟩, false) := if_neg h
theorem getText_short (l : List Int) (a : Int) : (getText l a).1.size ≤ 100 := by
  unfold getText
  split
  · decide
  · split
    · rename_i h; exact textOk_size h
    · decide
theorem getText_ok (l : List Int) (a : Int) : textOk (getText l a).1 = true := by
  unfold getText
  have he : textOk (⟨#[]⟩ : ByteArray) = true := by
    rw [textOk_iff]
    exact ⟨by decide, fun i hi => absurd hi (Nat.not_lt_zero _)⟩
  split
  · exact he
  · split
    · rename_i h; exact h
    · exact he
/-- What is a record is told so by the reference, too. -/
theorem isRec_more {l : List Int} (hb : Bytes l) (h : IsRec l) : 11 ≤ l.length ∧ recOk (rd l 4) (word l 5).1 (rd l 7) (getText l 8).1 = true ∧ (getText l 8).2.2 = true := by
  obtain ⟨h9, he⟩ := h
  by_cases hc : recOk (rd l 4) (word l 5).1 (rd l 7) (getText l 8).1 = true ∧ wordIn (word l 0).1 ∧ wordIn (word l 2).1
  case neg =>
    unfold recAt at he
    rw [putRec_no hc] at he
    rw [← he] at h9
    simp at h9
  have hput : recAt l = (recHead (word l 0).1 (word l 2).1 (rd l 4) (word l 5).1 (rd l 7) ++ [((getText l 8).1.size : Int)] ++ bytesOf (getText l 8).1) ++ wordBytes (crc (recBody (word l 0).1 (word l 2).1 (rd l 4) (word l 5).1 (rd l 7) (getText l 8).1)) := by
    unfold recAt
    rw [putRec_yes hc, recBody, putText, if_pos (getText_ok l 8)]
  have hlen : l.length = 8 + 1 + (getText l 8).1.size + 2 := by
    conv => lhs; rw [← he, hput]
    simp only [List.length_append, recHead_length, bytesOf_length, wordBytes_length, List.length_singleton]
  have h8 : rd l 8 = ((getText l 8).1.size : Int) := by
    rw [show (8 : Int) = ((8 : Nat) : Int) from rfl, rd_getElem (by omega)]
    have e : l[8]? = some ((getText l 8).1.size : Int) := by
      conv => lhs; rw [← he, hput]
      rw [List.append_assoc, List.append_assoc, List.getElem?_append_right (by rw [recHead_length]; omega), recHead_length]
      rfl
    rw [List.getElem?_eq_getElem (by omega)] at e
    exact Option.some.inj e
  refine ⟨by omega, hc.1, ?_⟩
  unfold getText
  rw [if_neg (by rw [h8]; omega)]
  by_cases ht : textOk (textAt l 8) = true
  · rw [if_pos ht]
  · exfalso
    have hz : (getText l 8).1.size = 0 := by
      unfold getText
      rw [if_neg (by rw [h8]; omega), if_neg ht]
      rfl
    have hr : rd l 8 = 0 := by rw [h8, hz]; rfl
    apply ht
    have e : (textAt l 8).size = 0 := by
      unfold textAt
      rw [size_strOfNums, hr, List.length_drop, List.length_take]
      omega
    rw [textOk_iff]
    exact ⟨by omega, fun i hi => absurd hi (by omega)⟩
theorem impl_getRec (l : List Int) (hb : Bytes l) (hl : l.length ≤ 140737488351232) : Ev (fun k => impl_GetRec.f k l) (getRec l) := by
  unfold impl_GetRec.f
  by_cases h9 : (l.length : Int) < 9
  · rw [getRec_no (fun h => by have := h.1; omega)]; exact Ev.pos h9 (Ev.done rfl)
  have hs := getText_short l 8
  refine Ev.neg h9 (Ev.then (impl_getWord l 0 hb hl) (Ev.then (impl_getWord l 2 hb hl) (Ev.then (impl_getWord l 5 hb hl) (Ev.bind (impl_getText l 8 hb hl) (Ev.pos (by omega) (Ev.pos (by omega) ?_))))))
  rw [w64_byte hb, w64_byte hb]
  refine Ev.bind (impl_putRec _ _ _ _ _ _ (by omega)) ?_
  unfold bytes_Equal.f
  rw [sameBytes' (putRec_bytes _ _ _ _ _ _) hb]
  by_cases h : recAt l = l
  · rw [getRec_yes ⟨by omega, h⟩]
    exact Ev.then rfl (Ev.pos (eqB_iff.2 h) (Ev.done rfl))
  · rw [getRec_no (fun e => h e.2)]
    have hn : ¬ (putRec (word l 0).1 (word l 2).1 (rd l 4) (word l 5).1 (rd l 7) (getText l 8).1 = l) := h
    exact Ev.then rfl (Ev.neg (by rw [eqB_not hn]; decide) (Ev.done rfl))
theorem spec_getRec (l : List Int) (hb : Bytes l) (hl : l.length ≤ 140737488351232) : Ev (fun k => spec_GetRec.f k l) (getRec l) := by
  unfold spec_GetRec.f
  by_cases h11 : (l.length : Int) < 11
  · rw [getRec_no (fun h => by have := (isRec_more hb h).1; omega)]; exact Ev.pos h11 (Ev.done rfl)
  have hs := getText_short l 8
  refine Ev.neg h11 (Ev.then (spec_getWord l 0 hb hl) (Ev.then (spec_getWord l 2 hb hl) (Ev.then (spec_getWord l 5 hb hl) (Ev.bind (spec_getText l 8 hb hl) (Ev.pos (by omega) (Ev.pos (by omega) ?_))))))
  rw [w64_byte hb, w64_byte hb]
  by_cases ht : (getText l 8).2.2 = true
  case neg => rw [getRec_no (fun h => ht (isRec_more hb h).2.2)]; exact Ev.neg ht (Ev.done rfl)
  refine Ev.pos ht (Ev.bind (spec_recOk _ _ _ _ (by omega)) ?_)
  by_cases hr : recOk (rd l 4) (word l 5).1 (rd l 7) (getText l 8).1 = true
  case neg => rw [getRec_no (fun h => hr (isRec_more hb h).2.1)]; exact Ev.neg hr (Ev.done rfl)
  refine Ev.pos hr (Ev.bind (spec_putRec _ _ _ _ _ _ (by omega)) ?_)
  unfold spec_l1Same.f
  rw [sameBytes' (putRec_bytes _ _ _ _ _ _) hb]
  by_cases h : recAt l = l
  · rw [getRec_yes ⟨by omega, h⟩]
    exact Ev.then rfl (Ev.pos (eqB_iff.2 h) (Ev.done rfl))
  · rw [getRec_no (fun e => h e.2)]
    have hn : ¬ (putRec (word l 0).1 (word l 2).1 (rd l 4) (word l 5).1 (rd l 7) (getText l 8).1 = l) := h
    exact Ev.then rfl (Ev.neg (by rw [eqB_not hn]; decide) (Ev.done rfl))
end Go.Proofs.YthkepmicdpgbbaaGreatDoor.Fn

/- What the printed functions that draw come to: whatever they draw, it lies in its range. No memory is in sight here. -/
namespace Go.Proofs.YthkepmicdpgbbaaGreatDoor.Fn
set_option linter.unusedVariables false
set_option linter.unusedSimpArgs false
open Go.RowKit Go.Proofs.YthkepmicdpgbbaaGreatDoorW.PrintWords Go.Proofs.YthkepmicdpgbbaaGreatDoor.P Go.Proofs.YthkepmicdpgbbaaGreatDoor.Base

/-- A cursor over the bytes l, at place i. -/
def Cur (l : List Int) (i : Int) : Prop := 0 ≤ i ∧ i ≤ l.length ∧ l.length ≤ 140737488351232
theorem and_range (x : Int) (m : Nat) (hm : m < 2 ^ 63) : 0 ≤ Go.bits .and .i64 x m ∧ Go.bits .and .i64 x m ≤ m := by
  have hk : IntKind.i64.bits = 64 := rfl
  have hm' : m % 2 ^ IntKind.i64.bits = m := Nat.mod_eq_of_lt (by rw [hk]; omega)
  have hle : (BitVec.ofInt IntKind.i64.bits x).toNat &&& m ≤ m := Nat.and_le_right
  simp only [Go.bits, BitVec.ofInt_natCast, BitVec.toNat_and, BitVec.toNat_ofNat, hm']
  rw [wraps_i64 _ (by omega) (by omega)]
  omega
theorem and255 (x : Int) : 0 ≤ Go.bits .and .i64 x 255 ∧ Go.bits .and .i64 x 255 ≤ 255 := and_range x 255 (by decide)
theorem l1New_l0 (l : List Int) (hl : l.length ≤ 140737488351232) (d : Nat) : ∀ (i : Nat) (h : Int), i + d = l.length → ∃ h', Ev (fun k => spec_l1New.l0 k l h (i : Int)) (l, 0, h') := by
  induction d with
  | zero =>
    intro i h hi
    exact ⟨h, Ev.step (fun k => spec_l1New.l0.eq_2 _ _ _ k) (Ev.neg (by omega) (Ev.done rfl))⟩
  | succ d ih =>
    intro i h hi
    by_cases h4 : (i : Int) < 4000
    · obtain ⟨h', hh⟩ := ih (i + 1) (Go.bits .and .i64 (wrap64 ((wrap64 ((wrap64 (h * 137)) + (wrap64 (rd l i)))) + 11)) 1073741823) (by omega)
      refine ⟨h', Ev.step (fun k => spec_l1New.l0.eq_2 _ _ _ k) (Ev.pos (by omega) (Ev.pos h4 (Ev.pos (by omega) ?_)))⟩
      rw [w64 (n := (i : Int) + 1) (by omega) (by omega), cast_succ]
      exact hh
    · exact ⟨h, Ev.step (fun k => spec_l1New.l0.eq_2 _ _ _ k) (Ev.pos (by omega) (Ev.neg h4 (Ev.done rfl)))⟩
theorem l1New (l : List Int) (hl : l.length ≤ 140737488351232) : ∃ h, Ev (fun k => spec_l1New.f k l) (l, 0, h) := by
  unfold spec_l1New.f
  exact l1New_l0 l hl l.length 0 _ (by omega)
theorem Cur.zero {l : List Int} (hl : l.length ≤ 140737488351232) : Cur l 0 := ⟨by omega, by omega, hl⟩
theorem l1Byte {l : List Int} {i : Int} (hc : Cur l i) (h : Int) : ∃ r i' h', spec_l1Byte.f l i h = some (r, i', h') ∧ 0 ≤ r ∧ r ≤ 255 ∧ Cur l i' := by
  obtain ⟨h0, h1, h2⟩ := hc
  unfold spec_l1Byte.f
  by_cases hi : i < (l.length : Int)
  · rw [if_pos hi, if_pos h0, w64 (n := i + 1) (by omega) (by omega)]
    exact ⟨_, _, _, rfl, (and255 _).1, (and255 _).2, by omega, by omega, h2⟩
  · rw [if_neg hi]
    exact ⟨_, _, _, rfl, (and255 _).1, (and255 _).2, h0, h1, h2⟩
theorem tmod_range {x n : Int} (hx : 0 ≤ x) (hn : 0 < n) : 0 ≤ Int.tmod x n ∧ Int.tmod x n < n := by
  rw [Int.tmod_eq_emod_of_nonneg hx]
  exact ⟨Int.emod_nonneg _ (by omega), Int.emod_lt_of_pos _ hn⟩
theorem l1Below {l : List Int} {i : Int} (hc : Cur l i) (h n : Int) : ∃ r i' h', spec_l1Below.f l i h n = some (r, i', h') ∧ 0 ≤ r ∧ (0 < n → r < n) ∧ (n ≤ 0 → r = 0) ∧ Cur l i' := by
  unfold spec_l1Below.f
  by_cases h0 : n ≤ 0
  · rw [if_pos h0]; exact ⟨0, i, h, rfl, by omega, by omega, fun _ => rfl, hc⟩
  rw [if_neg h0]
  by_cases h1 : n ≤ 256
  · rw [if_pos h1]
    obtain ⟨r, i1, h1', e1, r0, r1, hc1⟩ := l1Byte hc h
    rw [e1]
    simp only [Option.bind_some]
    rw [if_neg (by omega)]
    have := tmod_range r0 (show 0 < n by omega)
    exact ⟨_, _, _, rfl, this.1, fun _ => this.2, by omega, hc1⟩
  · rw [if_neg h1]
    obtain ⟨x, i1, h1', e1, x0, x1, hc1⟩ := l1Byte hc h
    obtain ⟨y, i2, h2', e2, y0, y1, hc2⟩ := l1Byte hc1 h1'
    obtain ⟨z, i3, h3', e3, z0, z1, hc3⟩ := l1Byte hc2 h2'
    simp only [e1, e2, e3, Option.bind_some]
    rw [if_neg (by omega), w64 (n := x * 65536) (by omega) (by omega), w64 (n := y * 256) (by omega) (by omega), w64 (n := x * 65536 + y * 256) (by omega) (by omega), w64 (by omega) (by omega)]
    have := tmod_range (show 0 ≤ x * 65536 + y * 256 + z by omega) (show 0 < n by omega)
    exact ⟨_, _, _, rfl, this.1, fun _ => this.2, by omega, hc3⟩
theorem big (l : List Int) : laws_big.f l = some (decide ((l.length : Int) > 1048576)) := rfl
theorem at_ (l : List Int) (hb : Bytes l) (hl : l.length ≤ 1048576) (i : Int) (h0 : 0 ≤ i) (h1 : i ≤ 100) : ∃ r, laws_at.f l i = some r ∧ 0 ≤ r ∧ r ≤ 255 := by
  unfold laws_at.f
  by_cases h : i < (l.length : Int)
  · rw [if_pos h, if_pos h0, w64_byte hb]
    have := rd_byte hb i
    exact ⟨_, rfl, this⟩
  · rw [if_neg h, w64 (n := i * 31) (by omega) (by omega), w64 (n := (l.length : Int) * 7) (by omega) (by omega), w64 (by omega) (by omega)]
    have := tmod_range (x := i * 31 + (l.length : Int) * 7) (n := 256) (by omega) (by omega)
    exact ⟨_, rfl, this.1, by omega⟩
theorem xor_u8 {a b : Int} (ha : 0 ≤ a ∧ a ≤ 255) (hb : 0 ≤ b ∧ b ≤ 255) : Go.bits .xor .u8 a b = ((a.toNat ^^^ b.toNat : Nat) : Int) ∧ a.toNat ^^^ b.toNat < 256 := by
  obtain ⟨x, rfl⟩ := Int.eq_ofNat_of_zero_le ha.1
  obtain ⟨y, rfl⟩ := Int.eq_ofNat_of_zero_le hb.1
  have hk : IntKind.u8.bits = 8 := rfl
  have hx : x % 2 ^ IntKind.u8.bits = x := Nat.mod_eq_of_lt (by rw [hk]; omega)
  have hy : y % 2 ^ IntKind.u8.bits = y := Nat.mod_eq_of_lt (by rw [hk]; omega)
  have hc : x ^^^ y < 2 ^ 8 := Nat.xor_lt_two_pow (by omega) (by omega)
  refine ⟨?_, by simpa using hc⟩
  simp only [Go.bits, BitVec.ofInt_natCast, BitVec.toNat_xor, BitVec.toNat_ofNat, hx, hy, IntKind.wrap_u8, Int.toNat_natCast]
  omega
/-- A byte of b, if it has one, is turned. -/
def Turned (b x : List Int) : Prop := b = [] ∧ x = [] ∨ ∃ (i : Nat) (hi : i < b.length) (y : Int), x = b.set i y ∧ 0 ≤ y ∧ y ≤ 255 ∧ y ≠ b[i]
theorem bent (l b : List Int) (hb : Bytes l) (hl : l.length ≤ 1048576) (hB : Bytes b) (hlb : b.length ≤ 140737488351232) : ∃ x, laws_bent.f l b = some x ∧ Turned b x := by
  unfold laws_bent.f
  simp only [Option.bind_some, List.nil_append, List.length_nil, Nat.zero_add]
  rw [if_pos (by omega)]
  by_cases h : (b.length : Int) > 0
  · rw [if_pos h]
    obtain ⟨t2, e2, a2, b2⟩ := at_ l hb hl 2 (by omega) (by omega)
    obtain ⟨t3, e3, a3, b3⟩ := at_ l hb hl 3 (by omega) (by omega)
    obtain ⟨t4, e4, a4, b4⟩ := at_ l hb hl 4 (by omega) (by omega)
    simp only [e2, e3, e4, Option.bind_some]
    rw [if_neg (by omega), w64 (n := t2 * 256) (by omega) (by omega), w64 (n := t2 * 256 + t3) (by omega) (by omega)]
    have hi := tmod_range (x := t2 * 256 + t3) (by omega) h
    have ht := tmod_range (x := t4) (n := 255) (by omega) (by omega)
    rw [if_pos hi.1, if_pos hi.2, w64 (n := 1 + Int.tmod t4 255) (by omega) (by omega), Int.emod_eq_of_lt (a := 1 + Int.tmod t4 255) (by omega) (by omega)]
    obtain ⟨i, hi'⟩ := Int.eq_ofNat_of_zero_le hi.1
    rw [hi'] at hi ⊢
    have hr := rd_byte hB (i : Int)
    have hx := xor_u8 hr (show 0 ≤ 1 + Int.tmod t4 255 ∧ 1 + Int.tmod t4 255 ≤ 255 by omega)
    refine ⟨_, rfl, .inr ⟨i, by omega, _, by rw [Int.toNat_natCast], by rw [hx.1]; omega, by rw [hx.1]; omega, ?_⟩⟩
    rw [hx.1, ← rd_getElem (by omega)]
    intro he
    have h2 : (rd b (i : Int)).toNat ^^^ (1 + Int.tmod t4 255).toNat = (rd b (i : Int)).toNat ^^^ 0 := by rw [Nat.xor_zero]; omega
    have := Crc.xor_cancel h2
    omega
  · rw [if_neg h]
    have : b = [] := List.eq_nil_of_length_eq_zero (by omega)
    exact ⟨b, rfl, .inl ⟨this, this⟩⟩
theorem Turned.bytes {b x : List Int} (h : Turned b x) (hb : Bytes b) : Bytes x := by
  rcases h with ⟨rfl, rfl⟩ | ⟨i, hi, y, rfl, h0, h1, _⟩
  · exact hb
  · intro z hz
    rcases List.mem_or_eq_of_mem_set hz with hz | rfl
    · exact hb z hz
    · exact ⟨h0, h1⟩
theorem Turned.length {b x : List Int} (h : Turned b x) : x.length = b.length := by
  rcases h with ⟨rfl, rfl⟩ | ⟨i, hi, y, rfl, _⟩
  · rfl
  · rw [List.length_set]
theorem Turned.crc {b x : List Int} (h : Turned b x) (hb : Bytes b) (h0 : 0 < b.length) : crc x ≠ crc b := by
  rcases h with ⟨rfl, rfl⟩ | ⟨i, hi, y, rfl, h1, _, h3⟩
  · simp at h0
  · intro he
    unfold Fn.crc at he
    have hx := hb _ (List.getElem_mem hi)
    exact Crc.sum_set b 65535 i hi y h1 hx.1 h3 (by exact_mod_cast he)
theorem l1Once {l : List Int} {i : Int} (hc : Cur l i) (h n : Int) : ∃ r i' h', spec_l1Once.f l i h n = some (r, i', h') ∧ Cur l i' := by
  unfold spec_l1Once.f
  obtain ⟨r, i1, h1, e1, _, _, _, hc1⟩ := l1Below hc h n
  rw [e1]
  exact ⟨_, _, _, rfl, hc1⟩
theorem l1Str {l : List Int} {i : Int} (hc : Cur l i) (h : Int) (L : List ByteArray) (h0 : L ≠ []) : ∃ r i' h', spec_l1Str.f l i h L = some (r, i', h') ∧ r ∈ L ∧ Cur l i' := by
  unfold spec_l1Str.f
  obtain ⟨r, i1, h1, e1, r0, r1, _, hc1⟩ := l1Below hc h L.length
  have hl : 0 < L.length := List.length_pos_iff.2 h0
  have hr := r1 (by omega)
  rw [e1]
  simp only [Option.bind_some]
  rw [if_pos r0, if_pos hr]
  refine ⟨_, _, _, rfl, ?_, hc1⟩
  unfold rdOf
  rw [List.getD_eq_getElem?_getD, List.getElem?_eq_getElem (by omega)]
  exact List.getElem_mem _
theorem l1Int {l : List Int} {i : Int} (hc : Cur l i) (h : Int) (L : List Int) (h0 : L ≠ []) : ∃ r i' h', spec_l1Int.f l i h L = some (r, i', h') ∧ Cur l i' := by
  unfold spec_l1Int.f
  obtain ⟨r, i1, h1, e1, r0, r1, _, hc1⟩ := l1Below hc h L.length
  have hl : 0 < L.length := List.length_pos_iff.2 h0
  have hr := r1 (by omega)
  rw [e1]
  simp only [Option.bind_some]
  rw [if_pos r0, if_pos hr]
  exact ⟨_, _, _, rfl, hc1⟩
end Go.Proofs.YthkepmicdpgbbaaGreatDoor.Fn

/- What the printed functions that draw frames come to: bytes, and not many. -/
namespace Go.Proofs.YthkepmicdpgbbaaGreatDoor.Fn
set_option linter.unusedVariables false
set_option linter.unusedSimpArgs false
open Go.RowKit Go.Proofs.YthkepmicdpgbbaaGreatDoorW.PrintWords Go.Proofs.YthkepmicdpgbbaaGreatDoor.P Go.Proofs.YthkepmicdpgbbaaGreatDoor.Base

theorem l1Bend {l : List Int} {i : Int} (hc : Cur l i) (h : Int) (b : List Int) (hb : Bytes b) (hl : b.length ≤ 1048576) : ∃ r i' h', spec_l1Bend.f l i h b = some (r, i', h') ∧ Bytes r ∧ r.length ≤ b.length + 1 ∧ Cur l i' := by
  unfold spec_l1Bend.f
  obtain ⟨q, i1, h1, e1, q0, q1, _, hc1⟩ := l1Below hc h 8
  simp only [Option.bind_some, List.nil_append, List.length_nil]
  rw [if_pos (by omega), e1, Option.bind_some]
  dsimp only
  by_cases k0 : q = 0
  · rw [if_pos k0]
    by_cases hp : (b.length : Int) > 0
    · rw [if_pos hp]
      obtain ⟨r, i2, h2, e2, r0, r1, _, hc2⟩ := l1Below hc1 h1 b.length
      obtain ⟨z, i3, h3, e3, z0, z1, _, hc3⟩ := l1Below hc2 h2 255
      have hr := r1 hp
      have hz := z1 (by omega)
      rw [e2]
      simp only [Option.bind_some]
      rw [if_pos r0, if_pos hr, e3]
      simp only [Option.bind_some]
      refine ⟨_, _, _, rfl, ?_, by rw [List.length_set]; (try dsimp only); omega, hc3⟩
      intro x hx
      rcases List.mem_or_eq_of_mem_set hx with hx | rfl
      · exact hb x hx
      · rw [w64 (n := 1 + z) (by omega) (by omega)]
        obtain ⟨h1, h2⟩ := xor_u8 (rd_byte hb r) (show 0 ≤ (1 + z) % 256 ∧ (1 + z) % 256 ≤ 255 by omega)
        rw [h1]
        omega
    · rw [if_neg hp]
      exact ⟨_, _, _, rfl, hb, by omega, hc1⟩
  rw [if_neg k0]
  by_cases k1 : q = 1
  · rw [if_pos k1]
    by_cases hp : (b.length : Int) > 0
    · rw [if_pos hp]
      obtain ⟨r, i2, h2, e2, r0, r1, _, hc2⟩ := l1Below hc1 h1 b.length
      have hr := r1 hp
      rw [e2]
      simp only [Option.bind_some]
      rw [if_pos r0, if_pos (by omega)]
      exact ⟨_, _, _, rfl, hb.take _, by rw [List.length_take]; omega, hc2⟩
    · rw [if_neg hp]
      exact ⟨_, _, _, rfl, hb, by omega, hc1⟩
  rw [if_neg k1]
  by_cases k2 : q = 2
  · rw [if_pos k2]
    obtain ⟨r, i2, h2, e2, r0, r1, hc2⟩ := l1Byte hc1 h1
    rw [e2]
    simp only [Option.bind_some]
    rw [if_pos (by omega)]
    exact ⟨_, _, _, rfl, hb.append (Bytes.cons (by omega) Bytes.nil), by simp, hc2⟩
  · rw [if_neg k2]
    exact ⟨_, _, _, rfl, hb, by omega, hc1⟩
end Go.Proofs.YthkepmicdpgbbaaGreatDoor.Fn

/- What the functions that draw configurations and records come to: whatever they draw is right. No memory is in sight here. -/
namespace Go.Proofs.YthkepmicdpgbbaaGreatDoor.Fn
set_option linter.unusedVariables false
set_option linter.unusedSimpArgs false
open Go.RowKit Go.Proofs.YthkepmicdpgbbaaGreatDoorW.PrintWords Go.Proofs.YthkepmicdpgbbaaGreatDoor.P Go.Proofs.YthkepmicdpgbbaaGreatDoor.Base

theorem l1IntM {l : List Int} {i : Int} (hc : Cur l i) (h : Int) (L : List Int) (h0 : L ≠ []) : ∃ r i' h', spec_l1Int.f l i h L = some (r, i', h') ∧ r ∈ L ∧ Cur l i' := by
  unfold spec_l1Int.f
  obtain ⟨r, i1, h1, e1, r0, r1, _, hc1⟩ := l1Below hc h L.length
  have hl : 0 < L.length := List.length_pos_iff.2 h0
  have hr := r1 (by omega)
  rw [e1]
  simp only [Option.bind_some]
  rw [if_pos r0, if_pos hr]
  refine ⟨_, _, _, rfl, ?_, hc1⟩
  unfold rd
  rw [List.getD_eq_getElem?_getD, List.getElem?_eq_getElem (by omega)]
  exact List.getElem_mem _
theorem emptyT_nil : emptyT (⟨#[]⟩ : ByteArray) = true := by
  have : (⟨#[]⟩ : ByteArray).toList = [] := by unfold ByteArray.toList; unfold ByteArray.toList.loop; rfl
  unfold emptyT
  rw [this]
  rfl
abbrev Apart (L : List Db) : Prop := L.Pairwise fun a b => a.f0.toList ≠ b.f0.toList
theorem noneAt_mk (l : List Db) (name : ByteArray) (e : Nat) : ∀ (j : Nat), (∀ q, j ≤ q → q < j + e → (rd_T138 l (q : Int)).f0.toList ≠ name.toList) → noneAt l name j e = true := by
  induction e with
  | zero => intro j _; rfl
  | succ e ih =>
    intro j hj
    unfold noneAt
    rw [ih (j + 1) (fun q h1 h2 => hj q (by omega) (by omega))]
    have := hj j (Nat.le_refl _) (by omega)
    simpa using this
theorem confFrom_mk (l : List Db) (h0 : 1 ≤ l.length ∧ l.length ≤ 3) (hok : ∀ x ∈ l, dbOk x = true) (hap : Apart l) (d : Nat) : ∀ (i : Nat), i + d = l.length → confFrom l i d = true := by
  induction d with
  | zero =>
    intro i hi
    unfold confFrom
    rw [decide_eq_true_eq]
    omega
  | succ d ih =>
    intro i hi
    have he : rd_T138 l (i : Int) = l[i] := getD_nat l _ (by omega)
    unfold confFrom
    rw [he, hok _ (List.getElem_mem _), ih (i + 1) (by omega), noneAt_mk l _ i 0 (fun q h1 h2 => ?_)]
    · rfl
    · have hq : rd_T138 l (q : Int) = l[q] := getD_nat l _ (by omega)
      rw [hq]
      exact (List.pairwise_iff_getElem.1 hap) q i (by omega) (by omega) (by omega)
theorem l3One {l : List Int} {i : Int} (hc : Cur l i) (h : Int) : ∃ (x : Db) (i' h' : Int), spec_l3One.f l i h = some (x.f0, x.f1, x.f2, x.f3, x.f4, i', h') ∧ dbOk x = true ∧ Cur l i' := by
  unfold spec_l3One.f
  obtain ⟨s, i1, h1, e1, hs, hc1⟩ := l1Str hc h [(⟨#[109, 97, 105, 110]⟩ : ByteArray), (⟨#[109, 97, 105, 110]⟩ : ByteArray), (⟨#[108, 111, 103, 115]⟩ : ByteArray), (⟨#[120]⟩ : ByteArray)] (by simp)
  obtain ⟨a, i2, h2, e2, a0, a1, _, hc2⟩ := l1Below hc1 h1 3
  obtain ⟨b, i3, h3, e3, b0, b1, _, hc3⟩ := l1Below hc2 h2 5
  obtain ⟨c, i4, h4, e4, c0, hc4⟩ := l1IntM hc3 h3 [1, 2, 5, 20] (by simp)
  obtain ⟨d, i5, h5, e5, d0, hc5⟩ := l1IntM hc4 h4 [1, 3, 20] (by simp)
  have a2 := a1 (by omega)
  have b2 := b1 (by omega)
  refine ⟨⟨s, 1 + a, b, c, d⟩, i5, h5, ?_, ?_, hc5⟩
  · simp only [e1, e2, e3, e4, e5, Option.bind_some, w64 (n := 1 + a) (by omega) (by omega)]
  · have hn : nameOk s = true := by
      rw [nameOk_iff]
      simp only [List.mem_cons, List.not_mem_nil, or_false] at hs
      rcases hs with rfl | rfl | rfl | rfl <;> decide
    simp only [List.mem_cons, List.not_mem_nil, or_false] at c0 d0
    unfold dbOk
    rw [hn]
    simp only [Bool.true_and, Bool.and_eq_true, decide_eq_true_eq]
    omega
theorem l3Draw_l0 {l : List Int} (d : Nat) : ∀ (i h : Int) (L : List Db), Cur l i → L.length + d ≤ 3 → (∀ x ∈ L, dbOk x = true) → Apart L → (L = [] → 1 ≤ d) →
    ∃ L' i' h', Ev (fun k => spec_l3Draw.l0 k L (d : Int) l i h) (L', i', h') ∧ (1 ≤ L'.length ∧ L'.length ≤ 3) ∧ (∀ x ∈ L', dbOk x = true) ∧ Apart L' ∧ Cur l i' := by
  induction d with
  | zero =>
    intro i h L hc hL hok hap h0
    refine ⟨L, i, h, Ev.step (fun k => spec_l3Draw.l0.eq_2 _ _ _ _ _ k) (Ev.neg (by omega) (Ev.done rfl)), ⟨?_, by omega⟩, hok, hap, hc⟩
    cases L with
    | nil => have := h0 rfl; omega
    | cons _ _ => simp
  | succ d ih =>
    intro i h L hc hL hok hap h0
    obtain ⟨x, i1, h1, e1, hx, hc1⟩ := l3One hc h
    have hw : wrap64 (((d + 1 : Nat) : Int) - 1) = (d : Int) := by rw [w64 (by omega) (by omega)]; omega
    cases hf : dbAt L x.f0 with
    | some y =>
      obtain ⟨L', i', h', e, r⟩ := ih i1 h1 L hc1 (by omega) hok hap (fun hn => by subst hn; simp [dbAt] at hf)
      refine ⟨L', i', h', Ev.step (fun k => spec_l3Draw.l0.eq_2 _ _ _ _ _ k) (Ev.pos (by omega) (Ev.then e1 (Ev.bind (spec_dbAt L x.f0 (by omega)) ?_))), r⟩
      rw [hf, hw]
      exact Ev.pos rfl e
    | none =>
      have hne : ∀ y ∈ L, y.f0.toList ≠ x.f0.toList := fun y hy => by
        have := List.find?_eq_none.1 hf y hy
        simpa using this
      obtain ⟨L', i', h', e, r⟩ := ih i1 h1 (L ++ [x]) hc1 (by simp; omega) (fun y hy => by
        rcases List.mem_append.1 hy with hy | hy
        · exact hok y hy
        · rw [List.mem_singleton.1 hy]; exact hx) (List.pairwise_append.2 ⟨hap, List.pairwise_singleton _ _, fun a ha b hb => by rw [List.mem_singleton.1 hb]; exact hne a ha⟩) (fun hn => by simp at hn)
      refine ⟨L', i', h', Ev.step (fun k => spec_l3Draw.l0.eq_2 _ _ _ _ _ k) (Ev.pos (by omega) (Ev.then e1 (Ev.bind (spec_dbAt L x.f0 (by omega)) ?_))), r⟩
      rw [hf, hw]
      exact Ev.neg (by decide) (Ev.pos (by omega) e)
theorem l3Draw {l : List Int} {i : Int} (hc : Cur l i) (h : Int) : ∃ L i' h', Ev (fun k => spec_l3Draw.f k l i h) (L, i', h') ∧ confFrom L 0 L.length = true ∧ (∀ x ∈ L, dbOk x = true) ∧ (1 ≤ L.length ∧ L.length ≤ 3) ∧ Cur l i' := by
  unfold spec_l3Draw.f
  obtain ⟨a, i1, h1, e1, a0, a1, _, hc1⟩ := l1Below hc h 3
  have a2 := a1 (by omega)
  obtain ⟨L, i', h', e, hl, hok, hap, hc'⟩ := l3Draw_l0 (1 + a).toNat i1 h1 [] hc1 (by simp; omega) (fun x hx => by cases hx) List.Pairwise.nil (fun _ => by omega)
  refine ⟨L, i', h', Ev.then e1 ?_, confFrom_mk L hl hok hap L.length 0 (by omega), hok, hl, hc'⟩
  rw [w64 (n := 1 + a) (by omega) (by omega)]
  rwa [Int.toNat_of_nonneg (by omega)] at e
theorem db_short {L : List Db} (hok : ∀ x ∈ L, dbOk x = true) : ∀ x ∈ L, x.f0.size ≤ 9223372036854775807 := fun x hx => by
  have := (dbOk_of (hok x hx)).1
  omega
theorem l3Text {l : List Int} {i : Int} (hc : Cur l i) (h : Int) : ∃ s i' h', Ev (fun k => spec_l3Text.f k l i h) (s, i', h') ∧ s.size ≤ 100 ∧ Cur l i' := by
  unfold spec_l3Text.f
  obtain ⟨o, i1, h1, e1, hc1⟩ := l1Once hc h 3
  cases o
  · obtain ⟨L, i2, h2, e2, hL, hok, hl, hc2⟩ := l3Draw hc1 h1
    exact ⟨_, i2, h2, Ev.then e1 (Ev.neg (by simp) (Ev.bind e2 (Ev.bind (spec_confText L (by omega) (db_short hok)) (Ev.done rfl)))), (confText_size hL).2, hc2⟩
  · obtain ⟨s, i2, h2, e2, hs, hc2⟩ := l1Str hc1 h1 [(⟨#[]⟩ : ByteArray), (⟨#[109, 97, 105, 110]⟩ : ByteArray), (⟨#[109, 97, 105, 110, 58, 49]⟩ : ByteArray), (⟨#[109, 97, 105, 110, 58, 49, 47, 50, 47, 51]⟩ : ByteArray), (⟨#[109, 97, 105, 110, 58, 48, 49, 47, 50, 47, 51, 47, 52]⟩ : ByteArray), (⟨#[109, 97, 105, 110, 58, 49, 47, 50, 47, 51, 47, 52, 59]⟩ : ByteArray), (⟨#[59, 109, 97, 105, 110, 58, 49, 47, 50, 47, 51, 47, 52]⟩ : ByteArray), (⟨#[109, 97, 105, 110, 58, 49, 47, 50, 47, 51, 47, 52, 59, 109, 97, 105, 110, 58, 49, 47, 49, 47, 49, 47, 49]⟩ : ByteArray), (⟨#[109, 97, 105, 110, 58, 49, 47, 50, 47, 51, 47, 52, 47, 53]⟩ : ByteArray), (⟨#[109, 97, 105, 110, 58, 52, 47, 50, 47, 51, 47, 52]⟩ : ByteArray), (⟨#[109, 97, 105, 110, 58, 49, 47, 53, 47, 51, 47, 52]⟩ : ByteArray), (⟨#[109, 97, 105, 110, 58, 49, 47, 50, 47, 48, 47, 52]⟩ : ByteArray), (⟨#[109, 97, 105, 110, 58, 49, 47, 50, 47, 51, 47, 49, 48, 48]⟩ : ByteArray), (⟨#[77, 97, 105, 110, 58, 49, 47, 50, 47, 51, 47, 52]⟩ : ByteArray), (⟨#[109, 97, 105, 110, 58, 49, 47, 50, 47, 51, 47, 52, 32]⟩ : ByteArray), (⟨#[58, 49, 47, 50, 47, 51, 47, 52]⟩ : ByteArray), (⟨#[97, 58, 49, 47, 48, 47, 49, 47, 49, 59, 98, 58, 49, 47, 48, 47, 49, 47, 49, 59, 99, 58, 49, 47, 48, 47, 49, 47, 49, 59, 100, 58, 49, 47, 48, 47, 49, 47, 49]⟩ : ByteArray), (⟨#[97, 58, 98, 58, 49, 47, 50, 47, 51, 47, 52]⟩ : ByteArray)] (by simp)
    refine ⟨s, i2, h2, Ev.then e1 (Ev.pos rfl (Ev.then e2 (Ev.done rfl))), ?_, hc2⟩
    simp only [List.mem_cons, List.not_mem_nil, or_false] at hs
    rcases hs with rfl | rfl | rfl | rfl | rfl | rfl | rfl | rfl | rfl | rfl | rfl | rfl | rfl | rfl | rfl | rfl | rfl | rfl <;> decide
theorem recOk_prep {n : Int} {L : List Db} (hn : 1 ≤ n ∧ n ≤ 60000) (hL : confFrom L 0 L.length = true) : recOk 1 n 0 (confText L) = true := by
  unfold recOk confB
  rw [decide_eq_true hn, parseConf_text hL]
  rfl
theorem l4Draw {l : List Int} {i : Int} (hc : Cur l i) (h : Int) : ∃ kind n owner text i' h', Ev (fun k => spec_l4Draw.f k l i h) (kind, n, owner, text, i', h') ∧ recOk kind n owner text = true ∧ (1 ≤ kind ∧ kind ≤ 3) ∧ (1 ≤ n ∧ n ≤ 6) ∧ (kind = 1 → ∃ L, confFrom L 0 L.length = true ∧ text = confText L) ∧ (kind ≠ 1 → text = ⟨#[]⟩) ∧ (kind ≠ 3 → owner = 0) ∧ (0 ≤ owner ∧ owner ≤ 1) ∧ text.size ≤ 100 ∧ Cur l i' := by
  unfold spec_l4Draw.f
  obtain ⟨a, i1, h1, e1, a0, a1, _, hc1⟩ := l1Below hc h 3
  obtain ⟨b, i2, h2, e2, b0, b1, _, hc2⟩ := l1Below hc1 h1 6
  have a2 := a1 (by omega)
  have b2 := b1 (by omega)
  have wa : wrap64 (1 + a) = 1 + a := w64 (by omega) (by omega)
  have wb : wrap64 (1 + b) = 1 + b := w64 (by omega) (by omega)
  by_cases hk : a = 0
  · subst hk
    obtain ⟨L, i3, h3, e3, hL, hok, hl, hc3⟩ := l3Draw hc2 h2
    refine ⟨1, 1 + b, 0, confText L, i3, h3, Ev.then e1 (Ev.then e2 ?_), recOk_prep (by omega) hL, by omega, by omega, fun _ => ⟨L, hL, rfl⟩, fun hx => absurd rfl hx, fun _ => rfl, by omega, (confText_size hL).2, hc3⟩
    simp only [wa, wb]
    exact Ev.pos (by omega) (Ev.bind e3 (Ev.bind (spec_confText L (by omega) (db_short hok)) (Ev.neg (by omega) (Ev.done (by simp)))))
  · have et : (⟨#[]⟩ : ByteArray).size ≤ 100 := by decide
    by_cases h3 : a = 2
    · subst h3
      obtain ⟨o, i3, h3, e3, o0, o1, _, hc3⟩ := l1Below hc2 h2 2
      have o2 := o1 (by omega)
      refine ⟨3, 1 + b, o, ⟨#[]⟩, i3, h3, Ev.then e1 (Ev.then e2 ?_), ?_, by omega, by omega, fun hx => by omega, fun _ => rfl, fun hx => absurd rfl hx, by omega, et, hc3⟩
      · simp only [wa, wb]
        exact Ev.neg (by omega) (Ev.pos (by omega) (Ev.then e3 (Ev.done (by simp))))
      · unfold recOk
        rw [decide_eq_true (by omega), emptyT_nil, decide_eq_true (show 0 ≤ o ∧ o ≤ 1 by omega)]
        rfl
    · obtain rfl : a = 1 := by omega
      refine ⟨2, 1 + b, 0, ⟨#[]⟩, i2, h2, Ev.then e1 (Ev.then e2 ?_), ?_, by omega, by omega, fun hx => by omega, fun _ => rfl, fun _ => rfl, by omega, et, hc2⟩
      · simp only [wa, wb]
        exact Ev.neg (by omega) (Ev.neg (by omega) (Ev.done (by simp)))
      · unfold recOk
        rw [decide_eq_true (by omega), emptyT_nil]
        rfl
theorem l4Any {l : List Int} {i : Int} (hc : Cur l i) (h : Int) : ∃ kind n owner text i' h', Ev (fun k => spec_l4Any.f k l i h) (kind, n, owner, text, i', h') ∧ text.size ≤ 100 ∧ Cur l i' := by
  unfold spec_l4Any.f
  obtain ⟨kind, n, owner, text, i1, h1, e1, _, _, _, _, _, _, _, ht, hc1⟩ := l4Draw hc h
  obtain ⟨a, i2, h2, e2, a0, a1, _, hc2⟩ := l1Below hc1 h1 12
  by_cases k0 : a = 0
  · obtain ⟨x, i3, h3, e3, hc3⟩ := l1Int hc2 h2 [0, 1, 2, 4] (by simp)
    exact ⟨x, n, owner, text, i3, h3, Ev.bind e1 (Ev.then e2 (Ev.pos k0 (Ev.then e3 (Ev.done rfl)))), ht, hc3⟩
  by_cases k1 : a = 1
  · obtain ⟨x, i3, h3, e3, hc3⟩ := l1Int hc2 h2 [0, 60000, 60001, (-1)] (by simp)
    exact ⟨kind, x, owner, text, i3, h3, Ev.bind e1 (Ev.then e2 (Ev.neg k0 (Ev.pos k1 (Ev.then e3 (Ev.done rfl))))), ht, hc3⟩
  by_cases k2 : a = 2
  · obtain ⟨x, i3, h3, e3, hc3⟩ := l1Int hc2 h2 [(-1), 1, 2] (by simp)
    exact ⟨kind, n, x, text, i3, h3, Ev.bind e1 (Ev.then e2 (Ev.neg k0 (Ev.neg k1 (Ev.pos k2 (Ev.then e3 (Ev.done rfl)))))), ht, hc3⟩
  by_cases k3 : a = 3
  · obtain ⟨x, i3, h3, e3, hx, hc3⟩ := l3Text hc2 h2
    exact ⟨kind, n, owner, x, i3, h3, Ev.bind e1 (Ev.then e2 (Ev.neg k0 (Ev.neg k1 (Ev.neg k2 (Ev.pos k3 (Ev.bind e3 (Ev.done rfl))))))), hx, hc3⟩
  · exact ⟨kind, n, owner, text, i2, h2, Ev.bind e1 (Ev.then e2 (Ev.neg k0 (Ev.neg k1 (Ev.neg k2 (Ev.neg k3 (Ev.done rfl)))))), ht, hc2⟩
theorem drawPutRec (l : List Int) (hl : l.length ≤ 140737488351232) : ∃ g p kind n owner text, Ev (fun k => spec_DrawPutRec.f k l) (g, p, kind, n, owner, text) ∧ text.size ≤ 100 := by
  unfold spec_DrawPutRec.f
  obtain ⟨h0, e0⟩ := l1New l hl
  obtain ⟨kind, n, owner, text, i1, h1, e1, ht, hc1⟩ := l4Any (Cur.zero hl) h0
  obtain ⟨g, i2, h2, e2, hc2⟩ := l1Int hc1 h1 [0, 1, 300, 65535, 65536, (-1)] (by simp)
  obtain ⟨p, i3, h3, e3, hc3⟩ := l1Int hc2 h2 [0, 1, 15, 65535, 65536, (-1)] (by simp)
  exact ⟨g, p, kind, n, owner, text, Ev.bind e0 (Ev.bind e1 (Ev.then e2 (Ev.then e3 (Ev.done rfl)))), ht⟩
theorem drawGetRec (l : List Int) (hl : l.length ≤ 140737488351232) : ∃ c, Ev (fun k => spec_DrawGetRec.f k l) c ∧ Bytes c ∧ c.length ≤ 200 := by
  unfold spec_DrawGetRec.f
  obtain ⟨h0, e0⟩ := l1New l hl
  obtain ⟨g, i1, h1, e1, g0, g1, _, hc1⟩ := l1Below (Cur.zero hl) h0 9
  obtain ⟨p, i2, h2, e2, p0, p1, _, hc2⟩ := l1Below hc1 h1 16
  obtain ⟨kind, n, owner, text, i3, h3, e3, _, _, _, _, _, _, _, ht, hc3⟩ := l4Draw hc2 h2
  obtain ⟨o, i4, h4, e4, hc4⟩ := l1Once hc3 h3 4
  have hb := putRec_bytes g p kind n owner text
  have hlen := putRec_length g p kind n owner text
  have ep := spec_putRec g p kind n owner text (by omega)
  have no : ∃ c, Ev (fun k => spec_DrawGetRec.j0 k (putRec g p kind n owner text) false l i4 h4) c ∧ Bytes c ∧ c.length ≤ 200 := by
    obtain ⟨c, i5, h5, e5, hcb, hcl, _⟩ := l1Bend hc4 h4 (putRec g p kind n owner text) hb (by omega)
    exact ⟨c, Ev.step (fun k => spec_DrawGetRec.j0.eq_2 _ _ _ _ _ k) (Ev.neg (by decide) (Ev.then e5 (Ev.done rfl))), hcb, by omega⟩
  have all : ∀ b : Bool, (b = true → 11 < (putRec g p kind n owner text).length) → ∃ c, Ev (fun k => spec_DrawGetRec.j0 k (putRec g p kind n owner text) b l i4 h4) c ∧ Bytes c ∧ c.length ≤ 200 := by
    intro b hbt
    cases b with
    | false => exact no
    | true =>
      have h11 := hbt rfl
      obtain ⟨q, i5, h5, e5, q0, q1, _, hc5⟩ := l1Below hc4 h4 4
      have q2 := q1 (by omega)
      obtain ⟨v, i6, h6, e6, v0, v1, _, hc6⟩ := l1Below hc5 h5 5
      generalize hB : putRec g p kind n owner text = B at *
      have w1 : wrap64 ((B.length : Int) - 2) = (B.length : Int) - 2 := w64 (by omega) (by omega)
      have w2 : wrap64 (4 + q) = 4 + q := w64 (by omega) (by omega)
      have hx : Bytes ((B.take ((B.length : Int) - 2).toNat).set (4 + q).toNat (v % 256)) := by
        intro x hx
        rcases List.mem_or_eq_of_mem_set hx with hx | rfl
        · exact hb x (List.mem_of_mem_take hx)
        · omega
      have hxl : ((B.take ((B.length : Int) - 2).toNat).set (4 + q).toNat (v % 256)).length = B.length - 2 := by
        rw [List.length_set, List.length_take]
        omega
      refine ⟨((B.take ((B.length : Int) - 2).toNat).set (4 + q).toNat (v % 256)) ++ wordBytes (crc ((B.take ((B.length : Int) - 2).toNat).set (4 + q).toNat (v % 256))), Ev.step (fun k => spec_DrawGetRec.j0.eq_2 _ _ _ _ _ k) (Ev.pos rfl (Ev.then rfl ?_)), hx.append (wordBytes_bytes _), by rw [List.length_append, hxl, wordBytes_length]; omega⟩
      rw [w1]
      refine Ev.pos (by omega) (Ev.pos (by omega) (Ev.then rfl (Ev.pos (by rw [List.length_take, List.length_nil]; omega) (Ev.then rfl ?_))))
      rw [List.nil_append]
      exact Ev.then e5 (Ev.then e6 (by
        simp only [w2]
        exact Ev.pos (by omega) (Ev.pos (by rw [List.length_take]; omega) (Ev.then rfl (Ev.bind (spec_sum _ hx (by rw [hxl]; omega)) (Ev.then (spec_putWord _ _ (by rw [hxl]; omega)) (Ev.done rfl)))))))
  cases o with
  | false =>
    obtain ⟨c, e5, hcb, hcl⟩ := no
    exact ⟨c, Ev.bind e0 (Ev.then e1 (Ev.then e2 (Ev.bind e3 (Ev.bind ep (Ev.then e4 (Ev.neg (by simp) e5)))))), hcb, hcl⟩
  | true =>
    obtain ⟨c, e5, hcb, hcl⟩ := all (decide (((putRec g p kind n owner text).length : Int) > 11)) (fun h => by rw [decide_eq_true_eq] at h; omega)
    exact ⟨c, Ev.bind e0 (Ev.then e1 (Ev.then e2 (Ev.bind e3 (Ev.bind ep (Ev.then e4 (Ev.pos rfl e5)))))), hcb, hcl⟩
end Go.Proofs.YthkepmicdpgbbaaGreatDoor.Fn

/- What the printed functions on heads come to. No memory is in sight here. -/
namespace Go.Proofs.YthkepmicdpgbbaaGreatDoor.Fn
set_option linter.unusedVariables false
set_option linter.unusedSimpArgs false
open Go.RowKit Go.Proofs.YthkepmicdpgbbaaGreatDoorW.PrintWords Go.Proofs.YthkepmicdpgbbaaGreatDoor.P Go.Proofs.YthkepmicdpgbbaaGreatDoor.Base

/-- Bytes, and the checksum behind them. -/
def summed (l : List Int) : List Int := l ++ wordBytes (crc l)
end Go.Proofs.YthkepmicdpgbbaaGreatDoor.Fn

/- A byte changed in what has its checksum behind it; and what the functions that draw heads come to. -/
namespace Go.Proofs.YthkepmicdpgbbaaGreatDoor.Fn
set_option linter.unusedVariables false
set_option linter.unusedSimpArgs false
open Go.RowKit Go.Proofs.YthkepmicdpgbbaaGreatDoorW.PrintWords Go.Proofs.YthkepmicdpgbbaaGreatDoor.P Go.Proofs.YthkepmicdpgbbaaGreatDoor.Base

theorem crc_word {l : List Int} (hl : Bytes l) : 0 ≤ crc l ∧ crc l < 65536 := by
  unfold crc
  have := Crc.sum_lt l hl (s := 65535) (by decide)
  omega
theorem wordBytes_inj {a b : Int} (ha : 0 ≤ a ∧ a < 65536) (hb : 0 ≤ b ∧ b < 65536) (h : wordBytes a = wordBytes b) : a = b := by
  unfold wordBytes at h
  injection h with h1 h2
  injection h2 with h2 _
  omega
theorem turned_summed {h h' : List Int} (hb : Bytes h) (hb' : Bytes h') (hl : h'.length = h.length) (h0 : 0 < h.length) (ht : Turned (summed h) (summed h')) : False := by
  rcases ht with ⟨he, _⟩ | ⟨i, hi, y, hx, y0, y1, hne⟩
  · have := congrArg List.length he
    simp [summed, wordBytes] at this
  · unfold summed at hx hi hne
    by_cases hlt : i < h.length
    · rw [List.set_append_left _ _ hlt] at hx
      have e1 := List.append_inj_left hx (by rw [List.length_set]; exact hl)
      have e2 := List.append_inj_right hx (by rw [List.length_set]; exact hl)
      have hc := wordBytes_inj (crc_word hb') (crc_word hb) e2
      have hy : y ≠ h[i] := by rwa [List.getElem_append_left hlt] at hne
      exact Turned.crc (b := h) (x := h') (.inr ⟨i, hlt, y, e1, y0, y1, hy⟩) hb h0 hc
    · rw [List.set_append_right _ _ (by omega)] at hx
      have e1 := List.append_inj_left hx hl
      have e2 := List.append_inj_right hx hl
      rw [e1] at e2
      have hj : i - h.length < (wordBytes (crc h)).length := by rw [List.length_append] at hi; omega
      have e3 := congrArg (fun L : List Int => L[i - h.length]?) e2
      simp only [List.getElem?_set_self hj, List.getElem?_eq_getElem hj] at e3
      rw [List.getElem_append_right (by omega)] at hne
      exact hne (Option.some.inj e3).symm
end Go.Proofs.YthkepmicdpgbbaaGreatDoor.Fn

/- A record comes back of its bytes, and not of bytes with one turned. No memory is in sight here. -/
namespace Go.Proofs.YthkepmicdpgbbaaGreatDoor.Fn
set_option linter.unusedVariables false
set_option linter.unusedSimpArgs false
open Go.RowKit Go.Proofs.YthkepmicdpgbbaaGreatDoorW.PrintWords Go.Proofs.YthkepmicdpgbbaaGreatDoor.P Go.Proofs.YthkepmicdpgbbaaGreatDoor.Base

/-! ### the text of a configuration is a text -/
theorem textOk_ba {L : List UInt8} (hl : L.length ≤ 100) (h : ∀ c ∈ L, 32 ≤ c.toNat ∧ c.toNat ≤ 126) : textOk (ba L) = true := by
  rw [textOk_iff]
  refine ⟨by rw [ba_size]; omega, fun i hi => ?_⟩
  rw [ba_size] at hi
  rw [bt_ba L i hi]
  have := h _ (List.getElem_mem hi)
  omega
theorem itoa_chars {n : Int} (h : 0 ≤ n) : ∀ c ∈ Lib.itoa n, 48 ≤ c.toNat ∧ c.toNat ≤ 57 := by
  intro c hc
  by_cases hx : 48 ≤ c.toNat ∧ c.toNat ≤ 57
  · exact hx
  · exact absurd hc (num_free n h c (by omega))
theorem itemL_chars {x : Db} (h : dbOk x = true) : ∀ c ∈ itemL x, 32 ≤ c.toNat ∧ c.toNat ≤ 126 := by
  intro c hc
  have hp := dbOk_pos h
  have hn : nameOk x.f0 = true := by
    unfold dbOk at h
    simp only [Bool.and_eq_true] at h
    exact h.1
  unfold itemL at hc
  simp only [List.mem_append, List.mem_singleton] at hc
  rcases hc with (((((((hc | rfl) | hc) | rfl) | hc) | rfl) | hc) | rfl) | hc
  · have := name_bytes hn c hc; omega
  · decide
  · have := itoa_chars hp.1 c hc; omega
  · decide
  · have := itoa_chars hp.2.1 c hc; omega
  · decide
  · have := itoa_chars hp.2.2.1 c hc; omega
  · decide
  · have := itoa_chars hp.2.2.2 c hc; omega
theorem confText_textOk {l : List Db} (h : confFrom l 0 l.length = true) : textOk (confText l) = true := by
  obtain ⟨x, xs, rfl, _, hall⟩ := conf_cons h
  have hs := (confText_size h).2
  rw [confText_join x xs h] at hs ⊢
  rw [ba_size] at hs
  refine textOk_ba hs fun c hc => ?_
  unfold joinA at hc
  rcases List.mem_append.1 hc with hc | hc
  · exact itemL_chars (hall x (by simp)) c hc
  · obtain ⟨y, hy, hc⟩ := List.mem_flatMap.1 hc
    obtain ⟨z, hz, rfl⟩ := List.mem_map.1 hy
    rcases List.mem_cons.1 hc with rfl | hc
    · decide
    · exact itemL_chars (hall z (List.mem_cons_of_mem _ hz)) c hc
theorem emptyT_eq {s : ByteArray} (h : emptyT s = true) : s = ⟨#[]⟩ := by
  unfold emptyT at h
  have h1 : s.toList = [] := by simpa using h
  have h2 : (⟨#[]⟩ : ByteArray).toList = [] := by unfold ByteArray.toList; unfold ByteArray.toList.loop; rfl
  exact text_inj (h1.trans h2.symm)
/-- What a record that is right bears. -/
theorem recOk_parts {kind n owner : Int} {s : ByteArray} (h : recOk kind n owner s = true) : (1 ≤ n ∧ n ≤ 60000) ∧ (1 ≤ kind ∧ kind ≤ 3) ∧ (0 ≤ owner ∧ owner ≤ 1) ∧ textOk s = true ∧ s.size ≤ 100 := by
  have he : textOk (⟨#[]⟩ : ByteArray) = true := by
    rw [textOk_iff]
    exact ⟨by decide, fun i hi => absurd hi (Nat.not_lt_zero _)⟩
  unfold recOk at h
  simp only [Bool.and_eq_true, decide_eq_true_eq] at h
  obtain ⟨hn, h⟩ := h
  have key : (1 ≤ kind ∧ kind ≤ 3) ∧ (0 ≤ owner ∧ owner ≤ 1) ∧ textOk s = true := by
    split at h
    · rename_i hk
      simp only [Bool.and_eq_true, decide_eq_true_eq] at h
      refine ⟨by omega, by omega, ?_⟩
      have hc : (parseConf s).2 = true := h.2
      rcases parseConf_back s with hb | ⟨l, hb, hl, rfl⟩
      · rw [hb] at hc; cases hc
      · exact confText_textOk hl
    · split at h
      · simp only [Bool.and_eq_true, decide_eq_true_eq] at h
        rw [emptyT_eq h.2]
        exact ⟨by omega, by omega, he⟩
      · split at h
        · simp only [Bool.and_eq_true, decide_eq_true_eq] at h
          rw [emptyT_eq h.2]
          exact ⟨by omega, by omega, he⟩
        · cases h
  exact ⟨hn, key.1, key.2.1, key.2.2, textOk_size key.2.2⟩

/-! ### the record's bytes, place by place -/
theorem strOfNums_bytesOf (s : ByteArray) : strOfNums (bytesOf s) = s := by
  unfold strOfNums bytesOf
  rw [List.map_map]
  have h : ((fun n : Int => UInt8.ofNat n.toNat) ∘ fun b : UInt8 => (b.toNat : Int)) = id := by funext b; simp
  rw [h, List.map_id]
theorem rd_app_left {a b : List Int} {i : Nat} (h : i < a.length) : rd (a ++ b) (i : Int) = rd a (i : Int) := by
  rw [rd_getElem (by rw [List.length_append]; omega), rd_getElem h, List.getElem_append_left h]
theorem rec_bytes {gen place kind n owner : Int} {s : ByteArray} (hg : wordIn gen) (hp : wordIn place) (h : recOk kind n owner s = true) :
    putRec gen place kind n owner s = [gen / 256 % 256, gen % 256, place / 256 % 256, place % 256, kind % 256, n / 256 % 256, n % 256, owner % 256, (s.size : Int)] ++ (bytesOf s ++ wordBytes (crc (recBody gen place kind n owner s))) := by
  obtain ⟨_, _, _, ht, _⟩ := recOk_parts h
  have e : recBody gen place kind n owner s = [gen / 256 % 256, gen % 256, place / 256 % 256, place % 256, kind % 256, n / 256 % 256, n % 256, owner % 256, (s.size : Int)] ++ bytesOf s := by
    rw [recBody, putText, if_pos ht]
    simp [recHead, wordBytes]
  rw [putRec_yes ⟨h, hg, hp⟩, ← List.append_assoc, ← e]
theorem word_two {a b : Int} {i : Nat} {l : List Int} (hl : i + 1 < l.length) (ha : rd l (i : Int) = a) (hb : rd l ((i : Int) + 1) = b) : (word l (i : Int)).1 = a * 256 + b := by
  unfold word
  rw [if_neg (by omega), ha, hb]
theorem getRec_put {gen place kind n owner : Int} {s : ByteArray} (hg : wordIn gen) (hp : wordIn place) (h : recOk kind n owner s = true) : getRec (putRec gen place kind n owner s) = (gen, place, kind, n, owner, s, true) := by
  obtain ⟨hn, hk, ho, ht, hs⟩ := recOk_parts h
  have e := rec_bytes hg hp h
  generalize hB : putRec gen place kind n owner s = B at e
  have hlen : B.length = 9 + (s.size + 2) := by
    rw [e, List.length_append, List.length_append, bytesOf_length, wordBytes_length]
    rfl
  have at_ : ∀ i : Nat, i < 9 → rd B (i : Int) = rd [gen / 256 % 256, gen % 256, place / 256 % 256, place % 256, kind % 256, n / 256 % 256, n % 256, owner % 256, (s.size : Int)] (i : Int) := fun i hi => by
    rw [e]
    exact rd_app_left (by simpa using hi)
  have w0 : (word B 0).1 = gen := by
    rw [show (0 : Int) = ((0 : Nat) : Int) from rfl, word_two (i := 0) (by omega) (at_ 0 (by omega)) (at_ 1 (by omega))]
    simp [rd]
    omega
  have w2 : (word B 2).1 = place := by
    rw [show (2 : Int) = ((2 : Nat) : Int) from rfl, word_two (i := 2) (by omega) (at_ 2 (by omega)) (at_ 3 (by omega))]
    simp [rd]
    omega
  have w5 : (word B 5).1 = n := by
    rw [show (5 : Int) = ((5 : Nat) : Int) from rfl, word_two (i := 5) (by omega) (at_ 5 (by omega)) (at_ 6 (by omega))]
    simp [rd]
    omega
  have r4 : rd B 4 = kind := by
    have := at_ 4 (by omega)
    rw [show (4 : Int) = ((4 : Nat) : Int) from rfl, this]
    simp [rd]
    omega
  have r7 : rd B 7 = owner := by
    have := at_ 7 (by omega)
    rw [show (7 : Int) = ((7 : Nat) : Int) from rfl, this]
    simp [rd]
    omega
  have r8 : rd B 8 = (s.size : Int) := by
    have := at_ 8 (by omega)
    rw [show (8 : Int) = ((8 : Nat) : Int) from rfl, this]
    simp [rd]
  have hx : textAt B 8 = s := by
    unfold textAt
    rw [r8]
    have e3 : ((B.take ((8 : Int) + 1 + (s.size : Int)).toNat).drop ((8 : Int) + 1).toNat) = bytesOf s := by
      have t1 : ((8 : Int) + 1 + (s.size : Int)).toNat = 9 + s.size := by omega
      have t2 : ((8 : Int) + 1).toNat = 9 := rfl
      rw [t1, t2, e, List.take_append, List.take_of_length_le (by simp), List.drop_append, List.drop_of_length_le (by simp)]
      simp [List.take_append, bytesOf_length, List.take_of_length_le]
    rw [e3]
    exact strOfNums_bytesOf s
  have tx : getText B 8 = (s, 8 + 1 + (s.size : Int), true) := by
    unfold getText
    rw [if_neg (by rw [r8]; omega), hx, if_pos ht, r8]
  have hrec : IsRec B := by
    refine ⟨by omega, ?_⟩
    unfold recAt
    rw [w0, w2, r4, w5, r7, tx]
    exact hB
  rw [getRec_yes hrec, w0, w2, r4, w5, r7, tx]
theorem getRec_turned {gen place kind n owner : Int} {s : ByteArray} (hg : wordIn gen) (hp : wordIn place) (h : recOk kind n owner s = true) {x : List Int} (hx : Turned (putRec gen place kind n owner s) x) : (getRec x).2.2.2.2.2.2 = false := by
  by_cases hr : IsRec x
  · exfalso
    have hb : Bytes x := hx.bytes (putRec_bytes _ _ _ _ _ _)
    obtain ⟨h9, he⟩ := hr
    have hl := hx.length
    rw [putRec_yes ⟨h, hg, hp⟩] at hx hl
    by_cases hc : recOk (rd x 4) (word x 5).1 (rd x 7) (getText x 8).1 = true ∧ wordIn (word x 0).1 ∧ wordIn (word x 2).1
    · unfold recAt at he
      rw [putRec_yes hc] at he
      have hl2 := congrArg List.length he
      rw [List.length_append, wordBytes_length] at hl2
      rw [List.length_append, wordBytes_length] at hl
      have h0 : 0 < (recBody gen place kind n owner s).length := by omega
      rw [← he] at hx
      exact turned_summed (recBody_bytes gen place kind n owner s) (recBody_bytes _ _ _ _ _ _) (by omega) h0 hx
    · unfold recAt at he
      rw [putRec_no hc] at he
      rw [← he] at h9
      simp at h9
  · rw [getRec_no hr]
end Go.Proofs.YthkepmicdpgbbaaGreatDoor.Fn

/- The pure statement of the law FnRecs: a record is decoded from its encoding, and rejected if a byte is changed. -/
namespace Go.Proofs.YthkepmicdpgbbaaGreatDoor.Pure
set_option linter.unusedVariables false
set_option linter.unusedSimpArgs false
open Go.RowKit Go.Proofs.YthkepmicdpgbbaaGreatDoorW.PrintWords Go.Proofs.YthkepmicdpgbbaaGreatDoor.P Go.Proofs.YthkepmicdpgbbaaGreatDoor.Base Go.Proofs.YthkepmicdpgbbaaGreatDoor.Fn
theorem same_ (l m : List Int) (hl : Bytes l) (hm : Bytes m) : laws_same.f l m = some (eqB l m) := by
  unfold laws_same.f
  rw [sameBytes' hl hm]
theorem FnRecs : laws_FnRecs.Pure := by
  intro l hm hl hw
  have hb := Bytes.of_wf hw
  refine Ev.rounds ?_
  unfold laws_FnRecs.f
  refine Ev.then (big l) ?_
  by_cases h : (l.length : Int) > 1048576
  · exact Ev.pos (by simpa using h) (Ev.done rfl)
  refine Ev.neg (by simpa using h) ?_
  obtain ⟨g, p, kind, n, owner, s, e1, hs⟩ := drawPutRec l (by omega)
  obtain ⟨c, e2, hc, hcl⟩ := drawGetRec l (by omega)
  refine Ev.bind e1 (Ev.bind (impl_putRec g p kind n owner s (by omega)) (Ev.bind e2 (Ev.bind (impl_getRec c hc (by omega)) (Ev.bind (spec_getRec c hc (by omega)) (Ev.bind (impl_recOk kind n owner s (by omega)) (Ev.bind (spec_recOk kind n owner s (by omega)) (Ev.neg (by simp) (Ev.neg (by simp) ?_))))))))
  have hpb := putRec_bytes g p kind n owner s
  have hpl := putRec_length g p kind n owner s
  have j1 : ∀ b : Bool, (b = true → ¬ (recOk kind n owner s = true ∧ wordIn g ∧ wordIn p)) → (b = false → recOk kind n owner s = true ∧ wordIn g ∧ wordIn p) → Ev (fun k => laws_FnRecs.j1 k l g p (putRec g p kind n owner s) b kind n owner s) true := by
    intro b b1 b2
    refine Ev.step (fun k => laws_FnRecs.j1.eq_2 _ _ _ _ _ _ _ _ _ k) ?_
    cases b
    · obtain ⟨h1, h2, h3⟩ := b2 rfl
      obtain ⟨x, ex, hx⟩ := bent l (putRec g p kind n owner s) hb (by omega) hpb (by omega)
      have hxl := hx.length
      refine Ev.neg (by decide) (Ev.bind (impl_getRec _ hpb (by omega)) (Ev.then ex (Ev.bind (impl_getRec x (hx.bytes hpb) (by omega)) ?_)))
      rw [getRec_put h2 h3 h1, getRec_turned h2 h3 h1 hx]
      exact Ev.pos rfl (Ev.pos rfl (Ev.pos rfl (Ev.pos (by simp) (Ev.neg (by decide) (Ev.done (by simp; omega))))))
    · rw [putRec_no (b1 rfl)]
      exact Ev.pos rfl (Ev.done rfl)
  have j0 : Ev (fun k => laws_FnRecs.j0 k l g p (putRec g p kind n owner s) false kind n owner s) true := by
    refine Ev.step (fun k => laws_FnRecs.j0.eq_2 _ _ _ _ _ _ _ _ _ k) (Ev.neg (by decide) (Ev.bind (impl_recOk kind n owner s (by omega)) ?_))
    by_cases h0 : recOk kind n owner s = true
    case neg => exact Ev.neg h0 (j1 true (fun _ q => h0 q.1) (fun e => by cases e))
    refine Ev.pos h0 ?_
    by_cases h1 : g < 0
    · exact Ev.pos h1 (j1 true (fun _ q => by have := q.2.1.1; omega) (fun e => by cases e))
    refine Ev.neg h1 ?_
    by_cases h2 : g > 65535
    · exact Ev.pos h2 (j1 true (fun _ q => by have := q.2.1.2; omega) (fun e => by cases e))
    refine Ev.neg h2 ?_
    by_cases h3 : p < 0
    · exact Ev.pos h3 (j1 true (fun _ q => by have := q.2.2.1; omega) (fun e => by cases e))
    refine Ev.neg h3 (j1 _ (fun e q => by have := q.2.2.2; simp at e; omega) (fun e => ⟨h0, ⟨by omega, by omega⟩, by omega, by simp at e; omega⟩))
  by_cases hi : IsRec c
  · rw [getRec_yes hi]
    refine Ev.pos rfl (Ev.bind (impl_putRec (word c 0).1 (word c 2).1 (rd c 4) (word c 5).1 (rd c 7) (getText c 8).1 (by have := getText_short c 8; omega)) (Ev.then (same_ _ _ (putRec_bytes _ _ _ _ _ _) hc) ?_))
    have he : putRec (word c 0).1 (word c 2).1 (rd c 4) (word c 5).1 (rd c 7) (getText c 8).1 = c := hi.2
    simp only []
    rw [he, eqB_same]
    exact j0
  · rw [getRec_no hi]
    exact Ev.neg (by decide) j0
end Go.Proofs.YthkepmicdpgbbaaGreatDoor.Pure

-- PRINTED BY print.sh 35421559b90ae4d0a3588c463048766b98c2df88dd9212a6774a882060cdf62d: not written by this session
-- PRINTED WORDS (module Derived/Print/Sized.lean): go-gate-2's, for the rows of laws over slices: an AI agent of Go's test side, Tue Nov 17 2026; no person has read it. Lean checks it.
namespace Go.Proofs.YthkepmicdpgbbaaGreatDoorW.PrintWords
open Go.ChangeShapes Go.WideShapes
/-- A row's slice of whole numbers is no longer than its weight allows. -/
theorem sized_ints {H : Type} {enc : TypeId × Value → H} {P : Program} {W : World} {base : Nat} {spare : Nat → Bool} {held : Bool} {t e : TypeId} {k : IntKind} {a : Option Addr} {len cap : Nat} {d : DataW H} {ps : List MemPlace} {ts : List TypeId} {ds : List (DataW H)} {j : Nat}
    (hsz : (DataW.weightsEach P ts ds).all (· ≤ reachBytes) = true) (ht : ts[j]? = some t) (hd : ds[j]? = some d) (hu : P.underlying t = some (.slice e)) (he : P.underlying e = some (.int k)) (hc : P.cellsOf e = 1) {B : Nat} (hB : P.bytesOf e = B)
    (h : DataW.Trod enc P W base spare held t (.slice a len cap) d ps) : len * B ≤ 140737488351232 := by
  obtain ⟨fuel, hf⟩ := h
  rcases open_ints hu he hc hf with ⟨hcs, _⟩ | ⟨x, l, c, zs, hcs, _, hl, _, hz, hx, _, _⟩
  · simp [Value.cells] at hcs
    obtain ⟨rfl, rfl, rfl⟩ := hcs
    simp
  · simp [Value.cells] at hcs
    obtain ⟨rfl, rfl, rfl⟩ := hcs
    obtain ⟨hx, _⟩ := Prod.mk.inj hx
    subst hx
    have z := sized_slice hsz ht hd hu
    rw [hB] at z
    have hl2 : len ≤ zs.length := by
      rw [hz]
      split
      · exact hl
      · exact Nat.le_refl _
    have h1 : (lits (H := H) k (zs.take len)).length + (lits (H := H) k (zs.drop len)).length = zs.length := by
      simp [lits]
      omega
    rw [h1] at z
    exact Nat.le_trans (Nat.mul_le_mul_right _ hl2) z
end Go.Proofs.YthkepmicdpgbbaaGreatDoorW.PrintWords

/- The row of FnRecs under the tables that it lists, and its card. -/
namespace Go.Proofs.YthkepmicdpgbbaaGreatDoor.fnRecs
open Go.ChangeShapes Go.WideShapes Go.ChangeAt Go.RowKit
open Go.ChangeMaps (open_string shut_string)
set_option linter.unusedVariables false
theorem own : ownKnob Tryz.prog.godebug = none := by kernel_rfl
theorem laidOut : laidOutB Tryz.prog = true := by kernel_rfl
def IsRow (k : IntKind) (w : World) (a : Option Addr) (len cap : Nat) (zs : List Int) : Prop :=
  (a = none ∧ len = 0 ∧ cap = 0 ∧ zs = []) ∨
  ∃ x, a = some x ∧ len ≤ cap ∧ cap ≤ maxLen ∧ zs.length = cap ∧ (∀ i, i < zs.length → w.cell? (x.add i) = some (.int k (zs.getD i 0))) ∧ ∀ n ∈ zs, (Lit.int k n).wf = true
theorem laid_met (os : Os) (args : Array Value) : laidMetH Tryz.prog Rows.fnRecsRow.laid ((World.laidAll Tryz.prog os Rows.fnRecsRow.laid).forCall (fun _ _ => 0) ⟨#[], args, []⟩).memory := by
  rw [MakeChecks.laidMetH_plain _ _ _ (by kernel_rfl)]
  exact laidMet_laidAll args (by kernel_rfl) (by kernel_rfl)
set_option maxRecDepth 100000 in
theorem lifted (os : Os) (started : os.Started) (H : Type) (enc : TypeId × Value → H) :
    ReturnsInHanded {} Tryz.checked os 3 .any (fun w args => (Rows.fnRecsSpec.pre enc Tryz.prog Tryz.f3 Rows.fnRecsRow.domain false w args ∧ laidMetH Tryz.prog Rows.fnRecsRow.laid w) ∧ sizedMet enc Tryz.prog Tryz.f3 (OpenSpec.ofChange Rows.fnRecsSpec) false w args) (Rows.fnRecsSpec.post enc Tryz.prog Tryz.f3 false true false false) := by
  refine Card.returns_both (C := Tryz.checked) (X := fun w _ => laidMetH Tryz.prog Rows.fnRecsRow.laid w) (fun _ _ _ hh h => h.of_heap hh) own started (by kernel_rfl) Tryz.func3
    (ChangeSpec.witness_at (enc := enc) (C := Tryz.checked) (os := os) (X := fun w _ => laidMetH Tryz.prog Rows.fnRecsRow.laid w) false (World.laidAll Tryz.prog os Rows.fnRecsRow.laid) #[.slice none 0 0] 8 (World.laidAll_os _ _ _) (by kernel_rfl) (by kernel_rfl) (by kernel_rfl) (by kernel_rfl) (by kernel_rfl) (laid_met os _)) ?_
  intro W base args ds gs before hval0 hW hcnd hsz0 hL hShape _
  have hGW : Go.Proofs.YthkepmicdpgbbaaGreatDoor.P.GW W := Card.gw hL (by kernel_rfl) (by kernel_rfl) hShape
  have hsz : (DataW.weightsEach Tryz.prog (Tryz.f3.params.toList ++ Rows.fnRecsSpec.plain.varTypes Tryz.prog) (ds ++ gs)).all (· ≤ reachBytes) = true := hsz0
  have hval : ∀ (j : Nat) t v, Tryz.f3.params[j]? = some t → args[j]? = some v → Value.okWide Tryz.prog W .any base t v := hval0
  have hW' := hW
  obtain ⟨p, q, hA0, hV, rfl, hfz, hnd⟩ := hW
  have hA : DataW.TrodAll enc Tryz.prog W 0 (fun _ => true) true Tryz.f3.params.toList args.toList ds p := hA0
  rw [Tryz.params3] at hA hval hsz
  obtain ⟨v0, vs0, d0, ds0, p0, q0, hargs, rfl, rfl, h0, r0⟩ := trodAll_cons hA
  obtain ⟨rfl, rfl, rfl⟩ := trodAll_nil r0
  obtain rfl : args = #[v0] := by cases args; simp_all
  obtain ⟨rfl, rfl⟩ := trodVars_none hV
  obtain ⟨a0, len0, cap0, rfl⟩ := okWide_slice Tryz.underlying22 (hval 0 22 v0 rfl rfl)
  have k0 := h0
  have lt0 : ∀ x ∈ p0, x.block < W.heap.size := by obtain ⟨m, hm⟩ := k0; exact DataW.trod_lt m _ _ _ hm
  obtain ⟨z0, w0⟩ : ∃ zs, IsRow .u8 W a0 len0 cap0 zs := by
    obtain ⟨fuel, hf⟩ := h0
    rcases open_ints Tryz.underlying22 Tryz.underlying5 (by kernel_rfl) hf with ⟨hcs, _⟩ | ⟨x, l, c, zs, hcs, _, hl, hm, hz, _, hcell, hwz⟩
    · simp [Value.cells] at hcs
      obtain ⟨rfl, rfl, rfl⟩ := hcs
      exact ⟨[], .inl ⟨rfl, rfl, rfl, rfl⟩⟩
    · simp [Value.cells] at hcs
      obtain ⟨rfl, rfl, rfl⟩ := hcs
      exact ⟨zs, .inr ⟨_, rfl, hl, hm, by simpa using hz, hcell, hwz⟩⟩
  have y0 : len0 * 1 ≤ 140737488351232 := Go.Proofs.YthkepmicdpgbbaaGreatDoorW.PrintWords.sized_ints hsz (j := 0) (t := 22) rfl rfl Tryz.underlying22 Tryz.underlying5 (by kernel_rfl) (by kernel_rfl) h0
  clear hA0 hval0 hsz0 hsz
  refine (P.laws_FnRecs.walk Pure.FnRecs a0 len0 cap0 z0 W hGW w0 y0).mono fun e W' ⟨he, bel⟩ => ?_
  subst he
  exact ⟨_, rfl, _, _, _, [], _, [], hW', trodAll_mk1 (shut_bool Tryz.underlying4 _), (trodAll_cons_mk (Below.trod laidOut (by kernel_rfl) (of_decide_eq_true (by kernel_rfl)) k0 bel lt0) trodAll_mk0), rfl, bel.frame _, fun h => by cases h⟩
theorem over : Rows.fnRecsRow.holds Tryz.pinned (OpenSpec.ofChange Rows.fnRecsSpec) :=
  OpenClaim.holds_of_wide 3 Tryz.f3 rfl rfl rfl rfl rfl rfl rfl ⟨rfl, rfl, rfl, rfl, rfl⟩ rfl rfl rfl rfl rfl (by kernel_rfl) Tryz.func3 (by kernel_rfl)
    (of_decide_eq_true (by kernel_rfl)) (by unfold Func.isWrapper; first | (rw [if_pos (by decide +kernel)]; kernel_rfl) | (rw [if_neg (by decide +kernel)]; exact ⟨rfl, rfl⟩))
    (fun os started H enc _ => lifted os started H enc)
theorem proved : Rows.FnRecsSaid := over
theorem card : Rows.FnRecsCardSaid :=
  Claim7.holds_tied_plain_at .later [] [.data, .data, .data, .data, .pinned] true (true, "a0b08ec5bca06275ea6e51147ab65c76ea4c60e324e187ea80e5266fafab190f") false
    over (fun _ h => by cases h) (by kernel_rfl) (fun _ h => by cases h) fnRecs_row_tie rfl ⟨rfl, rfl⟩ (by kernel_rfl) rfl
    (fun f fn hf hfn => by
      obtain rfl : f = 3 := Option.some.inj ((show Tryz.prog.funcNamed Rows.fnRecsRow.func = some 3 by kernel_rfl).symm.trans hf) |>.symm
      obtain rfl : fn = Tryz.f3 := (Option.some.inj (Tryz.func3.symm.trans hfn)).symm
      refine ⟨by kernel_rfl, fun j t ht => ?_⟩
      have hall : Tryz.f3.params.toList.all (fun t => !(Tryz.prog.wantsStandIn t)) = true := by kernel_rfl
      have hm : t ∈ Tryz.f3.params.toList := by
        rw [← Array.getElem?_toList] at ht
        exact List.mem_of_getElem? ht
      have h3 : Tryz.prog.wantsStandIn t = false := by simpa using List.all_eq_true.1 hall t hm
      exact h3)
    (by kernel_rfl)
#print axioms card
end Go.Proofs.YthkepmicdpgbbaaGreatDoor.fnRecs
namespace Go.Proofs.YthkepmicdpgbbaaGreatDoor
/-- The card, under a short name, for the claim. -/
theorem fnRecs_holds : Rows.FnRecsCardSaid := fnRecs.card
end Go.Proofs.YthkepmicdpgbbaaGreatDoor
