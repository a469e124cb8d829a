/- Texts of this seat's claims, put together: Shelf, Gw, EvA, EvB, WWords, EvC -/
import Derived.Shelf.Strings.Builder1
import Derived.Shelf.Strings.Builder2
import Derived.Shelf.Strings.OnBuilder
import Derived.Shelf.Strconv.Itoa0
import Derived.Shelf.Strconv.Itoa1
import Derived.Shelf.LaysM
import Derived.Shelf.Strconv.Itoa2
import Derived.Shelf.Strconv.Itoa3
import Derived.Shelf.Strings.Search1
import Derived.Shelf.Strings.Search2
import Derived.Shelf.Strings.Search3
import Derived.Shelf.Strings.Cut
import Derived.Shelf.Strings.Count
import Derived.Shelf.Strings.Shaped
import Derived.Shelf.Strings.Split
import Derived.Shelf.Strings.SplitShaped
import Derived.Shelf.Unicode.DecodeSlow
import Derived.Test.YthkepmicdpgbbaaGreatDoorProg
import Derived.Below
import Derived.Lib.AppendIntMem
import Derived.Lib.ItoaMem
import Derived.Lib.SplitLaws
import Derived.Laws.AppendOwn
import Derived.Deep.MidRow
import Derived.Laws.MakeOwn
import Derived.Orders
import Derived.Tactics
import Derived.Lib.ConvBytes
import Derived.Deep.Draws
import Derived.Deep.AppendLies
import Derived.Maps.AppendAt
import Derived.OwnWalk
import Derived.Laws.BytesArg
import Derived.Laws.OwnMore
import Derived.Deep.OwnRows
import Derived.Laws.Slices
import Derived.WalkKit
import Derived.KernelRfl
import Derived.RowKit3
import Derived.Deep.LoopGhost
import Derived.Deep.QuietTactic
import Derived.BigQuiet
import Derived.WideLaws
import Derived.Deep.DeepCutAuto
import Derived.Deep.CutBlock
import Derived.Deep.RegionHeld3
import Derived.Laws.Rows
import Derived.Lib.AppendStr
import Derived.ArgAppend
import Derived.Laws.IdiomCopy
import Derived.RowKit
/-
 DERIVED: THE SHELF's CONTRACTS AT THIS DUMP, IN PLAIN WORDS (tools/lay-plain.mjs out of 'TryzShelf.lean', which tools/lay-shelf.mjs wrote): THE SAME DECLARATIONS UNDER THE SAME NAMES: 'import', 'namespace', 'open', 'def', 'theorem' AND NOTHING ELSE: no command of the shelf's: FOR A HAND-IN. Each laying: the table of numbers ('.._ren') and one theorem, a field a fact of the dump's own or the kernel's comparison; each contract: ONE APPLICATION.
-/
namespace Go.Proofs
open Go.Shelf
def Tryz.lays156_ren : Go.Shelf.Ren := ⟨fun | 156 => 144 | 165 => 153 | 166 => 154 | 169 => 155 | 240 => 166 | 241 => 167 | 276 => 172 | 277 => 173 | n => n, fun | 31 => 135 | 9 => 9 | 3 => 3 | 4 => 4 | 0 => 0 | 20 => 20 | 72 => 159 | 76 => 163 | 70 => 157 | 37 => 22 | 75 => 162 | 127 => 172 | 164 => 177 | 5 => 5 | 80 => 165 | n => n, fun | n => n⟩
theorem Tryz.lays156 : Go.Proofs.Lays.n156 Tryz.prog Tryz.lays156_ren := {
 mixed := by kernel_rfl
 f156 := Tryz.func144.trans (congrArg some (by kernel_rfl))
 f165 := Tryz.func153.trans (congrArg some (by kernel_rfl))
 f166 := Tryz.func154.trans (congrArg some (by kernel_rfl))
 f169 := Tryz.func155.trans (congrArg some (by kernel_rfl))
 f240 := Tryz.func166.trans (congrArg some (by kernel_rfl))
 f241 := Tryz.func167.trans (congrArg some (by kernel_rfl))
 f276 := Tryz.func172.trans (congrArg some (by kernel_rfl))
 f277 := Tryz.func173.trans (congrArg some (by kernel_rfl))
 t0 := Tryz.underlying0
 a0 := Tryz.isAgg0
 z0 := Tryz.sizeOf0
 v0 := Tryz.zeroValue0
 t3 := Tryz.underlying3
 a3 := Tryz.isAgg3
 z3 := Tryz.sizeOf3
 v3 := Tryz.zeroValue3
 t4 := Tryz.underlying4
 a4 := Tryz.isAgg4
 z4 := Tryz.sizeOf4
 v4 := Tryz.zeroValue4
 t9 := Tryz.underlying9
 a9 := Tryz.isAgg9
 z9 := Tryz.sizeOf9
 v9 := Tryz.zeroValue9
 t20 := Tryz.underlying20
 a20 := Tryz.isAgg20
 z20 := Tryz.sizeOf20
 v20 := Tryz.zeroValue20
 t31 := Tryz.underlying135
 a31 := Tryz.isAgg135
 z31 := Tryz.sizeOf135
 v31 := Tryz.zeroValue135
 t37 := Tryz.underlying22
 a37 := Tryz.isAgg22
 z37 := Tryz.sizeOf22
 v37 := Tryz.zeroValue22
 t70 := Tryz.underlying157
 a70 := Tryz.isAgg157
 z70 := Tryz.sizeOf157
 v70 := Tryz.zeroValue157
 t72 := Tryz.underlying159
 a72 := Tryz.isAgg159
 z72 := Tryz.sizeOf159
 v72 := Tryz.zeroValue159
 t75 := Tryz.underlying162
 a75 := Tryz.isAgg162
 z75 := Tryz.sizeOf162
 v75 := Tryz.zeroValue162
 t76 := Tryz.underlying163
 a76 := Tryz.isAgg163
 z76 := Tryz.sizeOf163
 v76 := Tryz.zeroValue163
 t127 := Tryz.underlying172
 a127 := Tryz.isAgg172
 z127 := Tryz.sizeOf172
 v127 := Tryz.zeroValue172
 t164 := Tryz.underlying177
 a164 := Tryz.isAgg177
 z164 := Tryz.sizeOf177
 v164 := Tryz.zeroValue177 }
theorem Tryz.Builder_Extra_156 : Builder.Extra Tryz.prog Tryz.lays156_ren := {
 sizeBuilder := by kernel_rfl
 liesBuilder := by kernel_rfl
 t5 := Tryz.underlying5
 a5 := Tryz.isAgg5
 z5 := Tryz.sizeOf5
 v5 := Tryz.zeroValue5
 infoByte := by kernel_rfl
 cellsByte := by kernel_rfl
 sizeByte := by kernel_rfl
 neB5 := by decide }
open Go.RowKit in
theorem Tryz.strings_Join_none (a : Option Addr) (c : Nat) (sep : ByteArray) (w : World) :
  Calls Tryz.prog 144 #[.slice a 0 c, .string sep] w fun e w' => e = .returned (.string ⟨#[]⟩) ∧ w' = w := Any.strings_Join_none Tryz.lays156 Tryz.Builder_Extra_156 a c sep w
open Go.RowKit in
theorem Tryz.strings_Join (bk o c : Nat) (xs : List ByteArray) (sep : ByteArray) (w : World) (hcells : ∀ (j : Nat) x, xs[j]? = some x → w.cell? ⟨bk, o + j, none⟩ = some (.string x)) (hbk : bk < w.heap.size) (hN : xs.length ≤ 140737488355328) (hcap : xs.length ≤ c) (hlen : (Lib.join (xs.map (·.data.toList)) sep.data.toList).length ≤ 140737488355328) :
  Calls Tryz.prog 144 #[.slice (some ⟨bk, o, none⟩) xs.length c, .string sep] w fun e w' => e = .returned (.string ⟨(Lib.join (xs.map (·.data.toList)) sep.data.toList).toArray⟩) ∧ Below w.heap.size w w' := Any.strings_Join Tryz.lays156 Tryz.Builder_Extra_156 bk o c xs sep w hcells hbk hN hcap hlen
def Tryz.laysM171_ren : Go.Shelf.Ren := ⟨fun | 171 => 152 | 243 => 165 | 246 => 171 | 283 => 174 | 284 => 175 | 285 => 176 | 286 => 177 | 129 => 179 | 317 => 178 | 318 => 180 | 319 => 181 | 320 => 182 | 337 => 183 | 338 => 184 | n => n, fun | 3 => 3 | 9 => 9 | 2 => 2 | 4 => 4 | 171 => 184 | 0 => 0 | 53 => 185 | 37 => 22 | 5 => 5 | 173 => 188 | 212 => 191 | 51 => 173 | 20 => 20 | 213 => 192 | 46 => 117 | 232 => 195 | 233 => 196 | n => n, fun | 17 => 3 | 18 => 4 | 19 => 5 | n => n⟩
theorem Tryz.laysM171 : Go.Proofs.LaysM.n171 Tryz.prog Tryz.laysM171_ren := {
 mixed := by kernel_rfl
 f129 := Tryz.func179.trans (congrArg some (by kernel_rfl))
 f171 := Tryz.func152.trans (congrArg some (by kernel_rfl))
 f243 := Tryz.func165.trans (congrArg some (by kernel_rfl))
 f246 := Tryz.func171.trans (congrArg some (by kernel_rfl))
 f283 := Tryz.func174.trans (congrArg some (by kernel_rfl))
 f284 := Tryz.func175.trans (congrArg some (by kernel_rfl))
 f285 := Tryz.func176.trans (congrArg some (by kernel_rfl))
 f286 := Tryz.func177.trans (congrArg some (by kernel_rfl))
 f317 := Tryz.func178.trans (congrArg some (by kernel_rfl))
 f318 := Tryz.func180.trans (congrArg some (by kernel_rfl))
 f319 := Tryz.func181.trans (congrArg some (by kernel_rfl))
 f320 := Tryz.func182.trans (congrArg some (by kernel_rfl))
 f337 := Tryz.func183.trans (congrArg some (by kernel_rfl))
 f338 := Tryz.func184.trans (congrArg some (by kernel_rfl))
 t0 := Tryz.underlying0
 a0 := Tryz.isAgg0
 z0 := Tryz.sizeOf0
 v0 := Tryz.zeroValue0
 t2 := Tryz.underlying2
 a2 := Tryz.isAgg2
 z2 := Tryz.sizeOf2
 v2 := Tryz.zeroValue2
 t3 := Tryz.underlying3
 a3 := Tryz.isAgg3
 z3 := Tryz.sizeOf3
 v3 := Tryz.zeroValue3
 t4 := Tryz.underlying4
 a4 := Tryz.isAgg4
 z4 := Tryz.sizeOf4
 v4 := Tryz.zeroValue4
 t5 := Tryz.underlying5
 a5 := Tryz.isAgg5
 z5 := Tryz.sizeOf5
 v5 := Tryz.zeroValue5
 t9 := Tryz.underlying9
 a9 := Tryz.isAgg9
 z9 := Tryz.sizeOf9
 v9 := Tryz.zeroValue9
 t20 := Tryz.underlying20
 a20 := Tryz.isAgg20
 z20 := Tryz.sizeOf20
 v20 := Tryz.zeroValue20
 t37 := Tryz.underlying22
 a37 := Tryz.isAgg22
 z37 := Tryz.sizeOf22
 v37 := Tryz.zeroValue22
 t46 := Tryz.underlying117
 a46 := Tryz.isAgg117
 z46 := Tryz.sizeOf117
 v46 := Tryz.zeroValue117
 t51 := Tryz.underlying173
 a51 := Tryz.isAgg173
 z51 := Tryz.sizeOf173
 v51 := Tryz.zeroValue173
 t53 := Tryz.underlying185
 a53 := Tryz.isAgg185
 z53 := Tryz.sizeOf185
 v53 := Tryz.zeroValue185
 t171 := Tryz.underlying184
 a171 := Tryz.isAgg184
 z171 := Tryz.sizeOf184
 v171 := Tryz.zeroValue184
 t173 := Tryz.underlying188
 a173 := Tryz.isAgg188
 z173 := Tryz.sizeOf188
 v173 := Tryz.zeroValue188
 t212 := Tryz.underlying191
 a212 := Tryz.isAgg191
 z212 := Tryz.sizeOf191
 v212 := Tryz.zeroValue191
 t213 := Tryz.underlying192
 a213 := Tryz.isAgg192
 z213 := Tryz.sizeOf192
 t232 := Tryz.underlying195
 a232 := Tryz.isAgg195
 z232 := Tryz.sizeOf195
 v232 := Tryz.zeroValue195
 t233 := Tryz.underlying196
 a233 := Tryz.isAgg196
 z233 := Tryz.sizeOf196
 v233 := Tryz.zeroValue196
 g17 := by kernel_rfl
 g18 := by kernel_rfl
 g19 := by kernel_rfl
 i0 := by kernel_rfl
 i2 := by kernel_rfl
 i3 := by kernel_rfl
 i4 := by kernel_rfl
 i5 := by kernel_rfl
 i9 := by kernel_rfl
 i20 := by kernel_rfl
 i37 := by kernel_rfl
 i46 := by kernel_rfl
 i51 := by kernel_rfl
 i53 := by kernel_rfl
 i171 := by kernel_rfl
 i173 := by kernel_rfl
 i212 := by kernel_rfl
 i232 := by kernel_rfl
 i233 := by kernel_rfl
 m17 := by kernel_rfl
 m18 := by kernel_rfl
 m19 := by kernel_rfl }
open Go.RowKit Go.Sort Go.Lib in
theorem Tryz.strconv_Itoa (n : Int) (h0 : -9223372036854775808 ≤ n) (h1 : n ≤ 9223372036854775807) (w : World) (htab : Lib.TabIs Tryz.prog w "internal/strconv.uint64pow10" .u64 Lib.pow10Tab) :
  Calls Tryz.prog 152 #[.int .i64 n] w fun e w' => e = .returned (.string ⟨(Lib.itoa n).toArray⟩) ∧ ∃ k os, w' = grow (w.drewN k) os := Any.strconv_Itoa Tryz.laysM171 n h0 h1 w htab
def Tryz.lays145_ren : Go.Shelf.Ren := ⟨fun | 145 => 131 | 220 => 141 | 219 => 149 | 217 => 159 | 225 => 160 | 224 => 161 | 267 => 162 | 266 => 169 | 314 => 170 | n => n, fun | 9 => 9 | 4 => 4 | 59 => 144 | 3 => 3 | 5 => 5 | 46 => 117 | 146 => 174 | 51 => 173 | n => n, fun | 1 => 0 | n => n⟩
theorem Tryz.lays145 : Go.Proofs.Lays.n145 Tryz.prog Tryz.lays145_ren := {
 mixed := by kernel_rfl
 f145 := Tryz.func131.trans (congrArg some (by kernel_rfl))
 f217 := Tryz.func159.trans (congrArg some (by kernel_rfl))
 f219 := Tryz.func149.trans (congrArg some (by kernel_rfl))
 f220 := Tryz.func141.trans (congrArg some (by kernel_rfl))
 f224 := Tryz.func161.trans (congrArg some (by kernel_rfl))
 f225 := Tryz.func160.trans (congrArg some (by kernel_rfl))
 f266 := Tryz.func169.trans (congrArg some (by kernel_rfl))
 f267 := Tryz.func162.trans (congrArg some (by kernel_rfl))
 f314 := Tryz.func170.trans (congrArg some (by kernel_rfl))
 t3 := Tryz.underlying3
 a3 := Tryz.isAgg3
 z3 := Tryz.sizeOf3
 v3 := Tryz.zeroValue3
 t4 := Tryz.underlying4
 a4 := Tryz.isAgg4
 z4 := Tryz.sizeOf4
 v4 := Tryz.zeroValue4
 t5 := Tryz.underlying5
 a5 := Tryz.isAgg5
 z5 := Tryz.sizeOf5
 v5 := Tryz.zeroValue5
 t9 := Tryz.underlying9
 a9 := Tryz.isAgg9
 z9 := Tryz.sizeOf9
 v9 := Tryz.zeroValue9
 t46 := Tryz.underlying117
 a46 := Tryz.isAgg117
 z46 := Tryz.sizeOf117
 v46 := Tryz.zeroValue117
 t51 := Tryz.underlying173
 a51 := Tryz.isAgg173
 z51 := Tryz.sizeOf173
 v51 := Tryz.zeroValue173
 t59 := Tryz.underlying144
 a59 := Tryz.isAgg144
 z59 := Tryz.sizeOf144
 v59 := Tryz.zeroValue144
 t146 := Tryz.underlying174
 a146 := Tryz.isAgg174
 z146 := Tryz.sizeOf174
 v146 := Tryz.zeroValue174
 g1 := by kernel_rfl }
open Go.RowKit Go.Lib in
theorem Tryz.strings_Cut (s sep : ByteArray) (m : Int) (w : World) (hs : s.size < 4294967281) (hm : w.cell? ⟨0, 0, none⟩ = some (.int .i64 m)) :
  Calls Tryz.prog 131 #[.string s, .string sep] w fun e w' => e = .returned (.tuple #[.string ⟨(Lib.cut s.data.toList sep.data.toList).1.toArray⟩, .string ⟨(Lib.cut s.data.toList sep.data.toList).2.1.toArray⟩, .bool (Lib.cut s.data.toList sep.data.toList).2.2]) ∧ ∃ n, w' = w.drewN n := Any.strings_Cut Tryz.lays145 s sep m w hs hm
def Tryz.laysM145_ren : Go.Shelf.Ren := ⟨fun | 145 => 131 | 220 => 141 | 219 => 149 | 217 => 159 | 225 => 160 | 224 => 161 | 267 => 162 | 266 => 169 | 314 => 170 | n => n, fun | 9 => 9 | 4 => 4 | 59 => 144 | 3 => 3 | 5 => 5 | 46 => 117 | 146 => 174 | 51 => 173 | n => n, fun | 1 => 0 | n => n⟩
theorem Tryz.laysM145 : Go.Proofs.LaysM.n145 Tryz.prog Tryz.laysM145_ren := {
 mixed := by kernel_rfl
 f145 := Tryz.func131.trans (congrArg some (by kernel_rfl))
 f217 := Tryz.func159.trans (congrArg some (by kernel_rfl))
 f219 := Tryz.func149.trans (congrArg some (by kernel_rfl))
 f220 := Tryz.func141.trans (congrArg some (by kernel_rfl))
 f224 := Tryz.func161.trans (congrArg some (by kernel_rfl))
 f225 := Tryz.func160.trans (congrArg some (by kernel_rfl))
 f266 := Tryz.func169.trans (congrArg some (by kernel_rfl))
 f267 := Tryz.func162.trans (congrArg some (by kernel_rfl))
 f314 := Tryz.func170.trans (congrArg some (by kernel_rfl))
 t3 := Tryz.underlying3
 a3 := Tryz.isAgg3
 z3 := Tryz.sizeOf3
 v3 := Tryz.zeroValue3
 t4 := Tryz.underlying4
 a4 := Tryz.isAgg4
 z4 := Tryz.sizeOf4
 v4 := Tryz.zeroValue4
 t5 := Tryz.underlying5
 a5 := Tryz.isAgg5
 z5 := Tryz.sizeOf5
 v5 := Tryz.zeroValue5
 t9 := Tryz.underlying9
 a9 := Tryz.isAgg9
 z9 := Tryz.sizeOf9
 v9 := Tryz.zeroValue9
 t46 := Tryz.underlying117
 a46 := Tryz.isAgg117
 z46 := Tryz.sizeOf117
 v46 := Tryz.zeroValue117
 t51 := Tryz.underlying173
 a51 := Tryz.isAgg173
 z51 := Tryz.sizeOf173
 v51 := Tryz.zeroValue173
 t59 := Tryz.underlying144
 a59 := Tryz.isAgg144
 z59 := Tryz.sizeOf144
 v59 := Tryz.zeroValue144
 t146 := Tryz.underlying174
 a146 := Tryz.isAgg174
 z146 := Tryz.sizeOf174
 v146 := Tryz.zeroValue174
 g1 := by kernel_rfl
 i3 := by kernel_rfl
 i4 := by kernel_rfl
 i5 := by kernel_rfl
 i9 := by kernel_rfl
 i46 := by kernel_rfl
 i51 := by kernel_rfl
 i59 := by kernel_rfl
 i146 := by kernel_rfl
 m1 := by kernel_rfl
 s1_3 := fun w h => Go.Proofs.cell_of_shapedOpen_int (zero := #[.int .i64 0]) (t := 3) h (of_decide_eq_true (by kernel_rfl)) (by kernel_rfl) rfl (by kernel_rfl) (by kernel_rfl) Tryz.underlying3 }
def Tryz.lays146_ren : Go.Shelf.Ren := ⟨fun | 146 => 130 | 221 => 140 | 268 => 146 | 138 => 147 | 143 => 148 | 195 => 156 | 197 => 157 | 218 => 158 | 219 => 149 | 260 => 168 | 217 => 159 | 225 => 160 | 224 => 161 | 267 => 162 | 266 => 169 | 314 => 170 | n => n, fun | 9 => 9 | 31 => 135 | 3 => 3 | 4 => 4 | 0 => 0 | 105 => 167 | 21 => 21 | 5 => 5 | 46 => 117 | 119 => 180 | 139 => 183 | 138 => 182 | 146 => 174 | 51 => 173 | n => n, fun | 1 => 0 | 3 => 1 | 4 => 2 | n => n⟩
theorem Tryz.lays146 : Go.Proofs.Lays.n146 Tryz.prog Tryz.lays146_ren := {
 mixed := by kernel_rfl
 f138 := Tryz.func147.trans (congrArg some (by kernel_rfl))
 f143 := Tryz.func148.trans (congrArg some (by kernel_rfl))
 f146 := Tryz.func130.trans (congrArg some (by kernel_rfl))
 f195 := Tryz.func156.trans (congrArg some (by kernel_rfl))
 f197 := Tryz.func157.trans (congrArg some (by kernel_rfl))
 f217 := Tryz.func159.trans (congrArg some (by kernel_rfl))
 f218 := Tryz.func158.trans (congrArg some (by kernel_rfl))
 f219 := Tryz.func149.trans (congrArg some (by kernel_rfl))
 f221 := Tryz.func140.trans (congrArg some (by kernel_rfl))
 f224 := Tryz.func161.trans (congrArg some (by kernel_rfl))
 f225 := Tryz.func160.trans (congrArg some (by kernel_rfl))
 f260 := Tryz.func168.trans (congrArg some (by kernel_rfl))
 f266 := Tryz.func169.trans (congrArg some (by kernel_rfl))
 f267 := Tryz.func162.trans (congrArg some (by kernel_rfl))
 f268 := Tryz.func146.trans (congrArg some (by kernel_rfl))
 f314 := Tryz.func170.trans (congrArg some (by kernel_rfl))
 t0 := Tryz.underlying0
 a0 := Tryz.isAgg0
 z0 := Tryz.sizeOf0
 v0 := Tryz.zeroValue0
 t3 := Tryz.underlying3
 a3 := Tryz.isAgg3
 z3 := Tryz.sizeOf3
 v3 := Tryz.zeroValue3
 t4 := Tryz.underlying4
 a4 := Tryz.isAgg4
 z4 := Tryz.sizeOf4
 v4 := Tryz.zeroValue4
 t5 := Tryz.underlying5
 a5 := Tryz.isAgg5
 z5 := Tryz.sizeOf5
 v5 := Tryz.zeroValue5
 t9 := Tryz.underlying9
 a9 := Tryz.isAgg9
 z9 := Tryz.sizeOf9
 v9 := Tryz.zeroValue9
 t21 := Tryz.underlying21
 a21 := Tryz.isAgg21
 z21 := Tryz.sizeOf21
 v21 := Tryz.zeroValue21
 t31 := Tryz.underlying135
 a31 := Tryz.isAgg135
 z31 := Tryz.sizeOf135
 v31 := Tryz.zeroValue135
 t46 := Tryz.underlying117
 a46 := Tryz.isAgg117
 z46 := Tryz.sizeOf117
 v46 := Tryz.zeroValue117
 t51 := Tryz.underlying173
 a51 := Tryz.isAgg173
 z51 := Tryz.sizeOf173
 v51 := Tryz.zeroValue173
 t105 := Tryz.underlying167
 a105 := Tryz.isAgg167
 z105 := Tryz.sizeOf167
 v105 := Tryz.zeroValue167
 t119 := Tryz.underlying180
 a119 := Tryz.isAgg180
 z119 := Tryz.sizeOf180
 t138 := Tryz.underlying182
 a138 := Tryz.isAgg182
 z138 := Tryz.sizeOf182
 v138 := Tryz.zeroValue182
 t139 := Tryz.underlying183
 a139 := Tryz.isAgg183
 z139 := Tryz.sizeOf183
 v139 := Tryz.zeroValue183
 t146 := Tryz.underlying174
 a146 := Tryz.isAgg174
 z146 := Tryz.sizeOf174
 v146 := Tryz.zeroValue174
 g1 := by kernel_rfl
 g3 := by kernel_rfl
 g4 := by kernel_rfl }
open Go.RowKit Go.Lib in
theorem Tryz.strings_Split (s sep : ByteArray) (m : Int) (w : World) (hs : s.size < 4294967281) (hm : w.cell? ⟨0, 0, none⟩ = some (.int .i64 m)) (h1 : 1 ≤ sep.size) :
  Calls Tryz.prog 130 #[.string s, .string sep] w fun e w' =>
   e = .returned (.slice (some ⟨w.heap.size, 0, none⟩) (Lib.countB s sep + 1) (Lib.countB s sep + 1)) ∧ w' = w.alloc (.cells ((Lib.splitB sep 0 (Lib.countB s sep) s).map Value.string).toArray 9) := Any.strings_Split Tryz.lays146 (by kernel_rfl) s sep m w hs hm h1
def Tryz.lays147_ren : Go.Shelf.Ren := ⟨fun | 147 => 132 | 221 => 140 | 268 => 146 | 138 => 147 | 143 => 148 | 195 => 156 | 197 => 157 | 218 => 158 | 219 => 149 | 260 => 168 | 217 => 159 | 225 => 160 | 224 => 161 | 267 => 162 | 266 => 169 | 314 => 170 | n => n, fun | 9 => 9 | 3 => 3 | 31 => 135 | 4 => 4 | 0 => 0 | 105 => 167 | 21 => 21 | 5 => 5 | 46 => 117 | 119 => 180 | 139 => 183 | 138 => 182 | 146 => 174 | 51 => 173 | n => n, fun | 1 => 0 | 3 => 1 | 4 => 2 | n => n⟩
theorem Tryz.lays147 : Go.Proofs.Lays.n147 Tryz.prog Tryz.lays147_ren := {
 mixed := by kernel_rfl
 f138 := Tryz.func147.trans (congrArg some (by kernel_rfl))
 f143 := Tryz.func148.trans (congrArg some (by kernel_rfl))
 f147 := Tryz.func132.trans (congrArg some (by kernel_rfl))
 f195 := Tryz.func156.trans (congrArg some (by kernel_rfl))
 f197 := Tryz.func157.trans (congrArg some (by kernel_rfl))
 f217 := Tryz.func159.trans (congrArg some (by kernel_rfl))
 f218 := Tryz.func158.trans (congrArg some (by kernel_rfl))
 f219 := Tryz.func149.trans (congrArg some (by kernel_rfl))
 f221 := Tryz.func140.trans (congrArg some (by kernel_rfl))
 f224 := Tryz.func161.trans (congrArg some (by kernel_rfl))
 f225 := Tryz.func160.trans (congrArg some (by kernel_rfl))
 f260 := Tryz.func168.trans (congrArg some (by kernel_rfl))
 f266 := Tryz.func169.trans (congrArg some (by kernel_rfl))
 f267 := Tryz.func162.trans (congrArg some (by kernel_rfl))
 f268 := Tryz.func146.trans (congrArg some (by kernel_rfl))
 f314 := Tryz.func170.trans (congrArg some (by kernel_rfl))
 t0 := Tryz.underlying0
 a0 := Tryz.isAgg0
 z0 := Tryz.sizeOf0
 v0 := Tryz.zeroValue0
 t3 := Tryz.underlying3
 a3 := Tryz.isAgg3
 z3 := Tryz.sizeOf3
 v3 := Tryz.zeroValue3
 t4 := Tryz.underlying4
 a4 := Tryz.isAgg4
 z4 := Tryz.sizeOf4
 v4 := Tryz.zeroValue4
 t5 := Tryz.underlying5
 a5 := Tryz.isAgg5
 z5 := Tryz.sizeOf5
 v5 := Tryz.zeroValue5
 t9 := Tryz.underlying9
 a9 := Tryz.isAgg9
 z9 := Tryz.sizeOf9
 v9 := Tryz.zeroValue9
 t21 := Tryz.underlying21
 a21 := Tryz.isAgg21
 z21 := Tryz.sizeOf21
 v21 := Tryz.zeroValue21
 t31 := Tryz.underlying135
 a31 := Tryz.isAgg135
 z31 := Tryz.sizeOf135
 v31 := Tryz.zeroValue135
 t46 := Tryz.underlying117
 a46 := Tryz.isAgg117
 z46 := Tryz.sizeOf117
 v46 := Tryz.zeroValue117
 t51 := Tryz.underlying173
 a51 := Tryz.isAgg173
 z51 := Tryz.sizeOf173
 v51 := Tryz.zeroValue173
 t105 := Tryz.underlying167
 a105 := Tryz.isAgg167
 z105 := Tryz.sizeOf167
 v105 := Tryz.zeroValue167
 t119 := Tryz.underlying180
 a119 := Tryz.isAgg180
 z119 := Tryz.sizeOf180
 t138 := Tryz.underlying182
 a138 := Tryz.isAgg182
 z138 := Tryz.sizeOf182
 v138 := Tryz.zeroValue182
 t139 := Tryz.underlying183
 a139 := Tryz.isAgg183
 z139 := Tryz.sizeOf183
 v139 := Tryz.zeroValue183
 t146 := Tryz.underlying174
 a146 := Tryz.isAgg174
 z146 := Tryz.sizeOf174
 v146 := Tryz.zeroValue174
 g1 := by kernel_rfl
 g3 := by kernel_rfl
 g4 := by kernel_rfl }
open Go.RowKit Go.Lib in
theorem Tryz.strings_SplitN (s sep : ByteArray) (n : Nat) (m : Int) (w : World) (hs : s.size < 4294967281) (hm : w.cell? ⟨0, 0, none⟩ = some (.int .i64 m)) (h1 : 1 ≤ sep.size) (hn : 1 ≤ n) (hn63 : n ≤ 9223372036854775807) :
  Calls Tryz.prog 132 #[.string s, .string sep, .int .i64 n] w fun e w' =>
   e = .returned (.slice (some ⟨w.heap.size, 0, none⟩) (Lib.splitB sep 0 (min n (s.size + 1) - 1) s).length (min n (s.size + 1))) ∧ w' = w.alloc (.cells (Lib.cellsOf (Lib.splitB sep 0 (min n (s.size + 1) - 1) s) (min n (s.size + 1))) 9) := Any.strings_SplitN Tryz.lays147 (by kernel_rfl) s sep n m w hs hm h1 hn hn63
end Go.Proofs

namespace Go.Proofs.YthkepmicdpgbbaaGreatDoor.P
open Go Go.RowKit
set_option linter.unusedVariables false
structure GW (w : World) : Prop where
 tab : Lib.TabIs Tryz.prog w "internal/strconv.uint64pow10" .u64 Lib.pow10Tab
 most : ∃ (m : Int) (g : Nat), Tryz.prog.globalNamed "internal/bytealg.MaxLen" = some g ∧ w.cell? ⟨g, 0, none⟩ = some (.int .i64 m) ∧ g < w.heap.size
theorem GW.below {w w' : World} (h : GW w) (hb : Below w.heap.size w w') : GW w' := ⟨Lib.tabBelow_of_tabIs h.tab _ hb, let ⟨m, g, hn, hc, hl⟩ := h.most; ⟨m, g, hn, (hb.cell (p := ⟨g, 0, none⟩) hl).trans hc, Nat.lt_of_lt_of_le hl hb.size⟩⟩
theorem own_new (w : World) (e : TypeId) (cur : Array Value) (n cap : Nat) (xs : List Value) (h0 : xs.length = n) (h1 : n ≤ cap) (h2 : cap ≤ maxLen) (h3 : cur.size = cap) (h4 : cur.toList.take n = xs) :
  (w.alloc (.cells cur e)).ownsRow w.heap.size e 1 (.slice (some ⟨w.heap.size, 0, none⟩) n cap) n xs := by
 refine ⟨by rw [h0, Nat.mul_one], .inr ⟨w.heap.size, cap, cur, rfl, Nat.le_refl _, ?_, h1, h2, by rw [h3, Nat.mul_one], by rw [Nat.mul_one]; exact h4⟩⟩
 exact heap_alloc_new w _
end Go.Proofs.YthkepmicdpgbbaaGreatDoor.P

namespace Go.Proofs.YthkepmicdpgbbaaGreatDoor.E
open Go Go.RowKit
set_option linter.unusedVariables false
set_option linter.unusedSimpArgs false
inductive CV where
 | b (x : Bool)
 | i (k : IntKind) (n : Int)
 | s (x : ByteArray)
 | row (l : List (List CV))
inductive PV where
 | v (c : CV)
 | nil
 | own (id n : Nat)
 | ptr (id o : Nat)
 | eptr (id n e o : Nat)
 | rptr (cs : List CV)
 | agg (cs : List PV)
 | tup (vs : List PV)
 | un
inductive Blk where
 | arr (sz : Nat) (ty : TypeId) (fz : Bool) (els : List (List CV))
 | box (ty : TypeId) (cs : List PV)
 | tree (sz : Nat) (ty ty2 : TypeId) (els : List (List CV))
 | junk
structure Gh where
 base : Nat
 old : Nat → Prop
 own : Nat → Option Nat
 inf : Nat → Option (Nat × Nat × Bool)
 top : Nat → Prop
def Gh.imm (G : Gh) (b : Nat) : Prop :=
 (b < G.base ∧ G.own b = none ∧ G.old b) ∨ (G.base ≤ b ∧ G.own b = none) ∨ ∃ id sz n, G.own b = some id ∧ G.inf id = some (sz, n, true)
mutual
def RepC (imm : Nat → Prop) (w : World) : CV → Value → Prop
 | .b x, v => v = .bool x
 | .i k n, v => v = .int k n
 | .s x, v => v = .string x
 | .row l, v => ∃ A c, v = .slice A l.length c ∧ l.length ≤ c ∧ l.length ≤ maxLen ∧
   (l = [] ∨ ∃ b o sz cs ty fr, A = some ⟨b, o, none⟩ ∧ imm b ∧ w.heap[b]? = some (.cells cs ty fr) ∧ 0 < sz ∧ RepE imm w sz l (cs.toList.drop o))
def RepP (imm : Nat → Prop) (w : World) : List CV → List Value → Prop
 | [], _ => True
 | p :: ps, vs => ∃ v vs', vs = v :: vs' ∧ RepC imm w p v ∧ RepP imm w ps vs'
def RepE (imm : Nat → Prop) (w : World) (sz : Nat) : List (List CV) → List Value → Prop
 | [], _ => True
 | e :: es, vs => e.length = sz ∧ RepP imm w e vs ∧ RepE imm w sz es (vs.drop sz)
end
def OwnV (G : Gh) (w : World) (id n : Nat) (v : Value) : Prop :=
 ∃ sz m f, G.inf id = some (sz, m, f) ∧ 0 < sz ∧ v.oneCell' = true ∧ (n < m ∨ n = m ∧ ((v = .slice none 0 0 ∧ n = 0) ∨
  ∃ b c cs ty, v = .slice (some ⟨b, 0, none⟩) n c ∧ (G.own b = some id ∧ G.top b) ∧ w.heap[b]? = some (.cells cs ty (0, 0)) ∧ cs.size = c * sz ∧ n ≤ c ∧ c ≤ maxLen))
def EptrV (G : Gh) (w : World) (id n e o : Nat) (v : Value) : Prop :=
 ∃ sz m f, G.inf id = some (sz, m, f) ∧ v.oneCell' = true ∧ (n < m ∨ n = m ∧ ∃ b, v = .pointer (some ⟨b, e * sz + o, none⟩) ∧ (G.own b = some id ∧ G.top b))
mutual
def Reps (G : Gh) (w : World) : PV → Value → Prop
 | .v c, v => RepC G.imm w c v
 | .nil, v => v = .slice none 0 0
 | .own id n, v => OwnV G w id n v
 | .ptr id o, v => EptrV G w id 1 0 o v
 | .eptr id n e o, v => EptrV G w id n e o v
 | .rptr cs, v => ∃ b o vs ty fr, v = .pointer (some ⟨b, o, none⟩) ∧ G.imm b ∧ w.heap[b]? = some (.cells vs ty fr) ∧ RepP G.imm w cs (vs.toList.drop o)
 | .agg cs, v => ∃ vs, v = .agg vs ∧ RepsL G w cs vs.toList
 | .tup cs, v => ∃ vs, v = .tuple vs ∧ RepsL G w cs vs.toList
 | .un, _ => True
def RepsL (G : Gh) (w : World) : List PV → List Value → Prop
 | [], vs => vs = []
 | p :: ps, vs => ∃ v vs', vs = v :: vs' ∧ Reps G w p v ∧ RepsL G w ps vs'
end
def InnR (G : Gh) (w : World) (id : Nat) (ty2 : TypeId) (l : List (List CV)) (v : Value) : Prop :=
 (l = [] ∧ v = .slice none 0 0) ∨ ∃ b c cs, v = .slice (some ⟨b, 0, none⟩) l.length c ∧ G.own b = some id ∧ ¬ G.top b ∧ w.heap[b]? = some (.cells cs ty2 (0, 0)) ∧ cs.size = c ∧ l.length ≤ c ∧ c ≤ maxLen ∧ RepE (fun _ => False) w 1 l cs.toList
def TrC (G : Gh) (w : World) (id : Nat) (ty2 : TypeId) : CV → Value → Prop
 | .b x, v => v = .bool x
 | .i k n, v => v = .int k n
 | .s x, v => v = .string x
 | .row l, v => InnR G w id ty2 l v
def TrP (G : Gh) (w : World) (id : Nat) (ty2 : TypeId) : List CV → List Value → Prop
 | [], _ => True
 | p :: ps, vs => ∃ v vs', vs = v :: vs' ∧ TrC G w id ty2 p v ∧ TrP G w id ty2 ps vs'
def blkC : CV → Value → List Nat
 | .row _, .slice (some a) _ _ => [a.block]
 | _, _ => []
def blkP : List CV → List Value → List Nat
 | p :: ps, v :: vs => blkC p v ++ blkP ps vs
 | _, _ => []
def RelB (G : Gh) (w : World) (id : Nat) : Option Blk → Prop
 | none => G.inf id = none ∧ ∀ b, G.own b ≠ some id
 | some (.arr sz ty fz els) => G.inf id = some (sz, els.length, fz) ∧ 0 < sz ∧ (∀ b b', G.own b = some id → G.own b' = some id → b = b') ∧
   ((els = [] ∧ ∀ b, G.own b ≠ some id) ∨ ∃ b cs, (G.own b = some id ∧ G.top b) ∧ w.heap[b]? = some (.cells cs ty (0, 0)) ∧ els.length * sz ≤ cs.size ∧ RepE G.imm w sz els cs.toList)
 | some (.box ty cs) => G.inf id = some (cs.length, 1, false) ∧ (∀ b b', G.own b = some id → G.own b' = some id → b = b') ∧
   ∃ b vs, (G.own b = some id ∧ G.top b) ∧ w.heap[b]? = some (.cells vs ty (0, 0)) ∧ (∀ v ∈ vs.toList, v.oneCell' = true) ∧ RepsL G w cs vs.toList
 | some (.tree sz ty ty2 els) => G.inf id = some (sz, els.length, false) ∧ 0 < sz ∧ (∀ b b', G.own b = some id → G.top b → G.own b' = some id → G.top b' → b = b') ∧
   ((els = [] ∧ ∀ b, G.own b = some id → ¬ G.top b) ∨ ∃ b cs, (G.own b = some id ∧ G.top b) ∧ w.heap[b]? = some (.cells cs ty (0, 0)) ∧ els.length * sz ≤ cs.size ∧ (∀ x ∈ els, x.length = sz) ∧ TrP G w id ty2 els.flatten cs.toList ∧ (blkP els.flatten cs.toList).Nodup)
 | some .junk => ∃ sz n, G.inf id = some (sz, n, false)
structure Inv (G : Gh) (w : World) : Prop where
 base : G.base ≤ w.heap.size
 own : ∀ b id, G.own b = some id → b < w.heap.size
 top : ∀ b, w.heap.size ≤ b → G.top b
 gw : ∃ w0, P.GW w0 ∧ Below w0.heap.size w0 w ∧ ∀ b, b < w0.heap.size → G.own b = none
structure Ext (ids : List Nat) (G : Gh) (w : World) (G' : Gh) (w' : World) : Prop where
 os : w'.os = w.os
 tape : w'.tape = w.tape
 output : w'.output = w.output
 size : w.heap.size ≤ w'.heap.size
 base : G'.base = G.base
 old : G'.old = G.old
 nn : ∀ b, b < w.heap.size → G.own b = none → G'.own b = none ∧ w'.heap[b]? = w.heap[b]?
 sm : ∀ b id, G.own b = some id → (id ∉ ids → G'.own b = some id ∧ w'.heap[b]? = w.heap[b]?) ∧ (G'.own b = some id ∨ G'.own b = none ∨ id ∈ ids ∧ ∃ j, j ∈ ids ∧ G'.own b = some j ∧ ¬ G'.top b)
 same : ∀ b id cs ty, G.own b = some id → G'.own b = some id → (∃ sz n f f', G.inf id = some (sz, n, f) ∧ G'.inf id = some (sz, n, f')) → w.heap[b]? = some (.cells cs ty (0, 0)) → ∃ cs', w'.heap[b]? = some (.cells cs' ty (0, 0)) ∧ cs'.size = cs.size
 fz : ∀ b id sz n, G.own b = some id → G.inf id = some (sz, n, true) → G'.own b = some id ∧ w'.heap[b]? = w.heap[b]?
 inf : ∀ id sz n f, G.inf id = some (sz, n, f) → ∃ n' f', G'.inf id = some (sz, n', f') ∧ n ≤ n' ∧ (f = true → f' = true ∧ n' = n) ∧ (n' = n → ∀ b, G.own b = some id → G'.own b = some id)
 out : ∀ id, id ∉ ids → G'.inf id = G.inf id
 new : ∀ b id, w.heap.size ≤ b → G'.own b = some id → id ∈ ids
 keep : ∀ b id, G'.own b = some id → b < w'.heap.size
 tp : ∀ b id, G.own b = some id → G'.own b = some id → (∃ sz n f f', G.inf id = some (sz, n, f) ∧ G'.inf id = some (sz, n, f')) → G.top b → G'.top b
 nt : ∀ b, G.own b ≠ none → ¬ G.top b → G'.own b ≠ none → ¬ G'.top b
 tn : ∀ b, w'.heap.size ≤ b → G'.top b
theorem imm_ext {ids : List Nat} {G G' : Gh} {w w' : World} (h : Ext ids G w G' w') (hi : Inv G w) {b : Nat} {o : Obj} (hb : w.heap[b]? = some o) (m : G.imm b) : G'.imm b ∧ w'.heap[b]? = some o := by
 have hlt : b < w.heap.size := (Array.getElem?_eq_some_iff.1 hb).1
 rcases m with ⟨h1, h2, h3⟩ | ⟨h1, h2⟩ | ⟨id, sz, n, h1, h2⟩
 ·obtain ⟨a1, a2⟩ := h.nn b hlt h2
  exact ⟨.inl ⟨by rw [h.base]; exact h1, a1, by rw [h.old]; exact h3⟩, a2.trans hb⟩
 ·obtain ⟨a1, a2⟩ := h.nn b hlt h2
  exact ⟨.inr (.inl ⟨by rw [h.base]; exact h1, a1⟩), a2.trans hb⟩
 ·obtain ⟨a1, a2⟩ := h.fz b id sz n h1 h2
  obtain ⟨n', f', b1, _, b3, _⟩ := h.inf id sz n true h2
  obtain ⟨rfl, rfl⟩ := b3 rfl
  exact ⟨.inr (.inr ⟨id, sz, n', a1, b1⟩), a2.trans hb⟩
mutual
theorem RepC.mono {I I' : Nat → Prop} {w w' : World} (h : ∀ b o, w.heap[b]? = some o → I b → I' b ∧ w'.heap[b]? = some o) : ∀ (c : CV) (v : Value), RepC I w c v → RepC I' w' c v
 | .b x, v, r => r
 | .i k n, v, r => r
 | .s x, v, r => r
 | .row l, v, r => by
  simp only [RepC] at r ⊢
  obtain ⟨A, c, h1, h2, h3, h4⟩ := r
  refine ⟨A, c, h1, h2, h3, ?_⟩
  rcases h4 with h4 | ⟨b, o, sz, cs, ty, fr, h5, h6, h7, h8, h9⟩
  ·exact .inl h4
  ·obtain ⟨a1, a2⟩ := h b _ h7 h6
   exact .inr ⟨b, o, sz, cs, ty, fr, h5, a1, a2, h8, RepE.mono h sz l _ h9⟩
theorem RepP.mono {I I' : Nat → Prop} {w w' : World} (h : ∀ b o, w.heap[b]? = some o → I b → I' b ∧ w'.heap[b]? = some o) : ∀ (l : List CV) (vs : List Value), RepP I w l vs → RepP I' w' l vs
 | [], _, _ => by simp [RepP]
 | p :: ps, vs, r => by
  simp only [RepP] at r ⊢
  obtain ⟨v, vs', h1, h2, h3⟩ := r
  exact ⟨v, vs', h1, RepC.mono h p v h2, RepP.mono h ps vs' h3⟩
theorem RepE.mono {I I' : Nat → Prop} {w w' : World} (h : ∀ b o, w.heap[b]? = some o → I b → I' b ∧ w'.heap[b]? = some o) (sz : Nat) : ∀ (l : List (List CV)) (vs : List Value), RepE I w sz l vs → RepE I' w' sz l vs
 | [], _, _ => by simp [RepE]
 | e :: es, vs, r => by
  simp only [RepE] at r ⊢
  exact ⟨r.1, RepP.mono h e vs r.2.1, RepE.mono h sz es _ r.2.2⟩
end
section
variable {ids : List Nat} {G G' : Gh} {w w' : World}
theorem immw_ext (h : Ext ids G w G' w') (hi : Inv G w) : ∀ b o, w.heap[b]? = some o → G.imm b → G'.imm b ∧ w'.heap[b]? = some o := fun _ _ hb m => imm_ext h hi hb m
theorem OwnV.ext (h : Ext ids G w G' w') {id n : Nat} {v : Value} (r : OwnV G w id n v) : OwnV G' w' id n v := by
 obtain ⟨sz, m, f, h1, h2, h2c, h3⟩ := r
 obtain ⟨m', f', b1, b2, b3, b4⟩ := h.inf id sz m f h1
 refine ⟨sz, m', f', b1, h2, h2c, ?_⟩
 rcases h3 with h3 | ⟨h3, h4⟩
 ·exact .inl (by omega)
 ·by_cases hm : m' = m
  ·refine .inr ⟨by omega, ?_⟩
   rcases h4 with h4 | ⟨b, c, cs, ty, h5, h6, h7, h8, h9, h10⟩
   ·exact .inl h4
   ·have h6' := b4 hm b h6.1
    obtain ⟨cs', d1, d2⟩ := h.same b id cs ty h6.1 h6' ⟨sz, m, f, f', h1, by rw [b1, hm]⟩ h7
    exact .inr ⟨b, c, cs', ty, h5, ⟨h6', h.tp b id h6.1 h6' ⟨sz, m, f, f', h1, by rw [b1, hm]⟩ h6.2⟩, d1, d2.trans h8, h9, h10⟩
  ·exact .inl (by omega)
theorem EptrV.ext (h : Ext ids G w G' w') {id n e o : Nat} {v : Value} (r : EptrV G w id n e o v) : EptrV G' w' id n e o v := by
 obtain ⟨sz, m, f, h1, h2c, h3⟩ := r
 obtain ⟨m', f', b1, b2, b3, b4⟩ := h.inf id sz m f h1
 refine ⟨sz, m', f', b1, h2c, ?_⟩
 rcases h3 with h3 | ⟨h3, b, h5, h6⟩
 ·exact .inl (by omega)
 ·by_cases hm : m' = m
  ·exact .inr ⟨by omega, b, h5, b4 hm b h6.1, h.tp b id h6.1 (b4 hm b h6.1) ⟨sz, m, f, f', h1, by rw [b1, hm]⟩ h6.2⟩
  ·exact .inl (by omega)
mutual
theorem Reps.ext (h : Ext ids G w G' w') (hi : Inv G w) : ∀ (p : PV) (v : Value), Reps G w p v → Reps G' w' p v
 | .v c, v, r => by
  simp only [Reps] at r ⊢
  exact RepC.mono (immw_ext h hi) c v r
 | .nil, v, r => by simpa only [Reps] using r
 | .own id n, v, r => by
  simp only [Reps] at r ⊢
  exact r.ext h
 | .ptr id o, v, r => by
  simp only [Reps] at r ⊢
  exact r.ext h
 | .eptr id n e o, v, r => by
  simp only [Reps] at r ⊢
  exact r.ext h
 | .rptr cs, v, r => by
  simp only [Reps] at r ⊢
  obtain ⟨b, o, vs, ty, fr, h1, h2, h3, h4⟩ := r
  obtain ⟨a1, a2⟩ := imm_ext h hi h3 h2
  exact ⟨b, o, vs, ty, fr, h1, a1, a2, RepP.mono (immw_ext h hi) cs _ h4⟩
 | .agg cs, v, r => by
  simp only [Reps] at r ⊢
  obtain ⟨vs, h1, h2⟩ := r
  exact ⟨vs, h1, RepsL.ext h hi cs _ h2⟩
 | .tup cs, v, r => by
  simp only [Reps] at r ⊢
  obtain ⟨vs, h1, h2⟩ := r
  exact ⟨vs, h1, RepsL.ext h hi cs _ h2⟩
 | .un, v, r => by simp only [Reps]
theorem RepsL.ext (h : Ext ids G w G' w') (hi : Inv G w) : ∀ (l : List PV) (vs : List Value), RepsL G w l vs → RepsL G' w' l vs
 | [], vs, r => by simpa only [RepsL] using r
 | p :: ps, vs, r => by
  simp only [RepsL] at r ⊢
  obtain ⟨v, vs', h1, h2, h3⟩ := r
  exact ⟨v, vs', h1, Reps.ext h hi p v h2, RepsL.ext h hi ps vs' h3⟩
end
end
end Go.Proofs.YthkepmicdpgbbaaGreatDoor.E

namespace Go.Proofs.YthkepmicdpgbbaaGreatDoor.E
open Go Go.RowKit
set_option linter.unusedVariables false
set_option linter.unusedSimpArgs false
section
variable {ids ids1 ids2 : List Nat} {G G' G1 G2 : Gh} {w w' w1 w2 : World}
theorem Ext.refl (hi : Inv G w) (ids : List Nat) : Ext ids G w G w where
 os := rfl
 tape := rfl
 output := rfl
 size := Nat.le_refl _
 base := rfl
 old := rfl
 nn := fun b _ h => ⟨h, rfl⟩
 sm := fun b id h => ⟨fun _ => ⟨h, rfl⟩, .inl h⟩
 same := fun b id cs ty _ _ _ h => ⟨cs, h, rfl⟩
 fz := fun b id sz n h _ => ⟨h, rfl⟩
 inf := fun id sz n f h => ⟨n, f, h, Nat.le_refl _, fun e => ⟨e, rfl⟩, fun _ b hb => hb⟩
 out := fun _ _ => rfl
 new := fun b id h1 h2 => absurd (hi.own b id h2) (by omega)
 keep := hi.own
 tp := fun _ _ _ _ _ h => h
 nt := fun _ _ h _ => h
 tn := hi.top
theorem Ext.trans (hi : Inv G w) (h : Ext ids1 G w G1 w1) (k : Ext ids2 G1 w1 G2 w2) : Ext (ids1 ++ ids2) G w G2 w2 where
 os := k.os.trans h.os
 tape := k.tape.trans h.tape
 output := k.output.trans h.output
 size := Nat.le_trans h.size k.size
 base := k.base.trans h.base
 old := k.old.trans h.old
 nn := fun b hb h0 => by
  obtain ⟨a1, a2⟩ := h.nn b hb h0
  obtain ⟨c1, c2⟩ := k.nn b (Nat.lt_of_lt_of_le hb h.size) a1
  exact ⟨c1, c2.trans a2⟩
 sm := fun b id h0 => by
  have hb := hi.own b id h0
  refine ⟨fun hn => ?_, ?_⟩
  ·obtain ⟨a1, a2⟩ := (h.sm b id h0).1 (fun e => hn (List.mem_append_left _ e))
   obtain ⟨c1, c2⟩ := (k.sm b id a1).1 (fun e => hn (List.mem_append_right _ e))
   exact ⟨c1, c2.trans a2⟩
  ·rcases (h.sm b id h0).2 with a | a | ⟨a1, j, a2, a3, a4⟩
   ·rcases (k.sm b id a).2 with c | c | ⟨c1, j, c2, c3, c4⟩
    ·exact .inl c
    ·exact .inr (.inl c)
    ·exact .inr (.inr ⟨List.mem_append_right _ c1, j, List.mem_append_right _ c2, c3, c4⟩)
   ·exact .inr (.inl (k.nn b (Nat.lt_of_lt_of_le hb h.size) a).1)
   ·rcases (k.sm b j a3).2 with c | c | ⟨c1, j', c2, c3, c4⟩
    ·exact .inr (.inr ⟨List.mem_append_left _ a1, j, List.mem_append_left _ a2, c, k.nt b (by rw [a3]; simp) a4 (by rw [c]; simp)⟩)
    ·exact .inr (.inl c)
    ·exact .inr (.inr ⟨List.mem_append_left _ a1, j', List.mem_append_right _ c2, c3, c4⟩)
 same := fun b id cs ty h0 h2 hm hc => by
  have hb := hi.own b id h0
  obtain ⟨sz, n, f, f', m1, m2⟩ := hm
  obtain ⟨n1, f1, e1, e2, _, e5⟩ := h.inf id sz n f m1
  obtain ⟨n2, f2, e3, e4, _⟩ := k.inf id sz n1 f1 e1
  rw [m2] at e3
  injection e3 with e3
  injection e3 with _ e3
  injection e3 with e3 _
  obtain rfl : n1 = n := by omega
  have hm1 : ∃ sz n f f', G.inf id = some (sz, n, f) ∧ G1.inf id = some (sz, n, f') := ⟨_, _, _, _, m1, e1⟩
  have hm2 : ∃ sz n f f', G1.inf id = some (sz, n, f) ∧ G2.inf id = some (sz, n, f') := ⟨_, _, _, _, e1, m2⟩
  have a := e5 rfl b h0
  obtain ⟨cs1, c1, c2⟩ := h.same b id cs ty h0 a hm1 hc
  obtain ⟨cs2, d1, d2⟩ := k.same b id cs1 ty a h2 hm2 c1
  exact ⟨cs2, d1, d2.trans c2⟩
 fz := fun b id sz n h0 hf => by
  obtain ⟨a1, a2⟩ := h.fz b id sz n h0 hf
  obtain ⟨n', f', b1, _, b3, _⟩ := h.inf id sz n true hf
  obtain ⟨rfl, rfl⟩ := b3 rfl
  obtain ⟨c1, c2⟩ := k.fz b id sz _ a1 b1
  exact ⟨c1, c2.trans a2⟩
 inf := fun id sz n f hf => by
  obtain ⟨n1, f1, b1, b2, b3, b4⟩ := h.inf id sz n f hf
  obtain ⟨n2, f2, d1, d2, d3, d4⟩ := k.inf id sz n1 f1 b1
  refine ⟨n2, f2, d1, by omega, fun e => ?_, fun e b hb => ?_⟩
  ·obtain ⟨rfl, rfl⟩ := b3 e
   exact d3 rfl
  ·have e1 : n1 = n := by omega
   exact d4 (by omega) b (b4 e1 b hb)
 out := fun id hn => (k.out id (fun e => hn (List.mem_append_right _ e))).trans (h.out id (fun e => hn (List.mem_append_left _ e)))
 new := fun b id hb h2 => by
  by_cases h1 : w1.heap.size ≤ b
  ·exact List.mem_append_right _ (k.new b id h1 h2)
  ·cases ho : G1.own b with
   | none => rw [(k.nn b (by omega) ho).1] at h2; cases h2
   | some id' =>
    rcases (k.sm b id' ho).2 with a | a | ⟨_, j, a2, a3, _⟩
    ·rw [a] at h2
     injection h2 with h2
     subst h2
     exact List.mem_append_left _ (h.new b _ hb ho)
    ·rw [a] at h2
     cases h2
    ·rw [a3] at h2
     injection h2 with h2
     subst h2
     exact List.mem_append_right _ a2
 keep := k.keep
 tp := fun b id h0 h2 hm ht => by
  obtain ⟨sz, n, f, f', m1, m2⟩ := hm
  obtain ⟨n1, f1, e1, e2, _, e5⟩ := h.inf id sz n f m1
  obtain ⟨n2, f2, e3, e4, _⟩ := k.inf id sz n1 f1 e1
  rw [m2] at e3
  injection e3 with e3
  injection e3 with _ e3
  injection e3 with e3 _
  obtain rfl : n1 = n := by omega
  exact k.tp b id (e5 rfl b h0) h2 ⟨_, _, _, _, e1, m2⟩ (h.tp b id h0 (e5 rfl b h0) ⟨_, _, _, _, m1, e1⟩ ht)
 nt := fun b h0 ht h2 => by
  cases ho : G.own b with
  | none => exact absurd ho h0
  | some id =>
   have hb := hi.own b id ho
   have h1 : G1.own b ≠ none := fun e => h2 (k.nn b (Nat.lt_of_lt_of_le hb h.size) e).1
   exact k.nt b h1 (h.nt b h0 ht h1) h2
 tn := k.tn
theorem Ext.mono (h : Ext ids1 G w G1 w1) (hs : ∀ x ∈ ids1, x ∈ ids2) : Ext ids2 G w G1 w1 :=
 {h with
  sm := fun b id h0 => ⟨fun hn => (h.sm b id h0).1 (fun e => hn (hs _ e)), by
   rcases (h.sm b id h0).2 with a | a | ⟨a1, j, a2, a3⟩
   ·exact .inl a
   ·exact .inr (.inl a)
   ·exact .inr (.inr ⟨hs _ a1, j, hs _ a2, a3⟩)⟩
  out := fun id hn => h.out id (fun e => hn (hs _ e))
  new := fun b id h1 h2 => hs _ (h.new b id h1 h2) }
theorem Inv.ext (hi : Inv G w) (h : Ext ids G w G' w') : Inv G' w' := ⟨by rw [h.base]; exact Nat.le_trans hi.base h.size, h.keep, h.tn, by
 obtain ⟨w0, g1, g2, g3⟩ := hi.gw
 exact ⟨w0, g1, ⟨h.os.trans g2.os, h.tape.trans g2.tape, h.output.trans g2.output, Nat.le_trans g2.size h.size, fun k hk => (h.nn k (Nat.lt_of_lt_of_le hk g2.size) (g3 k hk)).2.trans (g2.block k hk)⟩, fun b hb => (h.nn b (Nat.lt_of_lt_of_le hb g2.size) (g3 b hb)).1⟩⟩
theorem Inv.gwat (hi : Inv G w) : P.GW w := by
 obtain ⟨w0, g1, g2, _⟩ := hi.gw
 exact g1.below g2
theorem own_iff (h : Ext ids G w G' w') {id : Nat} (hn : id ∉ ids) (b : Nat) : G'.own b = some id ↔ G.own b = some id := by
 constructor
 ·intro h'
  by_cases hb : w.heap.size ≤ b
  ·exact absurd (h.new b id hb h') hn
  ·cases ho : G.own b with
   | none => rw [(h.nn b (by omega) ho).1] at h'; cases h'
   | some id' =>
    rcases (h.sm b id' ho).2 with a | a | ⟨_, j, a2, a3, _⟩
    ·rw [a] at h'
     exact h'
    ·rw [a] at h'
     cases h'
    ·rw [a3] at h'
     injection h' with h'
     subst h'
     exact absurd a2 hn
 ·intro h'
  exact ((h.sm b id h').1 hn).1
theorem own_top (h : Ext ids G w G' w') (hi : Inv G w) {id : Nat} (hn : id ∉ ids) {sz n : Nat} {f : Bool} (hf : G.inf id = some (sz, n, f)) {b : Nat} (ho : G.own b = some id) : G'.top b ↔ G.top b := by
 have ho' := (own_iff h hn b).2 ho
 refine ⟨fun ht => ?_, fun ht => h.tp b id ho ho' ⟨sz, n, f, f, hf, (h.out id hn).trans hf⟩ ht⟩
 refine Classical.byContradiction fun hc => ?_
 exact h.nt b (by rw [ho]; simp) hc (by rw [ho']; simp) ht
theorem InnR.ext (h : Ext ids G w G' w') (hi : Inv G w) {id : Nat} (hn : id ∉ ids) {sz n : Nat} {f : Bool} (hf : G.inf id = some (sz, n, f)) {ty2 : TypeId} {l : List (List CV)} {v : Value} (r : InnR G w id ty2 l v) : InnR G' w' id ty2 l v := by
 rcases r with r | ⟨b, c, cs, h1, h2, h3, h4, h5, h6, h7, h8⟩
 ·exact .inl r
 ·obtain ⟨a1, a2⟩ := (h.sm b id h2).1 hn
  exact .inr ⟨b, c, cs, h1, a1, fun ht => h3 ((own_top h hi hn hf h2).1 ht), a2.trans h4, h5, h6, h7, RepE.mono (fun _ _ _ e => e.elim) 1 l _ h8⟩
theorem TrC.mono {G G' : Gh} {w w' : World} {id id' : Nat} {ty2 : TypeId} (h : ∀ l v, InnR G w id ty2 l v → InnR G' w' id' ty2 l v) : ∀ {c : CV} {v : Value}, TrC G w id ty2 c v → TrC G' w' id' ty2 c v
 | .b _, _, r => r
 | .i _ _, _, r => r
 | .s _, _, r => r
 | .row l, v, r => h l v r
theorem TrP.mono {G G' : Gh} {w w' : World} {id id' : Nat} {ty2 : TypeId} (h : ∀ l v, InnR G w id ty2 l v → InnR G' w' id' ty2 l v) : ∀ {l : List CV} {vs : List Value}, TrP G w id ty2 l vs → TrP G' w' id' ty2 l vs
 | [], _, _ => by simp [TrP]
 | p :: ps, vs, r => by
  simp only [TrP] at r ⊢
  obtain ⟨v, vs', h1, h2, h3⟩ := r
  exact ⟨v, vs', h1, TrC.mono h h2, TrP.mono h h3⟩
theorem RelB.ext (h : Ext ids G w G' w') (hi : Inv G w) {id : Nat} (hn : id ∉ ids) : ∀ {B : Option Blk}, RelB G w id B → RelB G' w' id B
 | none, r => ⟨(h.out id hn).trans r.1, fun b e => r.2 b ((own_iff h hn b).1 e)⟩
 | some (.arr sz ty fz els), r => by
  obtain ⟨r1, r2, r3, r4⟩ := r
  refine ⟨(h.out id hn).trans r1, r2, fun b b' e e' => r3 b b' ((own_iff h hn b).1 e) ((own_iff h hn b').1 e'), ?_⟩
  rcases r4 with ⟨a, b⟩ | ⟨b, cs, a1, a2, a3, a4⟩
  ·exact .inl ⟨a, fun x e => b x ((own_iff h hn x).1 e)⟩
  ·obtain ⟨c1, c2⟩ := (h.sm b id a1.1).1 hn
   exact .inr ⟨b, cs, ⟨c1, (own_top h hi hn r1 a1.1).2 a1.2⟩, c2.trans a2, a3, RepE.mono (immw_ext h hi) sz els _ a4⟩
 | some (.box ty cs), r => by
  obtain ⟨r1, r2, b, vs, a1, a2, a3, a4⟩ := r
  obtain ⟨c1, c2⟩ := (h.sm b id a1.1).1 hn
  exact ⟨(h.out id hn).trans r1, fun b b' e e' => r2 b b' ((own_iff h hn b).1 e) ((own_iff h hn b').1 e'), b, vs, ⟨c1, (own_top h hi hn r1 a1.1).2 a1.2⟩, c2.trans a2, a3, RepsL.ext h hi cs _ a4⟩
 | some (.tree sz ty ty2 els), r => by
  obtain ⟨r1, r2, r3, r4⟩ := r
  have up : ∀ b, G'.own b = some id → G'.top b → G.own b = some id ∧ G.top b := fun b e1 e2 => by
   have e3 := (own_iff h hn b).1 e1
   exact ⟨e3, (own_top h hi hn r1 e3).1 e2⟩
  refine ⟨(h.out id hn).trans r1, r2, fun b b' e1 e2 e3 e4 => r3 b b' (up b e1 e2).1 (up b e1 e2).2 (up b' e3 e4).1 (up b' e3 e4).2, ?_⟩
  rcases r4 with ⟨a, b⟩ | ⟨b, cs, a1, a2, a3, a0, a4, a5⟩
  ·exact .inl ⟨a, fun x e ht => b x (up x e ht).1 (up x e ht).2⟩
  ·obtain ⟨c1, c2⟩ := (h.sm b id a1.1).1 hn
   exact .inr ⟨b, cs, ⟨c1, (own_top h hi hn r1 a1.1).2 a1.2⟩, c2.trans a2, a3, a0, TrP.mono (fun l v q => q.ext h hi hn r1) a4, a5⟩
 | some .junk, r => by
  obtain ⟨sz, n, r⟩ := r
  exact ⟨sz, n, (h.out id hn).trans r⟩
def Gh.put (G : Gh) (b id : Nat) (r : Nat × Nat × Bool) : Gh :=
 {G with own := fun x => if x = b then some id else G.own x, inf := fun x => if x = id then some r else G.inf x }
theorem own_lt (hi : Inv G w) {b id : Nat} (h : G.own b = some id) : b ≠ w.heap.size := fun e => absurd (hi.own b id h) (by omega)
theorem ext_alloc2 (hi : Inv G w) (id : Nat) (r : Nat × Nat × Bool) (h0 : G.inf id = none) (o : Obj) : Ext [id] G w (G.put w.heap.size id r) (w.alloc o) where
 os := rfl
 tape := rfl
 output := rfl
 size := by
  show w.heap.size ≤ (w.heap.push o).size
  rw [Array.size_push]
  omega
 base := rfl
 old := rfl
 nn := fun b hb h => by
  refine ⟨?_, Below.heap_alloc w o b hb⟩
  simp only [Gh.put]
  rw [if_neg (by omega)]
  exact h
 sm := fun b i h => by
  have hb := hi.own b i h
  have he : (G.put w.heap.size id r).own b = some i := by
   simp only [Gh.put]
   rw [if_neg (by omega)]
   exact h
  exact ⟨fun _ => ⟨he, Below.heap_alloc w o b hb⟩, .inl he⟩
 same := fun b i cs ty h1 h2 _ h3 => ⟨cs, (Below.heap_alloc w o b (hi.own b i h1)).trans h3, rfl⟩
 fz := fun b i sz n h _ => by
  have hb := hi.own b i h
  refine ⟨?_, Below.heap_alloc w o b hb⟩
  simp only [Gh.put]
  rw [if_neg (by omega)]
  exact h
 inf := fun i sz n f h => by
  refine ⟨n, f, ?_, Nat.le_refl _, fun e => ⟨e, rfl⟩, fun _ b hb => ?_⟩
  ·simp only [Gh.put]
   rw [if_neg]
   ·exact h
   ·intro e
    subst e
    rw [h0] at h
    cases h
  ·simp only [Gh.put]
   rw [if_neg (own_lt hi hb)]
   exact hb
 out := fun i hn => by
  simp only [Gh.put]
  rw [if_neg (by simpa using hn)]
 new := fun b i h1 h2 => by
  simp only [Gh.put] at h2
  split at h2
  ·injection h2 with h2
   simp [h2]
  ·exact absurd (hi.own b i h2) (by omega)
 keep := fun b i h => by
  simp only [Gh.put] at h
  have hs : (w.alloc o).heap.size = w.heap.size + 1 := by
   show (w.heap.push o).size = _
   rw [Array.size_push]
  split at h
  ·omega
  ·have := hi.own b i h
   omega
 tp := fun _ _ _ _ _ h => h
 nt := fun _ _ h _ => h
 tn := fun b hb => by
  have hs : (w.alloc o).heap.size = w.heap.size + 1 := by
   show (w.heap.push o).size = _
   rw [Array.size_push]
  exact hi.top b (by omega)
theorem ext_alloc (hi : Inv G w) (id : Nat) (r : Nat × Nat × Bool) (h0 : RelB G w id none) (o : Obj) : Ext [id] G w (G.put w.heap.size id r) (w.alloc o) := ext_alloc2 hi id r h0.1 o
theorem put_own (G : Gh) (b id : Nat) (r : Nat × Nat × Bool) : (G.put b id r).own b = some id := by simp [Gh.put]
theorem put_inf (G : Gh) (b id : Nat) (r : Nat × Nat × Bool) : (G.put b id r).inf id = some r := by simp [Gh.put]
theorem put_uniq {id : Nat} (h0 : RelB G w id none) (b : Nat) (r : Nat × Nat × Bool) : ∀ x x', (G.put b id r).own x = some id → (G.put b id r).own x' = some id → x = x' := by
 intro x x' h h'
 simp only [Gh.put] at h h'
 split at h
 ·split at h'
  ·omega
  ·exact absurd h' (h0.2 _)
 ·exact absurd h (h0.2 _)
def Gh.frz (G : Gh) (ids : List Nat) : Gh := { G with inf := fun x => if x ∈ ids then (G.inf x).map (fun r => (r.1, r.2.1, true)) else G.inf x }
theorem ext_frz (hi : Inv G w) (ids : List Nat) : Ext ids G w (G.frz ids) w where
 os := rfl
 tape := rfl
 output := rfl
 size := Nat.le_refl _
 base := rfl
 old := rfl
 nn := fun b _ h => ⟨h, rfl⟩
 sm := fun b id h => ⟨fun _ => ⟨h, rfl⟩, .inl h⟩
 same := fun b id cs ty _ _ _ h => ⟨cs, h, rfl⟩
 fz := fun b id sz n h _ => ⟨h, rfl⟩
 inf := fun id sz n f h => by
  by_cases hm : id ∈ ids
  ·exact ⟨n, true, by simp [Gh.frz, hm, h], Nat.le_refl _, fun e => ⟨rfl, rfl⟩, fun _ b hb => hb⟩
  ·exact ⟨n, f, by simp [Gh.frz, hm, h], Nat.le_refl _, fun e => ⟨e, rfl⟩, fun _ b hb => hb⟩
 out := fun id hn => by simp [Gh.frz, hn]
 new := fun b id h1 h2 => absurd (hi.own b id h2) (by omega)
 keep := hi.own
 tp := fun _ _ _ _ _ h => h
 nt := fun _ _ h _ => h
 tn := hi.top
theorem ext_grow (hi : Inv G w) (hb : Below w.heap.size w w') : Ext [] G w G w' where
 os := hb.os
 tape := hb.tape
 output := hb.output
 size := hb.size
 base := rfl
 old := rfl
 nn := fun b hlt h => ⟨h, hb.block b hlt⟩
 sm := fun b id h => ⟨fun _ => ⟨h, hb.block b (hi.own b id h)⟩, .inl h⟩
 same := fun b id cs ty h _ _ hc => ⟨cs, (hb.block b (hi.own b id h)).trans hc, rfl⟩
 fz := fun b id sz n h _ => ⟨h, hb.block b (hi.own b id h)⟩
 inf := fun id sz n f h => ⟨n, f, h, Nat.le_refl _, fun e => ⟨e, rfl⟩, fun _ b hb => hb⟩
 out := fun _ _ => rfl
 new := fun b id h1 h2 => absurd (hi.own b id h2) (by omega)
 keep := fun b id h => Nat.lt_of_lt_of_le (hi.own b id h) hb.size
 tp := fun _ _ _ _ _ h => h
 nt := fun _ _ h _ => h
 tn := fun b h => hi.top b (Nat.le_trans hb.size h)
theorem ext_drew (hi : Inv G w) : Ext [] G w G w.drew :=
 {Ext.refl hi [] with nn := fun b _ h => ⟨h, rfl⟩ }
theorem ext_written (hi : Inv G w) {b id : Nat} {cs cs' : Array Value} {ty : TypeId} {sz n : Nat} (ho : G.own b = some id) (hf : G.inf id = some (sz, n, false)) (hb : w.heap[b]? = some (.cells cs ty (0, 0)))
  (hb' : w'.heap[b]? = some (.cells cs' ty (0, 0))) (hsz : cs'.size = cs.size) (hs : w'.heap.size = w.heap.size) (hoth : ∀ k, k ≠ b → w'.heap[k]? = w.heap[k]?) (e1 : w'.os = w.os) (e2 : w'.tape = w.tape) (e3 : w'.output = w.output) :
  Ext [id] G w G w' where
 os := e1
 tape := e2
 output := e3
 size := by omega
 base := rfl
 old := rfl
 nn := fun x hx h => ⟨h, hoth x (fun e => by subst e; rw [ho] at h; cases h)⟩
 sm := fun x i h => ⟨fun hn => ⟨h, hoth x (fun e => by subst e; rw [ho] at h; injection h with h; exact hn (by simp [h]))⟩, .inl h⟩
 same := fun x i c t h1 _ _ h3 => by
  by_cases e : x = b
  ·subst e
   rw [hb] at h3
   injection h3 with h3
   injection h3 with h3 h4
   subst h3 h4
   exact ⟨cs', hb', hsz⟩
  ·exact ⟨c, (hoth x e).trans h3, rfl⟩
 fz := fun x i s m h h2 => by
  refine ⟨h, hoth x (fun e => ?_)⟩
  subst e
  rw [ho] at h
  injection h with h
  subst h
  rw [hf] at h2
  injection h2 with h2
  injection h2 with h2 h3
  injection h3 with h3 h4
  cases h4
 inf := fun i s m f h => ⟨m, f, h, Nat.le_refl _, fun e => ⟨e, rfl⟩, fun _ x hx => hx⟩
 out := fun _ _ => rfl
 new := fun x i h1 h2 => absurd (hi.own x i h2) (by omega)
 keep := fun x i h => by rw [hs]; exact hi.own x i h
 tp := fun _ _ _ _ _ h => h
 nt := fun _ _ h _ => h
 tn := fun b h => hi.top b (by rw [← hs]; exact h)
end
end Go.Proofs.YthkepmicdpgbbaaGreatDoor.E

set_option linter.unusedVariables false
set_option linter.unusedSimpArgs false
namespace Go.Proofs.YthkepmicdpgbbaaGreatDoorW.PrintWords
open Go.RowKit
structure Aside0 (p : Prop) : Prop where mk :: (out : p)
structure Drawn0 (w w' : World) : Prop where mk :: (out : ∃ n, w' = w.drewN n)
theorem Drawn0.refl (w : World) : Drawn0 w w := ⟨⟨0, rfl⟩⟩
theorem Drawn0.step {w w' : World} (h : Drawn0 w w') (n : Nat) : Drawn0 w (w'.drewN n) := by
 obtain ⟨m, rfl⟩ := h
 exact ⟨⟨m + n, World.drewN_drewN ..⟩⟩
theorem Drawn0.grown {w w' : World} (h : Drawn0 w w') : Grown w w' := by
 obtain ⟨n, rfl⟩ := h
 induction n with
 | zero => exact Grown.refl _
 | succ n ih => rw [← World.drew_drewN]; exact Grown.drew ih
theorem Drawn0.below {w w' : World} (h : Drawn0 w w') : Below w.heap.size w w' := by
 obtain ⟨n, rfl⟩ := h
 induction n with
 | zero => exact Below.refl _ _
 | succ n ih => rw [← World.drew_drewN]; exact ih.drew
def rd (xs : List Int) (i : Int) : Int := xs.getD i.toNat 0
def bt (s : ByteArray) (i : Int) : Int := if h : i.toNat < s.size then ((s[i.toNat]'h).toNat : Int) else 0
def nums (k : IntKind) (xs : List Int) : List Value := xs.map fun x => .int k x
theorem below_alloc {w W : World} (h : Below w.heap.size w W) (o : Obj) : Below w.heap.size w (W.alloc o) := h.alloc h.size o
theorem below_drew {B : Nat} {w W : World} (h : Below B w W) : Below B w W.drew := ⟨h.os, h.tape, h.output, h.size, h.block⟩
theorem pw_below_drewN {B : Nat} {w W : World} (h : Below B w W) (n : Nat) : Below B w (W.drewN n) := ⟨h.os, h.tape, h.output, h.size, h.block⟩
theorem below_then {B : Nat} {w w1 w2 : World} (h : Below B w w1) (hB : B ≤ w1.heap.size) (k : Below w1.heap.size w1 w2) : Below B w w2 :=
 h.trans ⟨k.os, k.tape, k.output, k.size, fun i hi => k.block i (Nat.lt_of_lt_of_le hi hB)⟩
theorem grown_of_below {w w1 : World} (h : Below w.heap.size w w1) (row : Option Nat) : w.grownBy w1 row := ⟨h.os, h.tape, h.output, h.size, fun i hi _ => h.block i hi⟩
theorem pw_cell_below {w w1 : World} (h : Below w.heap.size w w1) {a : Addr} {v : Value} (hc : w.cell? a = some v) : w1.cell? a = some v := (h.cell (World.block_lt_of_cell? w a hc)).trans hc
def ReadsInt (w : World) (k : IntKind) (A : Option Addr) (n : Nat) (xs : List Int) : Prop :=
 xs.length = n ∧ n ≤ 9223372036854775807 ∧ (0 < n → ∃ ad, A = some ad ∧ ∀ j, j < n → w.cell? (ad.add j) = some (.int k (xs.getD j 0)))
theorem ReadsInt.at_ {w : World} {k : IntKind} {A : Option Addr} {n : Nat} {xs : List Int} (h : ReadsInt w k A n xs) (i : Int) (h0 : 0 ≤ i) (h1 : i < n) : ∃ ad, A = some ad ∧ w.cell? (ad.add i.toNat) = some (.int k (rd xs i)) := by
 obtain ⟨ad, e, hc⟩ := h.2.2 (by omega)
 exact ⟨ad, e, hc _ (by omega)⟩
theorem ReadsInt.below {w w1 : World} {k : IntKind} {A : Option Addr} {n : Nat} {xs : List Int} (h : ReadsInt w k A n xs) (hb : Below w.heap.size w w1) : ReadsInt w1 k A n xs :=
 ⟨h.1, h.2.1, fun hn => by
  obtain ⟨ad, e, hc⟩ := h.2.2 hn
  exact ⟨ad, e, fun j hj => pw_cell_below hb (hc j hj)⟩⟩
theorem own_nil (W : World) (base : Nat) (e : TypeId) (size : Nat) : W.ownsRow base e size (.slice none 0 0) 0 [] := ⟨by simp, .inl ⟨rfl, rfl⟩⟩
theorem own_base {w : World} {base : Nat} {e : TypeId} {size n : Nat} {v : Value} {xs : List Value} (h : w.ownsRow base e size v n xs) (k : Nat) (hk : v.ownBlock = some k) : base ≤ k := by
 rcases h.2 with ⟨rfl, _⟩ | ⟨g, cap, cur, rfl, hb, _⟩
 ·simp [Value.ownBlock] at hk
 ·have : g = k := by simpa [Value.ownBlock] using hk
  omega
theorem own_lt {w : World} {base : Nat} {e : TypeId} {size n : Nat} {v : Value} {xs : List Value} (h : w.ownsRow base e size v n xs) (k : Nat) (hk : v.ownBlock = some k) : k < w.heap.size := by
 rcases h.2 with ⟨rfl, _⟩ | ⟨g, cap, cur, rfl, hb, hh, _⟩
 ·simp [Value.ownBlock] at hk
 ·have : g = k := by simpa [Value.ownBlock] using hk
  subst this
  exact (Array.getElem?_eq_some_iff.1 hh).1
theorem pw_own_below {w w1 : World} {base : Nat} {e : TypeId} {size n : Nat} {v : Value} {xs : List Value} (h : w.ownsRow base e size v n xs) (hb : Below w.heap.size w w1) : w1.ownsRow base e size v n xs :=
 h.kept (grown_of_below hb none) (by cases v.ownBlock <;> simp)
theorem own_other {w w1 : World} {base : Nat} {e : TypeId} {size n : Nat} {v : Value} {xs : List Value} (h : w.ownsRow base e size v n xs) {row : Option Nat} (hg : w.grownBy w1 row) (hne : v.ownBlock = none ∨ v.ownBlock ≠ row) : w1.ownsRow base e size v n xs := h.kept hg hne
section
variable {P : Program} {ops : Array Oper} {rest : List Oper} {o : Oper} {a : Act} {Q : Exit → Act → World → Prop}
end
section
variable {P : Program}
end
section
variable {P : Program} {ops : Array Oper} {rest : List Oper} {o : Oper} {a : Act} {Q : Exit → Act → World → Prop}
end
def bytesOf (s : ByteArray) : List Int := s.data.toList.map fun b => (b.toNat : Int)
theorem data_length (s : ByteArray) : s.data.toList.length = s.size := by rw [Array.length_toList]; rfl
theorem bytesOf_length (s : ByteArray) : (bytesOf s).length = s.size := by rw [bytesOf, List.length_map, data_length]
def LeO {α : Type} (a b : Option α) : Prop := ∀ r, a = some r → b = some r
theorem LeO.refl {α : Type} (a : Option α) : LeO a a := fun _ h => h
theorem LeO.none {α : Type} (b : Option α) : LeO Option.none b := fun _ h => by cases h
theorem LeO.trans {α : Type} {a b c : Option α} (h : LeO a b) (k : LeO b c) : LeO a c := fun r hr => k r (h r hr)
theorem LeO.ite {α : Type} {c : Prop} [Decidable c] {a a' b b' : Option α} (h : LeO a a') (k : LeO b b') : LeO (if c then a else b) (if c then a' else b') := by
 split
 ·exact h
 ·exact k
theorem LeO.bind {α β : Type} {a a' : Option α} {f f' : α → Option β} (h : LeO a a') (k : ∀ x, LeO (f x) (f' x)) : LeO (a.bind f) (a'.bind f') := by
 intro r hr
 obtain ⟨x, hx, hf⟩ := Option.bind_eq_some_iff.1 hr
 exact Option.bind_eq_some_iff.2 ⟨x, h x hx, k x r hf⟩
theorem LeO.map {α β : Type} {a a' : Option α} (f : α → β) (h : LeO a a') : LeO (a.map f) (a'.map f) := by
 intro r hr
 obtain ⟨x, hx, hf⟩ := Option.map_eq_some_iff.1 hr
 exact Option.map_eq_some_iff.2 ⟨x, h x hx, hf⟩
theorem more_rounds {α : Type} {g : Nat → Option α} (h : ∀ k, LeO (g k) (g (k + 1))) (k : Nat) : ∀ j, LeO (g k) (g (k + j))
 | 0 => LeO.refl _
 | j + 1 => (more_rounds h k j).trans (h (k + j))
theorem at_rounds {α : Type} {g : Nat → Option α} (h : ∀ k, LeO (g k) (g (k + 1))) {k k' : Nat} (hk : k ≤ k') {r : α} (hr : g k = some r) : g k' = some r := by
 have := more_rounds h k (k' - k) r hr
 rwa [Nat.add_sub_cancel' hk] at this
def Reps {α : Type} (R : α → List Value → Prop) (size : Nat) (ps : List α) (cs : List Value) : Prop :=
 cs.length = ps.length * size ∧ ∀ j p, ps[j]? = some p → R p ((cs.drop (j * size)).take size)
theorem Reps.none {α : Type} (R : α → List Value → Prop) (size : Nat) : Reps R size [] [] := ⟨by simp, fun j p h => by simp at h⟩
theorem Reps.snoc {α : Type} {R : α → List Value → Prop} {size : Nat} {ps : List α} {cs c : List Value} {p : α} (h : Reps R size ps cs) (hp : R p c) (hc : c.length = size) : Reps R size (ps ++ [p]) (cs ++ c) := by
 refine ⟨by rw [List.length_append, h.1, hc, List.length_append, List.length_singleton, Nat.add_mul, Nat.one_mul], fun j q hq => ?_⟩
 rcases Nat.lt_or_ge j ps.length with hj | hj
 ·rw [List.getElem?_append_left hj] at hq
  have h1 : j * size + size ≤ cs.length := by rw [h.1, ← Nat.succ_mul]; exact Nat.mul_le_mul_right _ hj
  have h2 := h.2 j q hq
  rw [List.drop_append_of_le_length (by omega), List.take_append_of_le_length (by rw [List.length_drop]; omega)]
  exact h2
 ·have hj' : j = ps.length := by
   have := (List.getElem?_eq_some_iff.1 hq).1
   rw [List.length_append, List.length_singleton] at this
   omega
  subst hj'
  have hq' : p = q := by simpa using hq
  subst hq'
  rw [← h.1, List.drop_left, ← hc, List.take_length]
  exact hp
theorem Reps.imp_ {α : Type} {R R' : α → List Value → Prop} {size : Nat} {ps : List α} {cs : List Value} (h : Reps R size ps cs) (hR : ∀ p c, R p c → R' p c) : Reps R' size ps cs := ⟨h.1, fun j p hj => hR _ _ (h.2 j p hj)⟩
def ReadsRow {α : Type} (R : α → List Value → Prop) (size : Nat) (w : World) (A : Option Addr) (n : Nat) (ps : List α) : Prop :=
 ps.length = n ∧ n ≤ 9223372036854775807 ∧ (0 < n → ∃ ad, A = some ad ∧ ∀ j p, ps[j]? = some p → ∃ c, c.length = size ∧ R p c ∧ ∀ i u, c[i]? = some u → w.cell? (ad.add (j * size + i)) = some u)
theorem ReadsRow.get_ {α : Type} {R : α → List Value → Prop} {size : Nat} {w : World} {A : Option Addr} {n : Nat} {ps : List α} (h : ReadsRow R size w A n ps) (d : α) (i : Int) (h0 : 0 ≤ i) (h1 : i < n) :
  ∃ ad c, A = some ad ∧ c.length = size ∧ R (ps.getD i.toNat d) c ∧ ∀ j u, c[j]? = some u → w.cell? (ad.add (i.toNat * size + j)) = some u := by
 obtain ⟨ad, e, hc⟩ := h.2.2 (by omega)
 have hl : i.toNat < ps.length := by have := h.1; omega
 obtain ⟨c, hs, hr, hcell⟩ := hc i.toNat _ (List.getElem?_eq_getElem hl)
 refine ⟨ad, c, e, hs, ?_, hcell⟩
 rw [List.getD_eq_getElem?_getD, List.getElem?_eq_getElem hl]
 exact hr
theorem ReadsRow.imp_ {α : Type} {R R' : α → List Value → Prop} {size : Nat} {w w1 : World} {A : Option Addr} {n : Nat} {ps : List α} (h : ReadsRow R size w A n ps) (hb : Below w.heap.size w w1) (hR : ∀ p c, R p c → R' p c) : ReadsRow R' size w1 A n ps :=
 ⟨h.1, h.2.1, fun hn => by
  obtain ⟨ad, e, hc⟩ := h.2.2 hn
  refine ⟨ad, e, fun j p hj => ?_⟩
  obtain ⟨c, hs, hr, hcell⟩ := hc j p hj
  exact ⟨c, hs, hR _ _ hr, fun i u hu => pw_cell_below hb (hcell i u hu)⟩⟩
theorem own_reads_row {α : Type} {R : α → List Value → Prop} {w : World} {base n size : Nat} {e : TypeId} {v : Value} {ps : List α} {cs : List Value} (h : w.ownsRow base e size v n cs) (hR : Reps R size ps cs) (hn : ps.length = n) :
  ∃ A c, v = .slice A n c ∧ ReadsRow R size w A n ps := by
 rcases Nat.eq_zero_or_pos n with h0 | h0
 ·rcases h.2 with ⟨rfl, rfl⟩ | ⟨g, cap, cur, rfl, _⟩
  ·exact ⟨none, 0, rfl, hn, by omega, fun hp => absurd hp (by omega)⟩
  ·exact ⟨_, cap, rfl, hn, by omega, fun hp => absurd hp (by omega)⟩
 ·obtain ⟨g, cap, rfl, _, _⟩ := h.form h0
  have hm : n ≤ 9223372036854775807 := by
   rcases h.2 with ⟨_, h1⟩ | ⟨g', cap', cur, he, _, _, h1, h2, _⟩
   ·omega
   ·simp only [maxLen] at h2
    omega
  refine ⟨_, cap, rfl, hn, hm, fun _ => ⟨_, rfl, fun j p hj => ⟨(cs.drop (j * size)).take size, ?_, hR.2 j p hj, fun i u hu => ?_⟩⟩⟩
  ·have hjl := (List.getElem?_eq_some_iff.1 hj).1
   have h1 : j * size + size ≤ cs.length := by rw [hR.1, ← Nat.succ_mul]; exact Nat.mul_le_mul_right _ hjl
   rw [List.length_take, List.length_drop]
   omega
  ·refine h.cells (g := g) rfl _ u ?_
   rw [List.getElem?_take] at hu
   split at hu
   ·rw [List.getElem?_drop] at hu
    exact hu
   ·cases hu
theorem add_field (ad : Addr) (m j : Nat) (hj : 0 < j) : ad.add (m + j) = ⟨(ad.add m).block, (ad.add m).off + j, none⟩ := by
 unfold Addr.add
 by_cases hm : m = 0
 ·subst hm
  simp [Nat.ne_of_gt hj]
 ·simp [hm, Nat.add_assoc]
section
variable {P : Program} {ops : Array Oper} {rest : List Oper} {o : Oper} {a : Act} {Q : Exit → Act → World → Prop}
theorem print_append_cells {w0 W : World} (base : Nat) (hgd : o.guard = none) (s x : Operand) (t e : TypeId) (z : Value) (size bytes : Nat)
  (ho : o.op = .call { callee := .builtin .append, args := #[s, x], argTypes := #[t, t] })
  (ht : P.underlying t = some (.slice e)) (hinfo : (P.info? e).map (fun i => (i.zero, i.size, i.bytes)) = some (some z, size, bytes)) (hz : z.cells.size = size) (hs0 : 0 < size) (hb0 : 0 < bytes)
  (v : Value) (n : Nat) (xs ys : List Value) (hs : a.eval s = v) (hx : a.eval x = .slice (some ⟨W.heap.size, 0, none⟩) 1 1) (hys : ys.length = size) (h1 : ∀ u ∈ ys, u.oneCell' = true)
  (HO : W.ownsRow base e size v n xs) (HB : Below base w0 W) (hbase : base ≤ W.heap.size) (hl : (n + 1) * bytes ≤ 140737488355328)
  (h : ∀ v1 w1, w1.ownsRow base e size v1 (n + 1) (xs ++ ys) → Below base w0 w1 → W.grownBy w1 v.ownBlock → (v1.ownBlock = v.ownBlock ∨ ∃ b, v1.ownBlock = some b ∧ W.heap.size ≤ b) → wpList P ops Q rest (a.put o.dst v1) w1) :
  wpList P ops Q (o :: rest) a (W.alloc (.cells ys.toArray e)) := by
 obtain ⟨i0, hi, hzz⟩ := Option.map_eq_some_iff.1 hinfo
 simp only [Prod.mk.injEq] at hzz
 obtain ⟨hz0, hz1, hz2⟩ := hzz
 have hlen : n + 1 ≤ 140737488355328 := Nat.le_trans (Nat.le_mul_of_pos_right _ hb0) hl
 refine wpList_append_own_at (W.alloc (.cells ys.toArray e)) hgd s x t ho base e i0 z size bytes ht hi hz0 hz1 hz2 hz hs0 v n xs hs (HO.alloc _) ⟨W.heap.size, 0, none⟩ 1 1 ys hx (by rw [hys]; simp)
  (by simpa using World.news_of_block (cs := ys.toArray) (t := e) (fr := (0, 0)) (heap_alloc_new W (.cells ys.toArray e))) h1 (by simp only [maxLen]; omega) hl (by simp; omega) ?_
 intro v1 w1 hown hg _ hat
 refine h v1 w1 hown ((HB.alloc hbase _).grown hg (by simp; omega) (own_base HO)) (World.grownBy.trans (World.grownBy_alloc W _ _) hg) ?_
 rcases hat with hat | hat
 ·exact .inl hat
 ·exact .inr ⟨_, hat, by simp⟩
end
theorem own_ne {w : World} {base : Nat} {e t : TypeId} {size n g : Nat} {v : Value} {xs : List Value} {cs : Array Value} (h : w.ownsRow base e size v n xs) (hg : w.heap[g]? = some (.cells cs t (0, 0))) (hne : e ≠ t) : some g ≠ v.ownBlock := by
 rcases h.2 with ⟨rfl, _⟩ | ⟨g', cap, cur, rfl, _, hh, _⟩
 ·simp [Value.ownBlock]
 ·intro he
  have : g = g' := by simpa [Value.ownBlock] using he
  subst this
  rw [hg] at hh
  injection hh with hh
  injection hh with _ ht
  exact hne ht.symm
theorem blk_lt {w : World} {g : Nat} {o : Obj} (h : w.heap[g]? = some o) : g < w.heap.size := (Array.getElem?_eq_some_iff.1 h).1
def KeepBut (w w' : World) (g : Nat) (row : Option Nat) : Prop := w.heap.size ≤ w'.heap.size ∧ ∀ i, i < w.heap.size → i ≠ g → some i ≠ row → w'.heap[i]? = w.heap[i]?
theorem KeepBut.refl (w : World) (g : Nat) (row : Option Nat) : KeepBut w w g row := ⟨Nat.le_refl _, fun _ _ _ _ => rfl⟩
theorem KeepBut.of_below {w w1 : World} (h : Below w.heap.size w w1) (g : Nat) (row : Option Nat) : KeepBut w w1 g row := ⟨h.size, fun i hi _ _ => h.block i hi⟩
theorem KeepBut.trans {w w1 w2 : World} {g : Nat} {row row1 : Option Nat} (h : KeepBut w w1 g row) (k : KeepBut w1 w2 g row1) (hr : row1 = row ∨ ∃ b, row1 = some b ∧ w.heap.size ≤ b) : KeepBut w w2 g row :=
 ⟨Nat.le_trans h.1 k.1, fun i hi hg hn => by
  refine (k.2 i (Nat.lt_of_lt_of_le hi h.1) hg ?_).trans (h.2 i hi hg hn)
  rcases hr with rfl | ⟨b, rfl, hb⟩
  ·exact hn
  ·intro e
   injection e with e
   omega⟩
theorem KeepBut.blk {w w1 : World} {g g' : Nat} {row : Option Nat} {o : Obj} (h : KeepBut w w1 g row) (hb : w.heap[g']? = some o) (hg : g' ≠ g) (hr : some g' ≠ row) : w1.heap[g']? = some o := (h.2 g' (blk_lt hb) hg hr).trans hb
theorem KeepBut.own {w w1 : World} {g : Nat} {row : Option Nat} {base : Nat} {e : TypeId} {size n : Nat} {v : Value} {xs : List Value} (h : KeepBut w w1 g row) (ho : w.ownsRow base e size v n xs) (hg : v.ownBlock ≠ some g) (hr : v.ownBlock = none ∨ v.ownBlock ≠ row) : w1.ownsRow base e size v n xs := by
 obtain ⟨h1, h2⟩ := ho
 refine ⟨h1, ?_⟩
 rcases h2 with h2 | ⟨b, cap, cur, rfl, hb, hh, r⟩
 ·exact .inl h2
 ·refine .inr ⟨b, cap, cur, rfl, hb, h.blk hh ?_ ?_, r⟩
  ·intro e
   exact hg (by rw [← e]; rfl)
  ·rcases hr with hr | hr
   ·simp [Value.ownBlock] at hr
   ·exact hr
def Ev {α : Type} (g : Nat → Option α) (r : α) : Prop := ∃ K, ∀ k, K ≤ k → g k = some r
theorem Ev.of {α : Type} {g : Nat → Option α} {r : α} (hg : ∀ k, LeO (g k) (g (k + 1))) {k : Nat} (h : g k = some r) : Ev g r := ⟨k, fun _ hk => at_rounds hg hk h⟩
theorem Ev.rounds {α : Type} {g : Nat → Option α} {r : α} (h : Ev g r) : ∃ k, g k = some r := by
 obtain ⟨K, h⟩ := h
 exact ⟨K, h K (Nat.le_refl _)⟩
theorem Ev.bind {α β : Type} {g : Nat → Option α} {f : Nat → α → Option β} {a : α} {r : β} (h : Ev g a) (k : Ev (fun n => f n a) r) : Ev (fun n => (g n).bind (f n)) r := by
 obtain ⟨K, h⟩ := h
 obtain ⟨K', k⟩ := k
 refine ⟨max K K', fun n hn => ?_⟩
 have h1 := h n (by omega)
 have h2 := k n (by omega)
 simp only [h1, Option.bind_some]
 exact h2
theorem Ev.step {α : Type} {g f : Nat → Option α} {r : α} (h : ∀ k, g (k + 1) = f k) (k : Ev f r) : Ev g r := by
 obtain ⟨K, k⟩ := k
 refine ⟨K + 1, fun n hn => ?_⟩
 obtain ⟨m, rfl⟩ : ∃ m, n = m + 1 := ⟨n - 1, by omega⟩
 rw [h]
 exact k m (by omega)
theorem Ev.congr {α : Type} {g f : Nat → Option α} {r : α} (h : ∀ k, g k = f k) (k : Ev f r) : Ev g r := by
 obtain ⟨K, k⟩ := k
 exact ⟨K, fun n hn => (h n).trans (k n hn)⟩
section
variable {P : Program} {ops : Array Oper} {o : Oper} {a : Act} {Q : Exit → Act → World → Prop} {K : Act → World → Prop}
end
theorem own_weaken {w : World} {base base' : Nat} {e : TypeId} {size n : Nat} {v : Value} {xs : List Value} (h : w.ownsRow base e size v n xs) (hb : base' ≤ base) : w.ownsRow base' e size v n xs := by
 obtain ⟨h1, h2⟩ := h
 refine ⟨h1, ?_⟩
 rcases h2 with h2 | ⟨g, cap, cur, rfl, hg, r⟩
 ·exact .inl h2
 ·exact .inr ⟨g, cap, cur, rfl, Nat.le_trans hb hg, r⟩
section
variable {α : Type} {enc : α → Value} {d : α}
def encs (enc : α → Value) (xs : List α) : List Value := xs.map enc
def rdOf (d : α) (xs : List α) (i : Int) : α := xs.getD i.toNat d
theorem encs_length (xs : List α) : (encs enc xs).length = xs.length := by simp [encs]
def ReadsOf (enc : α → Value) (d : α) (w : World) (A : Option Addr) (n : Nat) (xs : List α) : Prop :=
 xs.length = n ∧ n ≤ 9223372036854775807 ∧ (0 < n → ∃ ad, A = some ad ∧ ∀ j, j < n → w.cell? (ad.add j) = some (enc (xs.getD j d)))
theorem ReadsOf.at_ {w : World} {A : Option Addr} {n : Nat} {xs : List α} (h : ReadsOf enc d w A n xs) (i : Int) (h0 : 0 ≤ i) (h1 : i < n) : ∃ ad, A = some ad ∧ w.cell? (ad.add i.toNat) = some (enc (rdOf d xs i)) := by
 obtain ⟨ad, e, hc⟩ := h.2.2 (by omega)
 exact ⟨ad, e, hc _ (by omega)⟩
theorem ReadsOf.below {w w1 : World} {A : Option Addr} {n : Nat} {xs : List α} (h : ReadsOf enc d w A n xs) (hb : Below w.heap.size w w1) : ReadsOf enc d w1 A n xs :=
 ⟨h.1, h.2.1, fun hn => by
  obtain ⟨ad, e, hc⟩ := h.2.2 hn
  exact ⟨ad, e, fun j hj => pw_cell_below hb (hc j hj)⟩⟩
end
section
variable {α : Type} {P : Program} {ops : Array Oper} {rest : List Oper} {o : Oper} {a : Act} {Q : Exit → Act → World → Prop}
end
section
variable {P : Program}
end
theorem own_le {w : World} {base n m c size : Nat} {e : TypeId} {A : Option Addr} {xs : List Value} (h : w.ownsRow base e size (.slice A m c) n xs) : m ≤ c := by
 rcases h.2 with ⟨he, _⟩ | ⟨g, cap, cur, he, _, _, hnc, _⟩
 ·injection he with _ h2 h3
  omega
 ·injection he with _ h2 h3
  omega
def OwnRow {α : Type} (R : α → List Value → Prop) (e : TypeId) (size : Nat) (w : World) (base : Nat) (v : Value) (ps : List α) : Prop :=
 ∃ inner, w.ownsRow base e size v ps.length inner ∧ Reps R size ps inner
section
variable {α : Type} {R R' : α → List Value → Prop} {e : TypeId} {size : Nat} {w w1 : World} {base : Nat} {v : Value} {ps : List α}
theorem OwnRow.none_ (R : α → List Value → Prop) (e : TypeId) (size : Nat) (w : World) (base : Nat) : OwnRow R e size w base (.slice none 0 0) [] := ⟨[], own_nil _ _ _ _, Reps.none _ _⟩
theorem OwnRow.imp_ (h : OwnRow R e size w base v ps) (hR : ∀ p c, R p c → R' p c) : OwnRow R' e size w base v ps := by
 obtain ⟨inner, ho, hr⟩ := h
 exact ⟨inner, ho, hr.imp_ hR⟩
theorem OwnRow.below (h : OwnRow R e size w base v ps) (hb : Below w.heap.size w w1) : OwnRow R e size w1 base v ps := by
 obtain ⟨inner, ho, hr⟩ := h
 exact ⟨inner, pw_own_below ho hb, hr⟩
theorem OwnRow.other (h : OwnRow R e size w base v ps) {row : Option Nat} (hg : w.grownBy w1 row) (hne : v.ownBlock = none ∨ v.ownBlock ≠ row) : OwnRow R e size w1 base v ps := by
 obtain ⟨inner, ho, hr⟩ := h
 exact ⟨inner, own_other ho hg hne, hr⟩
theorem OwnRow.keep (h : OwnRow R e size w base v ps) {g : Nat} {t : TypeId} {cells : Array Value} (hb : w.heap[g]? = some (.cells cells t (0, 0))) (ht : e ≠ t) (hk : KeepBut w w1 g none) : OwnRow R e size w1 base v ps := by
 obtain ⟨inner, ho, hr⟩ := h
 exact ⟨inner, hk.own ho (Ne.symm (own_ne ho hb ht)) (by cases v.ownBlock <;> simp), hr⟩
theorem OwnRow.reads (h : OwnRow R e size w base v ps) : ∃ A c, v = .slice A ps.length c ∧ ps.length ≤ c ∧ ReadsRow R size w A ps.length ps := by
 obtain ⟨inner, ho, hr⟩ := h
 obtain ⟨A, c, rfl, hrow⟩ := own_reads_row ho hr rfl
 exact ⟨A, c, rfl, own_le ho, hrow⟩
end
section
variable {P : Program} {ops : Array Oper} {rest : List Oper} {o : Oper} {a : Act} {Q : Exit → Act → World → Prop} {α : Type} {R : α → List Value → Prop}
theorem OwnRow.append {w0 W : World} (base : Nat) (hgd : o.guard = none) (s x : Operand) (t e : TypeId) (z : Value) (size bytes : Nat)
  (ho : o.op = .call { callee := .builtin .append, args := #[s, x], argTypes := #[t, t] })
  (ht : P.underlying t = some (.slice e)) (hinfo : (P.info? e).map (fun i => (i.zero, i.size, i.bytes)) = some (some z, size, bytes)) (hz : z.cells.size = size) (hs0 : 0 < size) (hb0 : 0 < bytes)
  (v : Value) (ps : List α) (p : α) (cs : List Value) (hs : a.eval s = v) (hx : a.eval x = .slice (some ⟨W.heap.size, 0, none⟩) 1 1) (hp : R p cs) (hcs : cs.length = size) (h1 : ∀ u ∈ cs, u.oneCell' = true)
  (HO : OwnRow R e size W base v ps) (HB : Below base w0 W) (hbase : base ≤ W.heap.size) (hl : (ps.length + 1) * bytes ≤ 140737488355328)
  (h : ∀ v1 w1, OwnRow R e size w1 base v1 (ps ++ [p]) → Below base w0 w1 → W.grownBy w1 v.ownBlock → (v1.ownBlock = v.ownBlock ∨ ∃ b, v1.ownBlock = some b ∧ W.heap.size ≤ b) → wpList P ops Q rest (a.put o.dst v1) w1) :
  wpList P ops Q (o :: rest) a (W.alloc (.cells cs.toArray e)) := by
 obtain ⟨inner, hown, hr⟩ := HO
 refine print_append_cells base hgd s x t e z size bytes ho ht hinfo hz hs0 hb0 v ps.length inner cs hs hx hcs h1 hown HB hbase hl ?_
 intro v1 w1 hown1 hb1 hg1 hat1
 exact h v1 w1 ⟨inner ++ cs, by rw [List.length_append, List.length_singleton]; exact hown1, hr.snoc hp hcs⟩ hb1 hg1 hat1
end
section
variable {P : Program} {ops : Array Oper} {o : Oper} {a : Act} {Q : Exit → Act → World → Prop} {K : Act → World → Prop} {α : Type} {R : α → List Value → Prop}
end
theorem ReadsRow.inner_ {α : Type} {R : α → List Value → Prop} {size : Nat} {w : World} {ad : Addr} {n : Nat} {ps : List α} (h : ReadsRow R size w (some ad) n ps) :
  ∃ inner, Reps R size ps inner ∧ ∀ j u, inner[j]? = some u → w.cell? (ad.add j) = some u := by
 have key : ∀ m, m ≤ ps.length → ∃ inner, Reps R size (ps.take m) inner ∧ ∀ j u, inner[j]? = some u → w.cell? (ad.add j) = some u := by
  intro m
  induction m with
  | zero => exact fun _ => ⟨[], Reps.none _ _, fun j u hu => by simp at hu⟩
  | succ m ih =>
   intro hm
   obtain ⟨inner, hr, hc⟩ := ih (by omega)
   obtain ⟨ad', he, hcell⟩ := h.2.2 (by have := h.1; omega)
   injection he with he
   subst he
   obtain ⟨c, hcl, hp, hcc⟩ := hcell m _ (List.getElem?_eq_getElem (show m < ps.length by omega))
   refine ⟨inner ++ c, ?_, fun j u hu => ?_⟩
   ·rw [List.take_succ_eq_append_getElem (show m < ps.length by omega)]
    exact hr.snoc hp hcl
   ·have hil : inner.length = m * size := by rw [hr.1, List.length_take, Nat.min_eq_left (by omega)]
    rcases Nat.lt_or_ge j inner.length with hj | hj
    ·rw [List.getElem?_append_left hj] at hu
     exact hc j u hu
    ·rw [List.getElem?_append_right hj] at hu
     have := hcc (j - inner.length) u hu
     rwa [hil, Nat.add_sub_cancel' (by omega)] at this
 obtain ⟨inner, hr, hc⟩ := key ps.length (Nat.le_refl _)
 rw [List.take_length] at hr
 exact ⟨inner, hr, hc⟩
section
variable {α : Type} {P : Program}
theorem ReadsOf.len_ {enc : α → Value} {d : α} {w : World} {A : Option Addr} {n : Nat} {xs : List α} (h : ReadsOf enc d w A n xs) : ReadsOf enc d w A xs.length xs := by rw [h.1]; exact h
end
section
variable {P : Program} {ops : Array Oper} {rest : List Oper} {o : Oper} {a : Act} {Q : Exit → Act → World → Prop}
end
structure Kd (α : Type) where
 sz : Nat
 E : List Nat
 K : World → α → List Value → Prop
 M : World → Nat → (Nat → Prop) → α → List Value → Prop
 K_len : ∀ {w x cs}, K w x cs → cs.length = sz
 K_one : ∀ {w x cs}, K w x cs → ∀ u ∈ cs, u.oneCell' = true
 K_below : ∀ {w w1 : World} {x cs}, Below w.heap.size w w1 → K w x cs → K w1 x cs
 K_of_M : ∀ {w base ok x cs}, M w base ok x cs → K w x cs
 M_mono : ∀ {w base ok ok' x cs}, (∀ k, ok k → ok' k) → M w base ok x cs → M w base ok' x cs
 M_bound : ∀ {w : World} {base ok x cs}, M w base ok x cs → M w base (fun k => ok k ∧ base ≤ k ∧ k < w.heap.size ∧ ∃ q, q ∈ E ∧ ∃ cells, w.heap[k]? = some (.cells cells q (0, 0))) x cs
 M_move : ∀ {w w1 : World} {base ok x cs}, (∀ k, ok k → w1.heap[k]? = w.heap[k]?) → M w base ok x cs → M w1 base ok x cs
 M_lower : ∀ {w base base' ok x cs}, base' ≤ base → M w base ok x cs → M w base' ok x cs
theorem own_move {w w1 : World} {base : Nat} {e : TypeId} {size n : Nat} {v : Value} {xs : List Value} (h : w.ownsRow base e size v n xs) (hm : ∀ k, v.ownBlock = some k → w1.heap[k]? = w.heap[k]?) : w1.ownsRow base e size v n xs := by
 obtain ⟨h1, h2⟩ := h
 refine ⟨h1, ?_⟩
 rcases h2 with h2 | ⟨g, cap, cur, rfl, hg, hh, r⟩
 ·exact .inl h2
 ·exact .inr ⟨g, cap, cur, rfl, hg, (hm g (by simp [Value.ownBlock])).trans hh, r⟩
theorem own_typed {w : World} {base : Nat} {e : TypeId} {size n : Nat} {v : Value} {xs : List Value} (h : w.ownsRow base e size v n xs) (k : Nat) (hk : v.ownBlock = some k) : ∃ cells, w.heap[k]? = some (.cells cells e (0, 0)) := by
 rcases h.2 with ⟨rfl, _⟩ | ⟨g, cap, cur, rfl, hg, hh, r⟩
 ·simp [Value.ownBlock] at hk
 ·have : g = k := by simpa [Value.ownBlock] using hk
  subst this
  exact ⟨cur, hh⟩
namespace Kd
def C {α : Type} (d : Kd α) (w : World) (A : Option Addr) (n : Nat) (xs : List α) : Prop := ReadsRow (d.K w) d.sz w A n xs
def R {α : Type} (d : Kd α) (e : Nat) (w : World) (base : Nat) (ok : Nat → Prop) (v : Value) (xs : List α) : Prop :=
 (∀ k, v.ownBlock = some k → ok k) ∧ OwnRow (d.M w base (fun k => ok k ∧ some k ≠ v.ownBlock)) e d.sz w base v xs
section
variable {α : Type} {d : Kd α} {e : Nat} {w w1 : World} {base : Nat} {ok ok' : Nat → Prop} {v : Value} {xs : List α}
theorem C_below {A : Option Addr} {n : Nat} (h : d.C w A n xs) (hb : Below w.heap.size w w1) : d.C w1 A n xs := ReadsRow.imp_ h hb (fun _ _ hp => d.K_below hb hp)
theorem R_nil (d : Kd α) (e : Nat) (w : World) (base : Nat) (ok : Nat → Prop) : d.R e w base ok (.slice none 0 0) [] := ⟨fun k hk => by simp [Value.ownBlock] at hk, OwnRow.none_ _ _ _ _ _⟩
theorem R_mono (h : d.R e w base ok v xs) (hok : ∀ k, ok k → ok' k) : d.R e w base ok' v xs := ⟨fun k hk => hok k (h.1 k hk), h.2.imp_ (fun _ _ hp => d.M_mono (fun k hk => ⟨hok k hk.1, hk.2⟩) hp)⟩
theorem R_bound (h : d.R e w base ok v xs) : d.R e w base (fun k => ok k ∧ base ≤ k ∧ k < w.heap.size ∧ ∃ q, q ∈ e :: d.E ∧ ∃ cells, w.heap[k]? = some (.cells cells q (0, 0))) v xs := by
 obtain ⟨h0, inner, ho, hr⟩ := h
 refine ⟨fun k hk => ?_, inner, ho, hr.imp_ (fun _ _ hp => d.M_mono (fun k hk => ?_) (d.M_bound hp))⟩
 ·obtain ⟨cells, hc⟩ := own_typed ho k hk
  exact ⟨h0 k hk, own_base ho k hk, own_lt ho k hk, e, List.mem_cons_self, cells, hc⟩
 ·obtain ⟨⟨h1, h2⟩, h3, h4, q, hq, hc⟩ := hk
  exact ⟨⟨h1, h3, h4, q, List.mem_cons_of_mem _ hq, hc⟩, h2⟩
theorem R_move (h : d.R e w base ok v xs) (hm : ∀ k, ok k → w1.heap[k]? = w.heap[k]?) : d.R e w1 base ok v xs := by
 obtain ⟨h0, inner, ho, hr⟩ := h
 exact ⟨h0, inner, own_move ho (fun k hk => hm k (h0 k hk)), hr.imp_ (fun _ _ hp => d.M_move (fun k hk => hm k hk.1) hp)⟩
theorem R_lower {base' : Nat} (h : d.R e w base ok v xs) (hb : base' ≤ base) : d.R e w base' ok v xs := by
 obtain ⟨h0, inner, ho, hr⟩ := h
 exact ⟨h0, inner, own_weaken ho hb, hr.imp_ (fun _ _ hp => d.M_lower hb hp)⟩
theorem R_step (h : d.R e w base ok v xs) (hm : ∀ k, ok k → k < w.heap.size → w1.heap[k]? = w.heap[k]?) : d.R e w1 base ok v xs :=
 R_mono (R_move (R_bound h) (fun k hk => hm k hk.1 hk.2.2.1)) (fun _ hk => hk.1)
theorem M_step {x : α} {cs : List Value} (h : d.M w base ok x cs) (hm : ∀ k, ok k → k < w.heap.size → w1.heap[k]? = w.heap[k]?) : d.M w1 base ok x cs :=
 d.M_mono (fun _ hk => hk.1) (d.M_move (fun k hk => hm k hk.1 hk.2.2.1) (d.M_bound h))
theorem R_below (h : d.R e w base ok v xs) (hb : Below w.heap.size w w1) : d.R e w1 base ok v xs := R_step h (fun k _ hk => hb.block k hk)
theorem M_below {x : α} {cs : List Value} (h : d.M w base ok x cs) (hb : Below w.heap.size w w1) : d.M w1 base ok x cs := M_step h (fun k _ hk => hb.block k hk)
theorem R_reads (h : d.R e w base ok v xs) : ∃ A c, v = .slice A xs.length c ∧ xs.length ≤ c ∧ d.C w A xs.length xs := by
 obtain ⟨A, c, he, hl, hr⟩ := OwnRow.reads h.2
 exact ⟨A, c, he, hl, hr.imp_ (Below.refl _ _) (fun _ _ hp => d.K_of_M hp)⟩
end
def scalar {α : Type} (enc : α → Value) (h1 : ∀ x, (enc x).oneCell' = true) : Kd α where
 sz := 1
 E := []
 K := fun _ x cs => cs = [enc x]
 M := fun _ _ _ x cs => cs = [enc x]
 K_len := fun h => by rw [h]; rfl
 K_one := fun h u hu => by
  rw [h] at hu
  rw [List.mem_singleton.1 hu]
  exact h1 _
 K_below := fun _ h => h
 K_of_M := fun h => h
 M_mono := fun _ h => h
 M_bound := fun h => h
 M_move := fun _ h => h
 M_lower := fun _ h => h
def int (k : IntKind) : Kd Int := scalar (Value.int k) (fun _ => rfl)
def bool : Kd Bool := scalar Value.bool (fun _ => rfl)
def string : Kd ByteArray := scalar Value.string (fun _ => rfl)
def slice {α : Type} (e : Nat) (d : Kd α) : Kd (List α) where
 sz := 1
 E := e :: d.E
 K := fun w xs cs => ∃ A c, cs = [.slice A xs.length c] ∧ xs.length ≤ c ∧ d.C w A xs.length xs
 M := fun w base ok xs cs => ∃ v, cs = [v] ∧ d.R e w base ok v xs
 K_len := by
  rintro w x cs ⟨A, c, rfl, _⟩
  rfl
 K_one := by
  rintro w x cs ⟨A, c, rfl, _⟩ u hu
  rw [List.mem_singleton.1 hu]
  rfl
 K_below := by
  rintro w w1 x cs hb ⟨A, c, rfl, hl, hr⟩
  exact ⟨A, c, rfl, hl, C_below hr hb⟩
 K_of_M := by
  rintro w base ok x cs ⟨v, rfl, h⟩
  obtain ⟨A, c, rfl, hl, hr⟩ := R_reads h
  exact ⟨A, c, rfl, hl, hr⟩
 M_mono := by
  rintro w base ok ok' x cs hok ⟨v, rfl, h⟩
  exact ⟨v, rfl, R_mono h hok⟩
 M_bound := by
  rintro w base ok x cs ⟨v, rfl, h⟩
  exact ⟨v, rfl, R_bound h⟩
 M_move := by
  rintro w w1 base ok x cs hm ⟨v, rfl, h⟩
  exact ⟨v, rfl, R_move h hm⟩
 M_lower := by
  rintro w base base' ok x cs hb ⟨v, rfl, h⟩
  exact ⟨v, rfl, R_lower h hb⟩
def pair {α β : Type} (a : Kd α) (b : Kd β) : Kd (α × β) where
 sz := a.sz + b.sz
 E := a.E ++ b.E
 K := fun w x cs => ∃ c0 c1, cs = c0 ++ c1 ∧ a.K w x.1 c0 ∧ b.K w x.2 c1
 M := fun w base ok x cs => ∃ c0 c1, cs = c0 ++ c1 ∧ a.M w base ok x.1 c0 ∧ b.M w base ok x.2 c1
 K_len := by
  rintro w x cs ⟨c0, c1, rfl, h0, h1⟩
  rw [List.length_append, a.K_len h0, b.K_len h1]
 K_one := by
  rintro w x cs ⟨c0, c1, rfl, h0, h1⟩ u hu
  rcases List.mem_append.1 hu with hu | hu
  ·exact a.K_one h0 u hu
  ·exact b.K_one h1 u hu
 K_below := by
  rintro w w1 x cs hb ⟨c0, c1, rfl, h0, h1⟩
  exact ⟨c0, c1, rfl, a.K_below hb h0, b.K_below hb h1⟩
 K_of_M := by
  rintro w base ok x cs ⟨c0, c1, rfl, h0, h1⟩
  exact ⟨c0, c1, rfl, a.K_of_M h0, b.K_of_M h1⟩
 M_mono := by
  rintro w base ok ok' x cs hok ⟨c0, c1, rfl, h0, h1⟩
  exact ⟨c0, c1, rfl, a.M_mono hok h0, b.M_mono hok h1⟩
 M_bound := by
  rintro w base ok x cs ⟨c0, c1, rfl, h0, h1⟩
  refine ⟨c0, c1, rfl, a.M_mono ?_ (a.M_bound h0), b.M_mono ?_ (b.M_bound h1)⟩
  ·rintro k ⟨h2, h3, h4, q, hq, hc⟩
   exact ⟨h2, h3, h4, q, List.mem_append_left _ hq, hc⟩
  ·rintro k ⟨h2, h3, h4, q, hq, hc⟩
   exact ⟨h2, h3, h4, q, List.mem_append_right _ hq, hc⟩
 M_move := by
  rintro w w1 base ok x cs hm ⟨c0, c1, rfl, h0, h1⟩
  exact ⟨c0, c1, rfl, a.M_move hm h0, b.M_move hm h1⟩
 M_lower := by
  rintro w base base' ok x cs hb ⟨c0, c1, rfl, h0, h1⟩
  exact ⟨c0, c1, rfl, a.M_lower hb h0, b.M_lower hb h1⟩
def iso {α β : Type} (d : Kd α) (f : β → α) : Kd β where
 sz := d.sz
 E := d.E
 K := fun w x cs => d.K w (f x) cs
 M := fun w base ok x cs => d.M w base ok (f x) cs
 K_len := d.K_len
 K_one := d.K_one
 K_below := d.K_below
 K_of_M := d.K_of_M
 M_mono := d.M_mono
 M_bound := d.M_bound
 M_move := d.M_move
 M_lower := d.M_lower
def bot {α : Type} (sz : Nat) (E : List Nat) : Kd α where
 sz := sz
 E := E
 K := fun _ _ _ => False
 M := fun _ _ _ _ _ => False
 K_len := fun h => h.elim
 K_one := fun h => h.elim
 K_below := fun _ h => h
 K_of_M := fun h => h
 M_mono := fun _ h => h
 M_bound := fun h => h
 M_move := fun _ h => h
 M_lower := fun _ h => h
def upto {α : Type} (F : Kd α → Kd α) (sz : Nat) (E : List Nat) : Nat → Kd α
 | 0 => bot sz E
 | n + 1 => F (upto F sz E n)
theorem C_get {α : Type} {d : Kd α} {w : World} {A : Option Addr} {n : Nat} {xs : List α} (h : d.C w A n xs) (z : α) (i : Int) (h0 : 0 ≤ i) (h1 : i < n) :
  ∃ ad c, A = some ad ∧ c.length = d.sz ∧ d.K w (xs.getD i.toNat z) c ∧ ∀ j u, c[j]? = some u → w.cell? (ad.add (i.toNat * d.sz + j)) = some u := ReadsRow.get_ h z i h0 h1
section
variable {P : Program} {ops : Array Oper} {rest : List Oper} {o : Oper} {a : Act} {Q : Exit → Act → World → Prop} {α : Type}
end
section
variable {P : Program} {ops : Array Oper} {o : Oper} {a : Act} {Q : Exit → Act → World → Prop} {Kc : Act → World → Prop} {α : Type}
end
theorem reps_scalar {α : Type} {enc : α → Value} (xs : List α) : Reps (fun (x : α) (cs : List Value) => cs = [enc x]) 1 xs (encs enc xs) := by
 refine ⟨by simp [encs], fun j p hj => ?_⟩
 obtain ⟨hl, hp⟩ := List.getElem?_eq_some_iff.1 hj
 have hl' : j < (encs enc xs).length := by rw [encs_length]; exact hl
 rw [Nat.mul_one, List.drop_eq_getElem_cons hl']
 simp [encs, hp]
theorem R_of_own {α : Type} {enc : α → Value} {h1 : ∀ x, (enc x).oneCell' = true} {e : Nat} {w : World} {base : Nat} {ok : Nat → Prop} {v : Value} {xs : List α} (ho : w.ownsRow base e 1 v xs.length (encs enc xs)) (hok : ∀ k, v.ownBlock = some k → ok k) : (scalar enc h1).R e w base ok v xs := ⟨hok, encs enc xs, ho, reps_scalar xs⟩
theorem C_of_reads {α : Type} {enc : α → Value} {d : α} {h1 : ∀ x, (enc x).oneCell' = true} {w : World} {A : Option Addr} {n : Nat} {xs : List α} (h : ReadsOf enc d w A n xs) : (scalar enc h1).C w A n xs := by
 refine ⟨h.1, h.2.1, fun hn => ?_⟩
 obtain ⟨ad, e, hc⟩ := h.2.2 hn
 refine ⟨ad, e, fun j p hj => ⟨[enc p], rfl, rfl, fun i u hu => ?_⟩⟩
 obtain ⟨hl, hp⟩ := List.getElem?_eq_some_iff.1 hj
 have h2 := hc j (by have := h.1; omega)
 rw [List.getD_eq_getElem?_getD, hj] at h2
 cases i with
 | zero =>
  have : enc p = u := by simpa using hu
  subst this
  simpa [scalar] using h2
 | succ i => simp at hu
theorem reads_of_C {α : Type} {enc : α → Value} {d : α} {h1 : ∀ x, (enc x).oneCell' = true} {w : World} {A : Option Addr} {n : Nat} {xs : List α} (h : (scalar enc h1).C w A n xs) : ReadsOf enc d w A n xs := by
 refine ⟨h.1, h.2.1, fun hn => ?_⟩
 obtain ⟨ad, e, hc⟩ := h.2.2 hn
 refine ⟨ad, e, fun j hj => ?_⟩
 have hl : j < xs.length := by have := h.1; omega
 obtain ⟨c, _, hK, hcell⟩ := hc j _ (List.getElem?_eq_getElem hl)
 have hK' : c = [enc xs[j]] := hK
 subst hK'
 have := hcell 0 _ rfl
 simpa [scalar, List.getD_eq_getElem?_getD, List.getElem?_eq_getElem hl] using this
end Kd
namespace Kd
section
variable {α : Type} {F : Kd α → Kd α} {sz : Nat} {E : List Nat} {hs : ∀ n, (upto F sz E n).sz = sz} {hE : ∀ n q, q ∈ (upto F sz E n).E → q ∈ E}
end
end Kd
namespace Kd
end Kd
namespace Kd
section
variable {α β : Type} {d : Kd α} {d' : Kd β} {e e' : Nat} {w w1 W : World} {base b b' : Nat} {ok ok' okv oku : Nat → Prop} {v u : Value} {xs : List α} {ys : List β}
theorem R_alloc (h : d.R e w base ok v xs) (o : Obj) : d.R e (w.alloc o) base ok v xs := R_below h (below_alloc (Below.refl _ _) o)
theorem R_drew (h : d.R e w base ok v xs) : d.R e w.drew base ok v xs := R_below h (below_drew (Below.refl _ _))
theorem R_drewN (h : d.R e w base ok v xs) (m : Nat) : d.R e (w.drewN m) base ok v xs := R_below h (pw_below_drewN (Below.refl _ _) m)
theorem C_alloc {A : Option Addr} {n : Nat} (h : d.C w A n xs) (o : Obj) : d.C (w.alloc o) A n xs := C_below h (below_alloc (Below.refl _ _) o)
theorem C_drew {A : Option Addr} {n : Nat} (h : d.C w A n xs) : d.C w.drew A n xs := C_below h (below_drew (Below.refl _ _))
theorem C_drewN {A : Option Addr} {n : Nat} (h : d.C w A n xs) (m : Nat) : d.C (w.drewN m) A n xs := C_below h (pw_below_drewN (Below.refl _ _) m)
end
section
variable {w W : World} {A : Option Addr} {n : Nat}
theorem at_string {xs : List ByteArray} (h : Kd.string.C w A n xs) (i : Int) (h0 : 0 ≤ i) (h1 : i < n) : ∃ ad, A = some ad ∧ w.cell? (ad.add i.toNat) = some (.string (rdOf ByteArray.empty xs i)) :=
 ReadsOf.at_ (reads_of_C (enc := Value.string) (d := ByteArray.empty) (h1 := fun _ => rfl) h) i h0 h1
variable {α : Type} {enc : α → Value} {h1 : ∀ x, (enc x).oneCell' = true} {e base g cap : Nat} {ok : Nat → Prop} {xs : List α}
end
section
variable {P : Program} {ops : Array Oper} {rest : List Oper} {o : Oper} {a : Act} {Q : Exit → Act → World → Prop}
theorem event_run {W w1 : World} {v : Value} (hgd : o.guard = none) (hrun : (execOp a.eval o).run P W = .ok (.value v) w1) (h : wpList P ops Q rest (a.put o.dst v) w1) : wpList P ops Q (o :: rest) a W := by
 refine wpList_plain hgd fun K hK => ?_
 unfold Oper.wp
 rw [hrun]
 exact hK _ _ h
variable {α : Type}
theorem R_lit (d : Kd α) {w0 W : World} (base e : Nat) (hgd : o.guard = none) {N : Tmp} (_hd : o.dst = some N) {xs : List α} {inner : List Value} {ok okp : Nat → Prop}
  (hrun : (execOp a.eval o).run P W = .ok (.value (.slice (some ⟨W.heap.size, 0, none⟩) xs.length xs.length)) (W.alloc (.cells inner.toArray e)))
  (hrep : Reps (d.M W base okp) d.sz xs inner) (hok : ∀ k, okp k → ok k) (hfresh : ok W.heap.size) (HB : Below base w0 W) (hbase : base ≤ W.heap.size) (hm : xs.length ≤ 9223372036854775807)
  (h : ∀ v1 w1, d.R e w1 base ok v1 xs → Below base w0 w1 → W.grownBy w1 none → (∃ b, v1.ownBlock = some b ∧ W.heap.size ≤ b) → wpList P ops Q rest (a.put o.dst v1) w1) : wpList P ops Q (o :: rest) a W := by
 refine event_run hgd hrun (h _ _ ⟨fun k hk => ?_, inner, ?_, ?_⟩ (HB.alloc hbase _) (World.grownBy_alloc W _ none) ⟨W.heap.size, by simp [Value.ownBlock], Nat.le_refl _⟩)
 ·have : W.heap.size = k := by simpa [Value.ownBlock] using hk
  subst this
  exact hfresh
 ·have h2 := World.ownsRow_lit (base := base) (e := e) (size := d.sz) W inner.toArray xs.length hbase (by simpa [maxLen] using hm) (by simpa using hrep.1)
  simpa using h2
 ·refine hrep.imp_ (fun p c hp => d.M_mono (fun k hk => ⟨hok k hk.1, fun he => ?_⟩) (M_below (d.M_bound hp) (below_alloc (Below.refl _ _) _)))
  have h3 : k = W.heap.size := by simpa [Value.ownBlock] using he
  have := hk.2.2.1
  omega
end
end Kd
section
variable {P : Program}
end
def QRow (w : World) (base : Nat) (e : TypeId) (size : Nat) (v : Value) (n : Nat) (xs : List Value) : Prop :=
  xs.length = n * size ∧
  ((n = 0 ∧ ∃ A, v = .slice A 0 0 ∧ ∀ a, A = some a → base ≤ a.block ∧ ∃ cur, w.heap[a.block]? = some (.cells cur e (0, 0))) ∨
   ∃ g off cap cur, v = .slice (some ⟨g, off * size, none⟩) n cap ∧ base ≤ g ∧ w.heap[g]? = some (.cells cur e (0, 0)) ∧ n ≤ cap ∧ off + cap ≤ maxLen ∧ cur.size = (off + cap) * size ∧ (cur.toList.drop (off * size)).take (n * size) = xs)
section
variable {w w1 : World} {base n size : Nat} {e : TypeId} {v : Value} {xs : List Value}
theorem add_at (g o j : Nat) : (⟨g, o, none⟩ : Addr).add j = ⟨g, o + j, none⟩ := by unfold Addr.add; split <;> simp_all
end
section
variable {P : Program}
end
namespace Kd
def Q {α : Type} (d : Kd α) (e : Nat) (w : World) (base : Nat) (ok : Nat → Prop) (v : Value) (xs : List α) : Prop :=
 (∀ k, v.ownBlock = some k → ok k) ∧ ∃ inner, QRow w base e d.sz v xs.length inner ∧ Reps (d.M w base (fun k => ok k ∧ some k ≠ v.ownBlock)) d.sz xs inner
section
variable {α : Type} {d : Kd α} {e : Nat} {w w1 W : World} {base : Nat} {ok ok' : Nat → Prop} {v : Value} {xs : List α}
end
section
variable {P : Program} {ops : Array Oper} {rest : List Oper} {o : Oper} {a : Act} {Q' : Exit → Act → World → Prop} {Kc : Act → World → Prop} {α : Type}
end
end Kd
namespace Kd
section
variable {α : Type} {d : Kd α} {e e' : Nat} {w w1 W : World} {base : Nat} {ok : Nat → Prop} {u v : Value} {xs : List α}
end
end Kd
namespace Kd
section
variable {α : Type} {d : Kd α} {e base g n cap : Nat} {ok okp : Nat → Prop} {W : World} {xs : List α}
end
end Kd
namespace Kd
section
variable {α : Type} {F : Kd α → Kd α} {sz : Nat} {E : List Nat} {hs : ∀ n, (upto F sz E n).sz = sz} {hE : ∀ n q, q ∈ (upto F sz E n).E → q ∈ E}
end
end Kd
namespace Kd
theorem reps_append {α : Type} {R : α → List Value → Prop} {size : Nat} {ps qs : List α} {cs ds : List Value} (h : Reps R size ps cs) (h' : Reps R size qs ds) : Reps R size (ps ++ qs) (cs ++ ds) := by
 refine ⟨by rw [List.length_append, List.length_append, h.1, h'.1, Nat.add_mul], fun j p hj => ?_⟩
 rcases Nat.lt_or_ge j ps.length with hlt | hge
 ·rw [List.getElem?_append_left hlt] at hj
  have hle : j * size + size ≤ cs.length := by rw [h.1, ← Nat.succ_mul]; exact Nat.mul_le_mul_right _ hlt
  rw [List.drop_append_of_le_length (by omega), List.take_append_of_le_length (by rw [List.length_drop]; omega)]
  exact h.2 j p hj
 ·rw [List.getElem?_append_right hge] at hj
  have h2 := h'.2 (j - ps.length) p hj
  have hle : ps.length * size ≤ j * size := Nat.mul_le_mul_right _ hge
  rw [List.drop_append, List.drop_eq_nil_of_le (by rw [h.1]; exact hle), List.nil_append, h.1, ← Nat.sub_mul]
  exact h2
section
variable {P : Program} {ops : Array Oper} {rest : List Oper} {o : Oper} {a : Act} {Q : Exit → Act → World → Prop} {α : Type}
theorem R_append_rows (d : Kd α) {Rr : α → List Value → Prop} {w0 W : World} (base : Nat) (hgd : o.guard = none) (s x : Operand) (t e : TypeId) (z : Value) (bytes : Nat)
  (ho : o.op = .call { callee := .builtin .append, args := #[s, x], argTypes := #[t, t] })
  (ht : P.underlying t = some (.slice e)) (hinfo : (P.info? e).map (fun i => (i.zero, i.size, i.bytes)) = some (some z, d.sz, bytes)) (hz : z.cells.size = d.sz) (hs0 : 0 < d.sz) (hb0 : 0 < bytes)
  (v : Value) (xs ys : List α) (A : Option Addr) (m c : Nat) (ok okp : Nat → Prop) (hs : a.eval s = v) (hx : a.eval x = .slice A m c)
  (HO : d.R e W base ok v xs) (HR : ReadsRow Rr d.sz W A m ys) (hKM : ∀ x cs, Rr x cs → d.M W base okp x cs) (hokp : ∀ k, okp k → ok k ∧ some k ≠ v.ownBlock) (hfresh : ∀ k, W.heap.size ≤ k → ok k)
  (HB : Below base w0 W) (hbase : base ≤ W.heap.size) (hl : (xs.length + m) * bytes ≤ 140737488355328)
  (h : ∀ v1 w1, d.R e w1 base ok v1 (xs ++ ys) → Below base w0 w1 → W.grownBy w1 v.ownBlock → (v1.ownBlock = v.ownBlock ∨ ∃ b, v1.ownBlock = some b ∧ W.heap.size ≤ b) → wpList P ops Q rest (a.put o.dst v1) w1) :
  wpList P ops Q (o :: rest) a W := by
 obtain ⟨i0, hi, hzz⟩ := Option.map_eq_some_iff.1 hinfo
 simp only [Prod.mk.injEq] at hzz
 obtain ⟨hz0, hz1, hz2⟩ := hzz
 have hm : ys.length = m := HR.1
 have hlen : xs.length + m ≤ 140737488355328 := Nat.le_trans (Nat.le_mul_of_pos_right _ hb0) hl
 obtain ⟨hok, inner, hown, hr⟩ := HO
 have hrun : ∃ v1 w1, (Builtin.append_ #[t, t] o.type #[v, .slice A m c]).run P W = .ok v1 w1 ∧ d.R e w1 base ok v1 (xs ++ ys) ∧ W.grownBy w1 v.ownBlock ∧ (v1.ownBlock = v.ownBlock ∨ ∃ b, v1.ownBlock = some b ∧ W.heap.size ≤ b) := by
  rcases A with _ | ad
  ·have h0 : m = 0 := by
    rcases Nat.eq_zero_or_pos m with h0 | h0
    ·exact h0
    ·obtain ⟨ad, h, _⟩ := HR.2.2 h0
     cases h
   subst h0
   obtain rfl : ys = [] := List.eq_nil_of_length_eq_zero hm
   refine ⟨v, W, ?_, by rw [List.append_nil]; exact ⟨hok, inner, hown, hr⟩, World.grownBy.refl W _, .inl rfl⟩
   rcases hown.2 with ⟨rfl, hn⟩ | ⟨g, cap, cur, rfl, _, _, hnc, _⟩
   ·simp [Builtin.append_, run_underlying ht, sizeOf, typeInfo, hi, Builtin.lenOf, Builtin.firstCells]
   ·simp [Builtin.append_, run_underlying ht, sizeOf, typeInfo, hi, Builtin.lenOf, Builtin.firstCells, hnc, storeCells]
  ·obtain ⟨news, hnr, hnc⟩ := ReadsRow.inner_ HR
   have hnM : Reps (d.M W base okp) d.sz ys news := hnr.imp_ (fun p c hp => hKM p c hp)
   have hone : ∀ u ∈ news, u.oneCell' = true := by
    intro u hu
    obtain ⟨q, hq, rfl⟩ := List.mem_iff_getElem.1 hu
    have hql : q / d.sz < ys.length := by
     rw [Nat.div_lt_iff_lt_mul hs0]
     rw [← hnM.1]
     exact hq
    have hc := hnM.2 (q / d.sz) _ (List.getElem?_eq_getElem hql)
    refine d.K_one (d.K_of_M hc) _ ?_
    rw [List.mem_iff_getElem?]
    refine ⟨q % d.sz, ?_⟩
    rw [List.getElem?_take, if_pos (Nat.mod_lt _ hs0), List.getElem?_drop, Nat.mul_comm, Nat.div_add_mod, List.getElem?_eq_getElem hq]
   obtain ⟨v1, w1, hrun, h2, hg, _, hat⟩ := run_append_own_at (P := P) W base t o.type e i0 z d.sz bytes ht hi hz0 hz1 hz2 hz hs0 v xs.length inner hown ad m c news (by rw [hnM.1, hm]) hnc hone (by simp only [maxLen]; omega) hl hbase
   have hat' : v1.ownBlock = v.ownBlock ∨ ∃ b, v1.ownBlock = some b ∧ W.heap.size ≤ b := by
    rcases hat with hat | hat
    ·exact .inl hat
    ·exact .inr ⟨_, hat, Nat.le_refl _⟩
   have hne : ∀ k, some k ≠ v.ownBlock → k < W.heap.size → some k ≠ v1.ownBlock := by
    intro k hk hlt
    rcases hat' with hat | ⟨b, hb, hle⟩
    ·rw [hat]; exact hk
    ·rw [hb]
     intro he
     injection he with he
     omega
   have step : ∀ {q : α} {c : List Value} {o : Nat → Prop}, d.M W base o q c → (∀ k, o k → ok k ∧ some k ≠ v.ownBlock) → d.M w1 base (fun k => ok k ∧ some k ≠ v1.ownBlock) q c := by
    intro q c o hq ho
    have h1 := d.M_move (w1 := w1) (fun k hk => hg.block k hk.2.2.1 (ho k hk.1).2) (d.M_bound hq)
    exact d.M_mono (fun k hk => ⟨(ho k hk.1).1, hne k (ho k hk.1).2 hk.2.2.1⟩) h1
   refine ⟨v1, w1, hrun, ⟨fun k hk => ?_, inner ++ news, by rw [List.length_append, hm]; exact h2, reps_append (hr.imp_ (fun _ _ hq => step hq (fun _ hk => hk))) (hnM.imp_ (fun _ _ hq => step hq hokp))⟩, hg, hat'⟩
   rcases hat' with hat | ⟨b, hb, hle⟩
   ·exact hok k (hat ▸ hk)
   ·rw [hb] at hk
    injection hk with hk
    exact hfresh k (by omega)
 obtain ⟨v1, w1, hr1, h1, hg, hat⟩ := hrun
 refine wpList_plain hgd fun K hK => ?_
 unfold Oper.wp execOp
 simp only [ho, resolve, invoke, builtin, Sem.run_bind, Sem.run_pure, Result.andThen_ok, List.map_toArray, List.map_cons, List.map_nil, hs, hx, hr1]
 exact hK _ _ (h v1 w1 h1 (HB.grown hg hbase (own_base hown)) hg hat)
end
end Kd
namespace Kd
section
variable {P : Program} {ops : Array Oper} {rest : List Oper} {o : Oper} {a : Act} {Q : Exit → Act → World → Prop} {α : Type}
end
end Kd
theorem add_add (a : Addr) (i j : Nat) : (a.add i).add j = a.add (i + j) := by
 unfold Addr.add
 by_cases h1 : i = 0 <;> by_cases h2 : j = 0 <;> simp [h1, h2, Nat.add_assoc]
namespace Kd
section
variable {α : Type} {k : Kd α} {w : World} {A : Option Addr} {xs : List α} {m c : Nat}
end
end Kd
section
variable {P : Program}
end
theorem string_of_reads {P : Program} {w : World} {src dst e : TypeId} {A : Option Addr} {n c : Nat} {xs : List Int} (hs : P.underlying src = some (.slice e)) (he : P.underlying e = some (.int .u8)) (hd : P.underlying dst = some .string)
  (h : ReadsInt w .u8 A n xs) : (convert src dst (.slice A n c)).run P w = .ok (.string (strOfNums xs)) w := by
 have hn : xs.length = n := h.1
 rcases A with _ | ad
 ·have h0 : n = 0 := by
   rcases Nat.eq_zero_or_pos n with h0 | h0
   ·exact h0
   ·obtain ⟨ad, h', _⟩ := h.2.2 h0
    cases h'
  subst h0
  obtain rfl : xs = [] := List.eq_nil_of_length_eq_zero hn
  exact run_convert_bytes_nil w src e hs he 0 c dst hd
 ·have hl : (loadCells ad n).run P w = .ok (xs.map (Value.int .u8)).toArray w := by
   have := run_loadCells_list (P := P) w ad (xs.map (Value.int .u8)) (fun j v hj => by
    have hjl : j < xs.length := by
     rcases Nat.lt_or_ge j xs.length with h' | h'
     ·exact h'
     ·rw [List.getElem?_eq_none (by rw [List.length_map]; exact h')] at hj
      cases hj
    obtain ⟨ad', he', hc⟩ := h.2.2 (by omega)
    injection he' with he'
    subst he'
    rw [hc j (by omega)]
    rw [List.getElem?_map, List.getElem?_eq_getElem hjl] at hj
    simp at hj
    subst hj
    simp [List.getD_eq_getElem?_getD, List.getElem?_eq_getElem hjl])
   simpa [hn] using this
  rw [run_convert_bytes_string w src dst e _ n c hs he hd, run_bytesToString w ad n c xs hl, foldl_push_bytes]
  simp [strOfNums, ByteArray.empty, ByteArray.emptyWithCapacity]
  rfl
theorem below_size {w W : World} (h : Below w.heap.size w W) : w.heap.size ≤ W.heap.size := h.size
theorem below_step {w W w2 : World} (h : Below w.heap.size w W) (k : Below W.heap.size W w2) : Below w.heap.size w w2 := below_then h h.size k
theorem ReadsInt.nil (W : World) (k : IntKind) : ReadsInt W k none ([] : List Int).length [] := ⟨rfl, by simp, fun h => absurd h (Nat.lt_irrefl 0)⟩
theorem ReadsInt.drewN {W : World} {k : IntKind} {A : Option Addr} {n : Nat} {xs : List Int} (h : ReadsInt W k A n xs) (m : Nat) : ReadsInt (W.drewN m) k A n xs := h
theorem ReadsInt.ofRow {k : IntKind} {w : World} {a : Option Addr} {len cap : Nat} {zs : List Int} (h : (a = none ∧ len = 0 ∧ cap = 0 ∧ zs = []) ∨ ∃ x, a = some x ∧ len ≤ cap ∧ cap ≤ maxLen ∧ zs.length = cap ∧ (∀ i, i < zs.length → w.cell? (x.add i) = some (.int k (zs.getD i 0))) ∧ ∀ n ∈ zs, (Lit.int k n).wf = true) :
  ∃ l : List Int, len = l.length ∧ ReadsInt w k a l.length l ∧ l.length ≤ maxLen ∧ ∀ x ∈ l, (Lit.int k x).wf = true := by
 rcases h with ⟨rfl, rfl, rfl, rfl⟩ | ⟨x, rfl, hl, hm, hz, hc, hw⟩
 ·exact ⟨[], rfl, ReadsInt.nil _ _, Nat.zero_le _, fun x hx => by simp at hx⟩
 ·have e : (zs.take len).length = len := by simp; omega
  have hm' : len ≤ maxLen := Nat.le_trans hl hm
  refine ⟨zs.take len, e.symm, ⟨rfl, by rw [e]; simpa [maxLen] using hm', fun _ => ⟨x, rfl, fun j hj => ?_⟩⟩, by rw [e]; exact hm', fun y hy => hw y (List.mem_of_mem_take hy)⟩
  rw [e] at hj
  rw [hc j (by omega)]
  simp [List.getD, List.getElem?_take, hj]
theorem keep_cell {w W : World} {g : Nat} (h : KeepBut w W g none) {a : Addr} {v : Value} (hc : w.cell? a = some v) (hne : a.block ≠ g) : W.cell? a = some v := by
 have := h.2 a.block (World.block_lt_of_cell? w a hc) hne (by simp)
 simpa [World.cell?, this] using hc
theorem add_block (a : Addr) (i : Nat) : (a.add i).block = a.block := by unfold Addr.add; split <;> rfl
theorem ReadsOf.nil {α : Type} (enc : α → Value) (d : α) (W : World) : ReadsOf enc d W none ([] : List α).length [] := ⟨rfl, by simp, fun h => absurd h (Nat.lt_irrefl 0)⟩
theorem ReadsOf.drewN {α : Type} {enc : α → Value} {d : α} {W : World} {A : Option Addr} {n : Nat} {xs : List α} (h : ReadsOf enc d W A n xs) (m : Nat) : ReadsOf enc d (W.drewN m) A n xs := h
theorem ReadsInt.keep {w W : World} {k : IntKind} {A : Option Addr} {n g : Nat} {xs : List Int} (h : ReadsInt w k A n xs) (hk : KeepBut w W g none) (hf : ∀ ad, A = some ad → 0 < n → ad.block ≠ g) : ReadsInt W k A n xs :=
 ⟨h.1, h.2.1, fun hn => by
  obtain ⟨ad, e, hc⟩ := h.2.2 hn
  exact ⟨ad, e, fun j hj => keep_cell hk (hc j hj) (by rw [add_block]; exact hf ad e hn)⟩⟩
theorem ReadsOf.keep {α : Type} {enc : α → Value} {d : α} {w W : World} {A : Option Addr} {n g : Nat} {xs : List α} (h : ReadsOf enc d w A n xs) (hk : KeepBut w W g none) (hf : ∀ ad, A = some ad → 0 < n → ad.block ≠ g) : ReadsOf enc d W A n xs :=
 ⟨h.1, h.2.1, fun hn => by
  obtain ⟨ad, e, hc⟩ := h.2.2 hn
  exact ⟨ad, e, fun j hj => keep_cell hk (hc j hj) (by rw [add_block]; exact hf ad e hn)⟩⟩
theorem ReadsInt.ofRowC {k : IntKind} {w : World} {a : Option Addr} {len cap : Nat} {zs : List Int} (h : (a = none ∧ len = 0 ∧ cap = 0 ∧ zs = []) ∨ ∃ x, a = some x ∧ len ≤ cap ∧ cap ≤ maxLen ∧ zs.length = cap ∧ (∀ i, i < zs.length → w.cell? (x.add i) = some (.int k (zs.getD i 0))) ∧ ∀ n ∈ zs, (Lit.int k n).wf = true) :
  ∃ l : List Int, len = l.length ∧ ReadsInt w k a l.length l ∧ l.length ≤ maxLen ∧ (∀ x ∈ l, (Lit.int k x).wf = true) ∧ l.length ≤ cap := by
 have hl : len ≤ cap := by
  rcases h with ⟨_, rfl, rfl, _⟩ | ⟨_, _, h, _⟩
  ·exact Nat.le_refl _
  ·exact h
 obtain ⟨l, e, h1, h2, h3⟩ := ReadsInt.ofRow h
 exact ⟨l, e, h1, h2, h3, e ▸ hl⟩
theorem below_drew1 {base : Nat} {w W : World} (h : Below base w W) : Below base w W.drew := h.drew
namespace Kd
section
variable {α β : Type} {d : Kd α} {d' : Kd β} {e e' base base' n : Nat} {ok ok' : Nat → Prop} {w W w1 W1 : World} {v u : Value} {xs : List α} {ys : List β} {A : Option Addr} {c : Nat}
end
section
variable {α : Type} {enc : α → Value} {h1 : ∀ x, (enc x).oneCell' = true} {w W : World} {A : Option Addr} {n g : Nat} {xs : List α}
end
end Kd
namespace Kd
section
variable {α : Type} {d : Kd α} {e base g : Nat} {ok : Nat → Prop} {w w1 : World} {v : Value} {xs : List α} {o : Obj}
end
end Kd
section
variable {P : Program} {ops : Array Oper} {rest : List Oper} {o : Oper} {a : Act} {Q : Exit → Act → World → Prop}
end
namespace Kd
section
variable {α : Type} {enc : α → Value} {h1 : ∀ x, (enc x).oneCell' = true} {e base g n cap : Nat} {ok : Nat → Prop} {W : World} {xs : List α}
end
end Kd
section
variable {P : Program} {ops : Array Oper} {rest : List Oper} {o : Oper} {a : Act} {Q : Exit → Act → World → Prop}
end
namespace Kd
section
variable {α : Type} {enc : α → Value} {h1 : ∀ x, (enc x).oneCell' = true} {e base g n cap : Nat} {ok : Nat → Prop} {W : World} {xs : List α}
end
end Kd
section
variable {P : Program} {ops : Array Oper} {rest : List Oper} {o : Oper} {a : Act} {Q : Exit → Act → World → Prop} {W : World}
theorem gate_dst {N : Tmp} (_hN : o.dst = some N) (h : wpList P ops Q (o :: rest) a W) : wpList P ops Q (o :: rest) a W := h
end
section
variable {P : Program} {ops : Array Oper} {o : Oper} {a : Act} {Q : Exit → Act → World → Prop} {Kc : Act → World → Prop}
namespace Kd
variable {α : Type}
end Kd
end
inductive Vals (P : Program) (tmps : Array Value) (w : World) : List ResultVar → List Value → Prop where
 | nil : Vals P tmps w [] []
 | tmp {u : Tmp} {rs : List ResultVar} {vs : List Value} (h : Vals P tmps w rs vs) : Vals P tmps w (.tmp u :: rs) (tmps.getD u undef :: vs)
 | cell {p : Tmp} {ty : TypeId} {rs : List ResultVar} {vs : List Value} (g : Nat) (t : TypeId) (cs : Array Value) (fr : Nat × Nat) (d : TypeDesc)
   (hp : tmps.getD p undef = .pointer (some ⟨g, 0, none⟩)) (hg : w.heap[g]? = some (.cells cs t fr))
   (hu : P.underlying ty = some d) (hd : (match d with | .struct _ | .array _ _ => true | _ => false) = true) (hi : (P.info? ty).map (·.size) = some cs.size)
   (h : Vals P tmps w rs vs) : Vals P tmps w (.cell p ty :: rs) (.agg cs :: vs)
section
variable {P : Program} {tmps : Array Value} {w : World}
end
namespace Kd
section
variable {P : Program} {α : Type}
end
section
variable {P : Program} {ops : Array Oper} {rest : List Oper} {o : Oper} {a : Act} {Q : Exit → Act → World → Prop} {Kc : Act → World → Prop} {α : Type}
end
end Kd
end Go.Proofs.YthkepmicdpgbbaaGreatDoorW.PrintWords

namespace Go.Proofs.YthkepmicdpgbbaaGreatDoor.E
open Go Go.RowKit Go.Proofs.YthkepmicdpgbbaaGreatDoorW.PrintWords
set_option linter.unusedVariables false
set_option linter.unusedSimpArgs false
inductive TK where
 | bool
 | int (k : IntKind)
 | str
 | slice (e : Nat)
 | array (n e : Nat)
 | struct (fs : List (Nat × Nat))
 | ptr (e : Nat)
def TK.isAgg : TK → Bool
 | .array _ _ => true
 | .struct _ => true
 | _ => false
structure TI where
 size : Nat
 bytes : Nat
 zero : Value
 k : TK
def structOf : TypeDesc → Option (List (Nat × TypeId))
 | .struct fs => some (fs.toList.map fun f => (f.offset, f.type))
 | _ => none
def TK.is (P : Program) (t : Nat) : TK → Prop
 | .bool => P.underlying t = some .bool
 | .int k => P.underlying t = some (.int k)
 | .str => P.underlying t = some .string
 | .slice e => P.underlying t = some (.slice e)
 | .array n e => P.underlying t = some (.array n e)
 | .ptr e => P.underlying t = some (.pointer e)
 | .struct fs => ((P.underlying t).bind structOf).map (fun l => l.map fun x => (x.1, (P.info? x.2).map (·.size))) = some (fs.map fun x => (x.1, some x.2))
def TyFact (P : Program) (t : Nat) (i : TI) : Prop := (P.info? t).map (fun x => (x.size, x.bytes, x.zero)) = some (i.size, i.bytes, some i.zero) ∧ i.k.is P t ∧ i.zero.cells.size = i.size
structure Side (p K : Prop) : Prop where
 h : p
 k : K
inductive Norm (e : Nat) (x : List (List CV)) (K : List (List CV) → Prop) : Prop where
 | mk (y : List (List CV)) (h : y = x) (k : K y)
inductive ElemAt (l : List (List CV)) (e : Nat) (K : List CV → Prop) : Prop where
 | mk (el : List CV) (h : l[e]? = some el) (k : K el)
inductive IdxAt (j : Int) (n : Nat) (K : Nat → Prop) : Prop where
 | mk (i : Nat) (h : j = (i : Int)) (lt : i < n) (k : K i)
structure Br (x : Bool) (A B : Prop) : Prop where
 t : x = true → A
 f : x = false → B
structure Br2 (x want : Bool) (A B : Prop) : Prop where
 t : x = want → A
 f : x = (!want) → B
inductive LenAt (l : List (List CV)) (K : Nat → Prop) : Prop where
 | mk (n : Nat) (h : n = l.length) (k : K n)
inductive StrAt (els : List (List CV)) (K : List Int → Prop) : Prop where
 | mk (l : List Int) (h : els = l.map fun x => [.i .u8 x]) (k : K l)
def look {α : Type} : List (Nat × α) → Nat → Option α
 | [], _ => none
 | x :: r, t => cond (Nat.beq x.1 t) (some x.2) (look r t)
abbrev EqF := List PV → List PV → Option (Bool × Bool)
def EqFact (P : Program) (t : Nat) (f : EqF) : Prop := P.eqGuardType P.depth t = false ∧ ∀ (cs ds : List PV) (b c : Bool), f cs ds = some (b, c) → c = (!b) ∧ ∀ (G : Gh) (w : World) (xs ys : Array Value), RepsL G w cs xs.toList → RepsL G w ds ys.toList → (Op.equal t (.agg xs) (.agg ys)).run P w = .ok b w
structure Env where
 P : Program
 mixed : P.follows .mixedOrders = true
 T : List (Nat × TI)
 ok : ∀ x ∈ T, TyFact P x.1 x.2
 Q : List (Nat × EqF)
 qok : ∀ x ∈ Q, EqFact P x.1 x.2
def lookQ : List (Nat × EqF) → Nat → Option EqF
 | [], _ => none
 | x :: r, t => cond (Nat.beq x.1 t) (some x.2) (lookQ r t)
theorem lookQ_mem : ∀ {l : List (Nat × EqF)} {t : Nat} {f : EqF}, lookQ l t = some f → (t, f) ∈ l
 | x :: r, t, f, h => by
  simp only [lookQ] at h
  cases hb : Nat.beq x.1 t with
  | true =>
   rw [hb] at h
   injection h with h
   rw [← h, ← Nat.eq_of_beq_eq_true hb]
   exact List.mem_cons_self
  | false =>
   rw [hb] at h
   exact List.mem_cons_of_mem _ (lookQ_mem h)
def nth : List PV → Nat → PV
 | [], _ => .un
 | p :: _, 0 => p
 | _ :: r, n + 1 => nth r n
def put : List PV → Nat → PV → List PV
 | [], _, _ => []
 | _ :: r, 0, q => q :: r
 | p :: r, n + 1, q => p :: put r n q
def nthB : List Blk → Nat → Option Blk
 | [], _ => none
 | b :: _, 0 => some b
 | _ :: r, n + 1 => nthB r n
def putB : List Blk → Nat → Blk → List Blk
 | [], _, _ => []
 | _ :: r, 0, q => q :: r
 | p :: r, n + 1, q => p :: putB r n q
def len {α : Type} : List α → Nat
 | [] => 0
 | _ :: r => len r + 1
def ofV1 : Value → PV
 | .bool b => .v (.b b)
 | .int k n => .v (.i k n)
 | .string s => .v (.s s)
 | .slice none 0 0 => .nil
 | _ => .un
def ofV : Value → PV
 | .agg cs => .agg (cs.toList.map ofV1)
 | v => ofV1 v
def ev (s : List PV) : Operand → PV
 | .tmp t => nth s t
 | .const v => ofV v
 | _ => .un
def cellB : PV → Bool
 | .v _ => true
 | .nil => true
 | .own _ _ => true
 | .ptr _ _ => true
 | .eptr _ _ _ _ => true
 | .rptr _ => true
 | _ => false
def cellsB : List PV → Bool
 | [] => true
 | p :: r => cellB p && cellsB r
def pcells : PV → Option (List PV)
 | .agg cs => cond (cellsB cs) (some cs) none
 | p => cond (cellB p) (some [p]) none
def Blk.freeze : Blk → Blk
 | .arr sz ty _ els => .arr sz ty true els
 | b => b
def frz1 (h : List Blk) (id : Nat) : List Blk :=
 match nthB h id with
 | some B => putB h id B.freeze
 | none => h
def frz : List Nat → List Blk → List Blk
 | [], h => h
 | id :: r, h => frz r (frz1 h id)
def toCs (h : List Blk) : List PV → (List CV → List Nat → Prop) → Prop
 | [], K => K [] []
 | .v c :: ps, K => toCs h ps fun cs f => K (c :: cs) f
 | .nil :: ps, K => toCs h ps fun cs f => K (.row [] :: cs) f
 | .own id n :: ps, K => match nthB h id with
  | some (.arr _ _ _ els) => Side (n = els.length) (toCs h ps fun cs f => K (.row els :: cs) (id :: f))
  | _ => False
 | _ :: _, _ => False
abbrev Kont := PV → List Blk → List Nat → List Nat → Prop
def CV.plain : CV → Bool
 | .row _ => false
 | _ => true
def Flat (els : List (List CV)) : Prop := ∀ x ∈ els, ∀ c ∈ x, c.plain = true
def toTr (h : List Blk) (ty2 : TypeId) : List PV → (List CV → Option Nat → Prop) → Prop
 | [], K => K [] none
 | .v (.row _) :: _, _ => False
 | .v c :: ps, K => toTr h ty2 ps fun cs f => K (c :: cs) f
 | .nil :: ps, K => toTr h ty2 ps fun cs f => K (.row [] :: cs) f
 | .own id n :: ps, K => match nthB h id with
  | some (.arr sz ty false els) => Side (sz = 1) (Side (n = els.length) (Side (ty = ty2) (Side (Flat els) (toTr h ty2 ps fun cs f => match f with
   | none => K (.row els :: cs) (some id)
   | some _ => False))))
  | _ => False
 | _ :: _, _ => False
inductive MkVC (A : Prop) (B : Nat → Prop) : Prop where
 | a (h : A)
 | b (ty2 : Nat) (h : B ty2)
def putL {α : Type} (cs : List α) (o : Nat) (vs : List α) : List α := cs.take o ++ vs ++ cs.drop (o + vs.length)
def aLoad (E : Env) (h : List Blk) (t : Nat) (p : PV) (K : Kont) : Prop :=
 match look E.T t with
 | none => False
 | some i => match p with
  | .ptr id o => match nthB h id with
   | some (.box _ cs) => cond i.k.isAgg (Side (o + i.size ≤ cs.length) (K (.agg ((cs.drop o).take i.size)) h [id] [])) (Side (o < cs.length) (K (nth cs o) h [id] []))
   | _ => False
  | .eptr id n e o => match nthB h id with
   | some (.arr _ _ _ els) => Side (n = els.length) (ElemAt els e fun el =>
     cond i.k.isAgg (Side (o + i.size ≤ el.length) (K (.agg (((el.drop o).take i.size).map .v)) h [id] [])) (match el.drop o with
      | c :: _ => K (.v c) h [id] []
      | [] => False))
   | _ => False
  | .rptr cs => cond i.k.isAgg (Side (0 < i.size ∧ i.size ≤ cs.length) (K (.agg ((cs.take i.size).map .v)) h [] [])) (match cs with
    | c :: _ => K (.v c) h [] []
    | [] => False)
  | _ => False
def aStore (E : Env) (h : List Blk) (t : Nat) (p x : PV) (K : Kont) : Prop :=
 match look E.T t, pcells x with
 | some i, some vs => match p with
  | .ptr id o => match nthB h id with
   | some (.box ty cs) => Side (vs.length = i.size) (Side (o + i.size ≤ cs.length) (K .un (putB h id (.box ty (putL cs o vs))) [] [id]))
   | _ => False
  | .eptr id n e o => match nthB h id with
   | some (.arr sz ty false els) => toCs h vs fun cvs f => Side (vs.length = i.size) (Side (f.contains id = false) (Side (n = els.length)
     (ElemAt els e fun el => Side (o + i.size ≤ sz) (Norm ty (els.set e (putL el o cvs)) fun els' => K .un (putB (frz f h) id (.arr sz ty false els')) [] (id :: f)))))
   | some (.tree sz ty ty2 els) => toTr h ty2 vs fun cvs f => Side (vs.length = i.size) (Side (n = els.length)
     (ElemAt els e fun el => Side (o + i.size ≤ sz) (Norm ty (els.set e (putL el o cvs)) fun els' => match f with
      | none => K .un (putB h id (.tree sz ty ty2 els')) [] [id]
      | some id2 => K .un (putB (putB h id (.tree sz ty ty2 els')) id2 .junk) [] [id, id2])))
   | _ => False
  | _ => False
 | _, _ => False
def aAlloc (E : Env) (h : List Blk) (t : Nat) (K : Kont) : Prop :=
 match look E.T t with
 | some i => match pcells (ofV i.zero) with
  | some cs => K (.ptr (len h) 0) (h ++ [.box t cs]) [] [len h]
  | none => False
 | none => False
def aBox (h : List Blk) (t : Nat) (x : PV) (K : Kont) : Prop :=
 match pcells x with
 | some cs => K (.ptr (len h) 0) (h ++ [.box t cs]) [] [len h]
 | none => False
def fillP (pl : Nat → Option (Nat × Nat)) (cs : List PV) : List (Nat × PV) → Option (List PV)
 | [] => some cs
 | x :: r => match pl x.1, pcells x.2 with
  | some q, some vs => cond (Nat.beq (len vs) q.2 && Nat.ble (q.1 + len vs) (len cs)) (fillP pl (putL cs q.1 vs) r) none
  | _, _ => none
def nthF : List (Nat × Nat) → Nat → Option (Nat × Nat)
 | [], _ => none
 | x :: _, 0 => some x
 | _ :: r, n + 1 => nthF r n
def aBuild (E : Env) (h : List Blk) (t : Nat) (parts : List (Nat × PV)) (K : Kont) : Prop :=
 match look E.T t with
 | some i => match pcells (ofV i.zero) with
  | some z => match (match i.k with
    | .struct fs => fillP (nthF fs) z parts
    | .array _ e => (match parts, look E.T e with
     | [], some _ => some z
     | _, _ => none)
    | _ => none) with
   | some cs => K (.agg cs) h [] []
   | none => False
  | none => False
 | none => False
def zeros (z : List PV) : Nat → List PV
 | 0 => []
 | n + 1 => z ++ zeros z n
def chunks {α : Type} (sz : Nat) : Nat → List α → List (List α)
 | 0, _ => []
 | n + 1, l => l.take sz :: chunks sz n (l.drop sz)
def aBuildSlice (E : Env) (h : List Blk) (t n : Nat) (parts : List (Nat × PV)) (K : Kont) : Prop :=
 match look E.T t with
 | some i => match i.k with
  | .slice e => match look E.T e with
   | some j => match pcells (ofV j.zero) with
    | some z => match fillP (fun q => some (q * j.size, j.size)) (zeros z n) parts with
     | some cs => toCs h cs fun cvs f => Side (n * j.size ≤ 16777216) (Side (0 < j.size) (Norm e (chunks j.size n cvs) fun els => K (.own (len h) els.length) (frz f h ++ [.arr j.size e false els]) [] (len h :: f)))
     | none => False
    | none => False
   | none => False
  | _ => False
 | none => False
def aBuildTree (E : Env) (h : List Blk) (t n : Nat) (parts : List (Nat × PV)) (ty2 : Nat) (K : Kont) : Prop :=
 match look E.T t with
 | some i => match i.k with
  | .slice e => match look E.T e with
   | some j => match pcells (ofV j.zero) with
    | some z => match fillP (fun q => some (q * j.size, j.size)) (zeros z n) parts with
     | some cs => toTr h ty2 cs fun cvs f => Side (n * j.size ≤ 16777216) (Side (0 < j.size) (Norm e (chunks j.size n cvs) fun els => match f with
      | none => K (.own (len h) els.length) (h ++ [.tree j.size e ty2 els]) [] [len h]
      | some id => K (.own (len h) els.length) (putB h id .junk ++ [.tree j.size e ty2 els]) [] [len h, id]))
     | none => False
    | none => False
   | none => False
  | _ => False
 | none => False
def rowOf (h : List Blk) (p : PV) (K : List (List CV) → List Nat → Prop) : Prop :=
 match p with
 | .v (.row l) => K l []
 | .nil => K [] []
 | .own id n => match nthB h id with
  | some (.arr _ _ _ els) => Side (n = els.length) (K els [id])
  | _ => False
 | _ => False
def aSrc (h : List Blk) (sz t t2 : Nat) (k2 : TK) (q : PV) (G : List (List CV) → List Nat → Prop) : Prop :=
 match k2, q with
 | .str, .v (.s x) => Side (sz = 1) (G ((bytesOf x).map fun b => [.i .u8 b]) [])
 | .slice _, q => Side (t2 = t) (rowOf h q G)
 | _, _ => False
def aAppTree (E : Env) (h : List Blk) (t t2 id n sz ty ty2 : Nat) (els : List (List CV)) (q : PV) (K : Kont) : Prop :=
 match look E.T t, look E.T t2, q with
 | some i, some _, .own id3 n3 => match i.k with
  | .slice e => match look E.T e, nthB h id3 with
   | some j, some (.tree sz3 _ ty23 els3) => Side (t2 = t) (Side (Nat.beq id3 id = false) (Side (0 < j.size) (Side (n = els.length) (Side (n3 = els3.length) (Side (ty = e) (Side (sz = j.size) (Side (sz3 = j.size) (Side (ty23 = ty2)
     (Norm e (els ++ els3) fun els' => Side (els'.length * j.bytes ≤ 140737488355328) (Side (els'.length ≤ maxLen)
      (K (.own id els'.length) (putB (putB h id (.tree sz ty ty2 els')) id3 .junk) [] [id, id3])))))))))))
   | _, _ => False
  | _ => False
 | _, _, _ => False
def aAppend0 (E : Env) (h : List Blk) (t t2 : Nat) (p q : PV) (K : Kont) : Prop :=
 match look E.T t, look E.T t2 with
 | some i, some i2 => match i.k with
  | .slice e => match look E.T e with
   | some j => aSrc h j.size t t2 i2.k q fun els2 rd => Side (0 < j.size) (Side (∀ x ∈ els2, x.length = j.size) (match p with
     | .own id n => match nthB h id with
      | some (.arr sz ty false els) => Side (n = els.length) (Side (ty = e) (Side (sz = j.size) (Norm e (els ++ els2) fun els' => Side (els'.length * j.bytes ≤ 140737488355328) (Side (els'.length ≤ maxLen)
        (K (.own id els'.length) (putB h id (.arr sz ty false els')) rd [id])))))
      | _ => False
     | .nil => Side (els2.length * j.bytes ≤ 140737488355328) (Side (els2.length ≤ maxLen) (K (.own (len h) els2.length) (h ++ [.arr j.size e false els2]) rd [len h]))
     | _ => False))
   | none => False
  | _ => False
 | _, _ => False
def aAppend (E : Env) (h : List Blk) (t t2 : Nat) (p q : PV) (K : Kont) : Prop :=
 match p with
 | .own id n => match nthB h id with
  | some (.tree sz ty ty2 els) => aAppTree E h t t2 id n sz ty ty2 els q K
  | _ => aAppend0 E h t t2 p q K
 | _ => aAppend0 E h t t2 p q K
def aLen (E : Env) (t : Nat) (h : List Blk) (p : PV) (K : Kont) : Prop :=
 match look E.T t with
 | some i => match i.k, p with
  | .slice _, .own id n => (match nthB h id with
   | some (.arr _ _ _ els) => Side (n = els.length) (LenAt els fun n => K (.v (.i .i64 n)) h [id] [])
   | some (.tree _ _ _ els) => Side (n = els.length) (LenAt els fun n => K (.v (.i .i64 n)) h [id] [])
   | _ => False)
  | .slice _, .v (.row l) => LenAt l fun n => K (.v (.i .i64 n)) h [] []
  | .slice _, .nil => K (.v (.i .i64 0)) h [] []
  | .str, .v (.s x) => K (.v (.i .i64 x.size)) h [] []
  | _, _ => False
 | none => False
def aIndexAddr (E : Env) (h : List Blk) (t : Nat) (p x : PV) (K : Kont) : Prop :=
 match look E.T t, x with
 | some i, .v (.i _ j) => match i.k with
  | .slice e => match look E.T e with
   | some y => match p with
    | .own id n => match nthB h id with
     | some (.arr sz _ _ els) => Side (sz = y.size) (Side (0 ≤ j) (Side (j < (n : Int)) (Side (n = els.length) (K (.eptr id n j.toNat 0) h [id] []))))
     | some (.tree sz _ _ els) => Side (sz = y.size) (Side (0 ≤ j) (Side (j < (n : Int)) (Side (n = els.length) (K (.eptr id n j.toNat 0) h [id] []))))
     | _ => False
    | .v (.row l) => Side (0 ≤ j) (ElemAt l j.toNat fun el => Side (el.length = y.size) (K (.rptr el) h [] []))
    | _ => False
   | none => False
  | .array n e => match look E.T e, p with
   | some y, .ptr id o => (match nthB h id with
    | some (.box _ _) => IdxAt j n fun i => K (.ptr id (o + i * y.size)) h [id] []
    | _ => False)
   | _, _ => False
  | _ => False
 | _, _ => False
def aFieldAddr (E : Env) (h : List Blk) (t : Nat) (p : PV) (f : Nat) (K : Kont) : Prop :=
 match look E.T t with
 | some i => match i.k with
  | .struct fs => match nthF fs f with
   | some q => Side (0 < q.2) (match p with
    | .ptr id o => (match nthB h id with
     | some (.box _ _) => K (.ptr id (o + q.1)) h [id] []
     | _ => False)
    | .eptr id n e o => (match nthB h id with
     | some (.arr _ _ _ els) => Side (n = els.length) (Side (e < n) (K (.eptr id n e (o + q.1)) h [id] []))
     | some (.tree _ _ _ els) => Side (n = els.length) (Side (e < n) (K (.eptr id n e (o + q.1)) h [id] []))
     | _ => False)
    | .rptr cs => K (.rptr (cs.drop q.1)) h [] []
    | _ => False)
   | none => False
  | _ => False
 | none => False
def aIndex (E : Env) (h : List Blk) (t : Nat) (p x : PV) (K : Kont) : Prop :=
 match look E.T t with
 | some i => match i.k, p, x with
  | .str, .v (.s y), .v (.i _ j) => Side (0 ≤ j) (Side (j < (y.size : Int)) (K (.v (.i .u8 (bt y j))) h [] []))
  | _, _, _ => False
 | none => False
def wr : IntKind → Int → Int
 | .i64, n => wrap64 n
 | .u8, n => n % 256
 | k, n => k.wrap n
def wrK (k : IntKind) (n : Int) (K : Int → Prop) : Prop :=
 match k with
 | .i64 => K (wrap64 n)
 | .u8 => K (n % 256)
 | k => K (k.wrap n)
theorem wrK_eq (k : IntKind) (n : Int) (K : Int → Prop) : wrK k n K = K (wr k n) := by cases k <;> rfl
def p2 (y : Int) : Int := ((2 ^ y.toNat : Nat) : Int)
def aBin (h : List Blk) (op : BinOp) (p q : PV) (K : Kont) : Prop :=
 match p, q with
 | .v (.i k x), .v (.i k' y) => match op with
  | .add => Side (k = k') (wrK k (x + y) fun n => K (.v (.i k n)) h [] [])
  | .sub => Side (k = k') (wrK k (x - y) fun n => K (.v (.i k n)) h [] [])
  | .mul => Side (k = k') (wrK k (x * y) fun n => K (.v (.i k n)) h [] [])
  | .quo => Side (k = k') (Side (y ≠ 0) (wrK k (x.tdiv y) fun n => K (.v (.i k n)) h [] []))
  | .rem => Side (k = k') (Side (y ≠ 0) (K (.v (.i k (x.tmod y))) h [] []))
  | .and => Side (k = k') (K (.v (.i k (bits .and k x y))) h [] [])
  | .or => Side (k = k') (K (.v (.i k (bits .or k x y))) h [] [])
  | .xor => Side (k = k') (K (.v (.i k (bits .xor k x y))) h [] [])
  | .shl => Side (0 ≤ y) (Side (y ≤ k.bits) (wrK k (x * p2 y) fun n => K (.v (.i k n)) h [] []))
  | .shr => Side (0 ≤ y) (Side (y ≤ k.bits) (K (.v (.i k (x / p2 y))) h [] []))
  | .eql => Side (k = k') (K (.v (.b (x == y))) h [] [])
  | .neq => Side (k = k') (K (.v (.b (x != y))) h [] [])
  | .lss => Side (k = k') (K (.v (.b (decide (x < y)))) h [] [])
  | .leq => Side (k = k') (K (.v (.b (decide (x ≤ y)))) h [] [])
  | .gtr => Side (k = k') (K (.v (.b (decide (x > y)))) h [] [])
  | .geq => Side (k = k') (K (.v (.b (decide (x ≥ y)))) h [] [])
  | _ => False
 | .v (.s x), .v (.s y) => match op with
  | .add => Side ((x.size + y.size : Int) ≤ 9223372036854775807) (K (.v (.s (x ++ y))) h [] [])
  | .eql => K (.v (.b (x.toList == y.toList))) h [] []
  | .neq => K (.v (.b (!(x.toList == y.toList)))) h [] []
  | _ => False
 | _, _ => False
def aEq (E : Env) (h : List Blk) (op : BinOp) (t : Nat) (cs ds : List PV) (K : Kont) : Prop :=
 match lookQ E.Q t with
 | some f => match f cs ds with
  | some (b, c) => (match op with
   | .eql => K (.v (.b b)) h [] []
   | .neq => K (.v (.b c)) h [] []
   | _ => False)
  | none => False
 | none => False
def aBinT (E : Env) (h : List Blk) (op : BinOp) (t : Nat) (p q : PV) (K : Kont) : Prop :=
 match p, q with
 | .agg cs, .agg ds => aEq E h op t cs ds K
 | .v (.b x), .v (.b y) => (match look E.T t with
  | some i => match i.k, op with
   | .bool, .eql => K (.v (.b (x == y))) h [] []
   | .bool, .neq => K (.v (.b (x != y))) h [] []
   | _, _ => False
  | none => False)
 | p, q => aBin h op p q K
def aUn (h : List Blk) (op : UnOp) (p : PV) (K : Kont) : Prop :=
 match op, p with
 | .not, .v (.b x) => K (.v (.b (!x))) h [] []
 | .neg, .v (.i k x) => wrK k (-x) fun n => K (.v (.i k n)) h [] []
 | _, _ => False
def aPick (h : List Blk) (c p q : PV) (K : Kont) : Prop :=
 match c with
 | .v (.b x) => match p, q with
  | .v (.b y), .v (.b z) => K (.v (.b (cond x y z))) h [] []
  | p, q => Br x (K p h [] []) (K q h [] [])
 | _ => False
def numsOf : List (List CV) → Option (List Int)
 | [] => some []
 | [.i .u8 x] :: r => (numsOf r).map (x :: ·)
 | _ :: _ => none
def aConvert (E : Env) (h : List Blk) (t u : Nat) (p : PV) (K : Kont) : Prop :=
 match look E.T t, look E.T u with
 | some i, some j => match i.k, j.k, p with
  | .int _, .int k, .v (.i _ n) => wrK k n fun n => K (.v (.i k n)) h [] []
  | .slice e, .str, p => (match look E.T e with
   | some y => (match y.k with
    | .int .u8 => rowOf h p fun els rd => StrAt els fun l => K (.v (.s (strOfNums l))) h rd []
    | _ => False)
   | none => False)
  | .str, .slice e, .v (.s x) => (match look E.T e with
   | some y => (match y.k with
    | .int .u8 => Side ((x.size : Int) ≤ 9223372036854775807) (K (.v (.row ((bytesOf x).map fun b => [.i .u8 b]))) h [] [])
    | _ => False)
   | none => False)
  | _, _, _ => False
 | _, _ => False
def aMakeSlice (E : Env) (h : List Blk) (t : Nat) (p q : PV) (K : Kont) : Prop :=
 match look E.T t, p, q with
 | some i, .v (.i _ n), .v (.i _ c) => match i.k with
  | .slice e => match look E.T e with
   | some j => match pcells (ofV j.zero) with
    | some z => toCs h z fun cvs f => Side (f = []) (Side (n = c) (Side (0 ≤ n) (Side ((j.bytes : Int) * n ≤ 281474976710656) (Side (n ≤ 9223372036854775807) (Side (0 < j.size) (Side (j.size = z.length) (Norm e (List.replicate n.toNat cvs) fun els => K (.own (len h) els.length) (h ++ [.arr j.size e false els]) [] [len h])))))))
    | none => False
   | none => False
  | _ => False
 | _, _, _ => False
def aMakeTree (E : Env) (h : List Blk) (t : Nat) (p q : PV) (ty2 : Nat) (K : Kont) : Prop :=
 match look E.T t, p, q with
 | some i, .v (.i _ n), .v (.i _ c) => match i.k with
  | .slice e => match look E.T e with
   | some j => match pcells (ofV j.zero) with
    | some z => toTr h ty2 z fun cvs f => Side (f = none) (Side (n = c) (Side (0 ≤ n) (Side ((j.bytes : Int) * n ≤ 281474976710656) (Side (n ≤ 9223372036854775807) (Side (0 < j.size) (Side (j.size = z.length) (Norm e (List.replicate n.toNat cvs) fun els => K (.own (len h) els.length) (h ++ [.tree j.size e ty2 els]) [] [len h])))))))
    | none => False
   | none => False
  | _ => False
 | _, _, _ => False
def optI : Option PV → Int → Option Int
 | none, d => some d
 | some (.v (.i _ x)), _ => some x
 | _, _ => none
def aSlice (E : Env) (h : List Blk) (t : Nat) (p : PV) (lo hi : Option PV) (K : Kont) : Prop :=
 match look E.T t with
 | some i => match i.k, p with
  | .str, .v (.s x) => (match optI lo 0, optI hi x.size with
   | some l, some r => Side (0 ≤ l) (Side (l ≤ r) (Side (r ≤ (x.size : Int)) (K (.v (.s (x.extract l.toNat r.toNat))) h [] [])))
   | _, _ => False)
  | .slice e, .v (.row xs) => (match look E.T e, optI lo 0, optI hi xs.length with
   | some j, some l, some r => Side (∀ x ∈ xs, x.length = j.size) (Side (0 ≤ l) (Side (l ≤ r) (Side (r ≤ (xs.length : Int)) (Norm e ((xs.take r.toNat).drop l.toNat) fun ys => K (.v (.row ys)) h [] []))))
   | _, _, _ => False)
  | .slice e, .own id n => (match look E.T e, optI lo 0, optI hi n, nthB h id with
   | some j, some l, some r, some (.arr sz ty fz els) => Side (n = els.length) (Side (sz = j.size) (Side (0 ≤ l) (Side (l ≤ r) (Side (r ≤ (n : Int)) (Norm e ((els.take r.toNat).drop l.toNat) fun ys => K (.v (.row ys)) (frz [id] h) [] [id])))))
   | _, _, _, _ => False)
  | _, _ => False
 | none => False
def aExtract (h : List Blk) (p : PV) (n : Nat) (K : Kont) : Prop :=
 match p with
 | .tup vs => Side (n < vs.length) (K (nth vs n) h [] [])
 | _ => False
def aNilCheck (h : List Blk) (p : PV) (K : Kont) : Prop :=
 match p with
 | .ptr id o => (match nthB h id with
  | some (.box _ _) => K p h [id] []
  | _ => False)
 | .rptr _ => K p h [] []
 | _ => False
end Go.Proofs.YthkepmicdpgbbaaGreatDoor.E
