/- Texts of this claim, put together: Shelf, Gw, Card, EvA, EvB, WWords, EvC, EvD, EvE, EvF, EvG, EvH, EvI, EvJ, EvK, EvL -/
import Derived.Shelf.Strings.Builder1
import Derived.Shelf.Strings.Builder2
import Derived.Shelf.Strings.OnBuilder
import Derived.Shelf.Strconv.Itoa0
import Derived.Shelf.Strconv.Itoa1
import Derived.Shelf.LaysM
import Derived.Shelf.Strconv.Itoa2
import Derived.Shelf.Strconv.Itoa3
import Derived.Shelf.Strings.Search1
import Derived.Shelf.Strings.Search2
import Derived.Shelf.Strings.Search3
import Derived.Shelf.Strings.Cut
import Derived.Shelf.Strings.Count
import Derived.Shelf.Strings.Shaped
import Derived.Shelf.Strings.Split
import Derived.Shelf.Strings.SplitShaped
import Derived.Shelf.Unicode.DecodeSlow
import Derived.Test.YthkepmicdpgbbaaGreatDoorProg
import Derived.Below
import Derived.Lib.AppendIntMem
import Derived.Lib.ItoaMem
import Derived.Lib.SplitLaws
import Derived.Laws.AppendOwn
import Derived.Test.YthkepmicdpgbbaaGreatDoorRows
import Derived.ChangeVars
import Derived.JoinedOf
import Derived.SizedLaws
import Derived.HandedShaped
import Derived.LaidLaws
import Derived.LaidHandle
import Derived.LaidSub
import Derived.MakeChecks
import Derived.Lay
import Derived.Lib.LaidTab
import Derived.Deep.MidRow
import Derived.Laws.MakeOwn
import Derived.Orders
import Derived.Tactics
import Derived.Deep.Draws
import Derived.Deep.AppendLies
import Derived.Maps.AppendAt
import Derived.OwnWalk
import Derived.Laws.BytesArg
import Derived.Laws.OwnMore
import Derived.Deep.OwnRows
import Derived.Lib.ConvBytes
import Derived.Laws.Slices
import Derived.WalkKit
import Derived.KernelRfl
import Derived.RowKit3
import Derived.Deep.LoopGhost
import Derived.Deep.QuietTactic
import Derived.BigQuiet
import Derived.WideLaws
import Derived.Deep.DeepCutAuto
import Derived.Deep.CutBlock
import Derived.Deep.RegionHeld3
import Derived.Laws.Rows
import Derived.Lib.AppendStr
import Derived.ArgAppend
import Derived.Laws.IdiomCopy
import Derived.RowKit
/-
  DERIVED: THE SHELF's CONTRACTS AT THIS DUMP, IN PLAIN WORDS (tools/lay-plain.mjs out of 'TryzShelf.lean', which tools/lay-shelf.mjs wrote): THE SAME DECLARATIONS UNDER THE SAME NAMES: 'import', 'namespace', 'open', 'def', 'theorem' AND NOTHING ELSE: no command of the shelf's: FOR A HAND-IN. Each laying: the table of numbers ('.._ren') and one theorem, a field a fact of the dump's own or the kernel's comparison; each contract: ONE APPLICATION.
-/
namespace Go.Proofs
open Go.Shelf
def Tryz.lays156_ren : Go.Shelf.Ren := ⟨fun | 156 => 144 | 165 => 153 | 166 => 154 | 169 => 155 | 240 => 166 | 241 => 167 | 276 => 172 | 277 => 173 | n => n, fun | 31 => 135 | 9 => 9 | 3 => 3 | 4 => 4 | 0 => 0 | 20 => 20 | 72 => 159 | 76 => 163 | 70 => 157 | 37 => 22 | 75 => 162 | 127 => 172 | 164 => 177 | 5 => 5 | 80 => 165 | n => n, fun | n => n⟩
theorem Tryz.lays156 : Go.Proofs.Lays.n156 Tryz.prog Tryz.lays156_ren := {
  mixed := by kernel_rfl
  f156 := Tryz.func144.trans (congrArg some (by kernel_rfl))
  f165 := Tryz.func153.trans (congrArg some (by kernel_rfl))
  f166 := Tryz.func154.trans (congrArg some (by kernel_rfl))
  f169 := Tryz.func155.trans (congrArg some (by kernel_rfl))
  f240 := Tryz.func166.trans (congrArg some (by kernel_rfl))
  f241 := Tryz.func167.trans (congrArg some (by kernel_rfl))
  f276 := Tryz.func172.trans (congrArg some (by kernel_rfl))
  f277 := Tryz.func173.trans (congrArg some (by kernel_rfl))
  t0 := Tryz.underlying0
  a0 := Tryz.isAgg0
  z0 := Tryz.sizeOf0
  v0 := Tryz.zeroValue0
  t3 := Tryz.underlying3
  a3 := Tryz.isAgg3
  z3 := Tryz.sizeOf3
  v3 := Tryz.zeroValue3
  t4 := Tryz.underlying4
  a4 := Tryz.isAgg4
  z4 := Tryz.sizeOf4
  v4 := Tryz.zeroValue4
  t9 := Tryz.underlying9
  a9 := Tryz.isAgg9
  z9 := Tryz.sizeOf9
  v9 := Tryz.zeroValue9
  t20 := Tryz.underlying20
  a20 := Tryz.isAgg20
  z20 := Tryz.sizeOf20
  v20 := Tryz.zeroValue20
  t31 := Tryz.underlying135
  a31 := Tryz.isAgg135
  z31 := Tryz.sizeOf135
  v31 := Tryz.zeroValue135
  t37 := Tryz.underlying22
  a37 := Tryz.isAgg22
  z37 := Tryz.sizeOf22
  v37 := Tryz.zeroValue22
  t70 := Tryz.underlying157
  a70 := Tryz.isAgg157
  z70 := Tryz.sizeOf157
  v70 := Tryz.zeroValue157
  t72 := Tryz.underlying159
  a72 := Tryz.isAgg159
  z72 := Tryz.sizeOf159
  v72 := Tryz.zeroValue159
  t75 := Tryz.underlying162
  a75 := Tryz.isAgg162
  z75 := Tryz.sizeOf162
  v75 := Tryz.zeroValue162
  t76 := Tryz.underlying163
  a76 := Tryz.isAgg163
  z76 := Tryz.sizeOf163
  v76 := Tryz.zeroValue163
  t127 := Tryz.underlying172
  a127 := Tryz.isAgg172
  z127 := Tryz.sizeOf172
  v127 := Tryz.zeroValue172
  t164 := Tryz.underlying177
  a164 := Tryz.isAgg177
  z164 := Tryz.sizeOf177
  v164 := Tryz.zeroValue177 }
theorem Tryz.Builder_Extra_156 : Builder.Extra Tryz.prog Tryz.lays156_ren := {
  sizeBuilder := by kernel_rfl
  liesBuilder := by kernel_rfl
  t5 := Tryz.underlying5
  a5 := Tryz.isAgg5
  z5 := Tryz.sizeOf5
  v5 := Tryz.zeroValue5
  infoByte := by kernel_rfl
  cellsByte := by kernel_rfl
  sizeByte := by kernel_rfl
  neB5 := by decide }
open Go.RowKit in
/-- No element: the empty string; the world is as it was. (Whatever the slice's address and capacity: a nil slice too.) (LAID: no walk: one application.) -/
theorem Tryz.strings_Join_none (a : Option Addr) (c : Nat) (sep : ByteArray) (w : World) :
    Calls Tryz.prog 144 #[.slice a 0 c, .string sep] w fun e w' => e = .returned (.string ⟨#[]⟩) ∧ w' = w := Any.strings_Join_none Tryz.lays156 Tryz.Builder_Extra_156 a c sep w
open Go.RowKit in
/-- strings.Join: "Join concatenates the elements of its first argument to create a single string. The separator string sep is placed between elements in the resulting string.": HOWEVER MANY ELEMENTS. Below the heap's end the world is as it was. (LAID: no walk: one application.) -/
theorem Tryz.strings_Join (bk o c : Nat) (xs : List ByteArray) (sep : ByteArray) (w : World) (hcells : ∀ (j : Nat) x, xs[j]? = some x → w.cell? ⟨bk, o + j, none⟩ = some (.string x)) (hbk : bk < w.heap.size) (hN : xs.length ≤ 140737488355328) (hcap : xs.length ≤ c) (hlen : (Lib.join (xs.map (·.data.toList)) sep.data.toList).length ≤ 140737488355328) :
    Calls Tryz.prog 144 #[.slice (some ⟨bk, o, none⟩) xs.length c, .string sep] w fun e w' => e = .returned (.string ⟨(Lib.join (xs.map (·.data.toList)) sep.data.toList).toArray⟩) ∧ Below w.heap.size w w' := Any.strings_Join Tryz.lays156 Tryz.Builder_Extra_156 bk o c xs sep w hcells hbk hN hcap hlen
def Tryz.laysM171_ren : Go.Shelf.Ren := ⟨fun | 171 => 152 | 243 => 165 | 246 => 171 | 283 => 174 | 284 => 175 | 285 => 176 | 286 => 177 | 129 => 179 | 317 => 178 | 318 => 180 | 319 => 181 | 320 => 182 | 337 => 183 | 338 => 184 | n => n, fun | 3 => 3 | 9 => 9 | 2 => 2 | 4 => 4 | 171 => 184 | 0 => 0 | 53 => 185 | 37 => 22 | 5 => 5 | 173 => 188 | 212 => 191 | 51 => 173 | 20 => 20 | 213 => 192 | 46 => 117 | 232 => 195 | 233 => 196 | n => n, fun | 17 => 3 | 18 => 4 | 19 => 5 | n => n⟩
theorem Tryz.laysM171 : Go.Proofs.LaysM.n171 Tryz.prog Tryz.laysM171_ren := {
  mixed := by kernel_rfl
  f129 := Tryz.func179.trans (congrArg some (by kernel_rfl))
  f171 := Tryz.func152.trans (congrArg some (by kernel_rfl))
  f243 := Tryz.func165.trans (congrArg some (by kernel_rfl))
  f246 := Tryz.func171.trans (congrArg some (by kernel_rfl))
  f283 := Tryz.func174.trans (congrArg some (by kernel_rfl))
  f284 := Tryz.func175.trans (congrArg some (by kernel_rfl))
  f285 := Tryz.func176.trans (congrArg some (by kernel_rfl))
  f286 := Tryz.func177.trans (congrArg some (by kernel_rfl))
  f317 := Tryz.func178.trans (congrArg some (by kernel_rfl))
  f318 := Tryz.func180.trans (congrArg some (by kernel_rfl))
  f319 := Tryz.func181.trans (congrArg some (by kernel_rfl))
  f320 := Tryz.func182.trans (congrArg some (by kernel_rfl))
  f337 := Tryz.func183.trans (congrArg some (by kernel_rfl))
  f338 := Tryz.func184.trans (congrArg some (by kernel_rfl))
  t0 := Tryz.underlying0
  a0 := Tryz.isAgg0
  z0 := Tryz.sizeOf0
  v0 := Tryz.zeroValue0
  t2 := Tryz.underlying2
  a2 := Tryz.isAgg2
  z2 := Tryz.sizeOf2
  v2 := Tryz.zeroValue2
  t3 := Tryz.underlying3
  a3 := Tryz.isAgg3
  z3 := Tryz.sizeOf3
  v3 := Tryz.zeroValue3
  t4 := Tryz.underlying4
  a4 := Tryz.isAgg4
  z4 := Tryz.sizeOf4
  v4 := Tryz.zeroValue4
  t5 := Tryz.underlying5
  a5 := Tryz.isAgg5
  z5 := Tryz.sizeOf5
  v5 := Tryz.zeroValue5
  t9 := Tryz.underlying9
  a9 := Tryz.isAgg9
  z9 := Tryz.sizeOf9
  v9 := Tryz.zeroValue9
  t20 := Tryz.underlying20
  a20 := Tryz.isAgg20
  z20 := Tryz.sizeOf20
  v20 := Tryz.zeroValue20
  t37 := Tryz.underlying22
  a37 := Tryz.isAgg22
  z37 := Tryz.sizeOf22
  v37 := Tryz.zeroValue22
  t46 := Tryz.underlying117
  a46 := Tryz.isAgg117
  z46 := Tryz.sizeOf117
  v46 := Tryz.zeroValue117
  t51 := Tryz.underlying173
  a51 := Tryz.isAgg173
  z51 := Tryz.sizeOf173
  v51 := Tryz.zeroValue173
  t53 := Tryz.underlying185
  a53 := Tryz.isAgg185
  z53 := Tryz.sizeOf185
  v53 := Tryz.zeroValue185
  t171 := Tryz.underlying184
  a171 := Tryz.isAgg184
  z171 := Tryz.sizeOf184
  v171 := Tryz.zeroValue184
  t173 := Tryz.underlying188
  a173 := Tryz.isAgg188
  z173 := Tryz.sizeOf188
  v173 := Tryz.zeroValue188
  t212 := Tryz.underlying191
  a212 := Tryz.isAgg191
  z212 := Tryz.sizeOf191
  v212 := Tryz.zeroValue191
  t213 := Tryz.underlying192
  a213 := Tryz.isAgg192
  z213 := Tryz.sizeOf192
  t232 := Tryz.underlying195
  a232 := Tryz.isAgg195
  z232 := Tryz.sizeOf195
  v232 := Tryz.zeroValue195
  t233 := Tryz.underlying196
  a233 := Tryz.isAgg196
  z233 := Tryz.sizeOf196
  v233 := Tryz.zeroValue196
  g17 := by kernel_rfl
  g18 := by kernel_rfl
  g19 := by kernel_rfl
  i0 := by kernel_rfl
  i2 := by kernel_rfl
  i3 := by kernel_rfl
  i4 := by kernel_rfl
  i5 := by kernel_rfl
  i9 := by kernel_rfl
  i20 := by kernel_rfl
  i37 := by kernel_rfl
  i46 := by kernel_rfl
  i51 := by kernel_rfl
  i53 := by kernel_rfl
  i171 := by kernel_rfl
  i173 := by kernel_rfl
  i212 := by kernel_rfl
  i232 := by kernel_rfl
  i233 := by kernel_rfl
  m17 := by kernel_rfl
  m18 := by kernel_rfl
  m19 := by kernel_rfl }
open Go.RowKit Go.Sort Go.Lib in
/-- strconv.Itoa: "Itoa is equivalent to FormatInt(int64(i), 10).": i's DECIMAL NUMERAL ('Lib.itoa': a '-' where i is negative, then the digits), FOR EVERY int. The world behind the call: the world before it, new blocks behind the heap (the library's 'var a [24]byte'), draws. (LAID: no walk: one application.) -/
theorem Tryz.strconv_Itoa (n : Int) (h0 : -9223372036854775808 ≤ n) (h1 : n ≤ 9223372036854775807) (w : World) (htab : Lib.TabIs Tryz.prog w "internal/strconv.uint64pow10" .u64 Lib.pow10Tab) :
    Calls Tryz.prog 152 #[.int .i64 n] w fun e w' => e = .returned (.string ⟨(Lib.itoa n).toArray⟩) ∧ ∃ k os, w' = grow (w.drewN k) os := Any.strconv_Itoa Tryz.laysM171 n h0 h1 w htab
def Tryz.lays145_ren : Go.Shelf.Ren := ⟨fun | 145 => 131 | 220 => 141 | 219 => 149 | 217 => 159 | 225 => 160 | 224 => 161 | 267 => 162 | 266 => 169 | 314 => 170 | n => n, fun | 9 => 9 | 4 => 4 | 59 => 144 | 3 => 3 | 5 => 5 | 46 => 117 | 146 => 174 | 51 => 173 | n => n, fun | 1 => 0 | n => n⟩
theorem Tryz.lays145 : Go.Proofs.Lays.n145 Tryz.prog Tryz.lays145_ren := {
  mixed := by kernel_rfl
  f145 := Tryz.func131.trans (congrArg some (by kernel_rfl))
  f217 := Tryz.func159.trans (congrArg some (by kernel_rfl))
  f219 := Tryz.func149.trans (congrArg some (by kernel_rfl))
  f220 := Tryz.func141.trans (congrArg some (by kernel_rfl))
  f224 := Tryz.func161.trans (congrArg some (by kernel_rfl))
  f225 := Tryz.func160.trans (congrArg some (by kernel_rfl))
  f266 := Tryz.func169.trans (congrArg some (by kernel_rfl))
  f267 := Tryz.func162.trans (congrArg some (by kernel_rfl))
  f314 := Tryz.func170.trans (congrArg some (by kernel_rfl))
  t3 := Tryz.underlying3
  a3 := Tryz.isAgg3
  z3 := Tryz.sizeOf3
  v3 := Tryz.zeroValue3
  t4 := Tryz.underlying4
  a4 := Tryz.isAgg4
  z4 := Tryz.sizeOf4
  v4 := Tryz.zeroValue4
  t5 := Tryz.underlying5
  a5 := Tryz.isAgg5
  z5 := Tryz.sizeOf5
  v5 := Tryz.zeroValue5
  t9 := Tryz.underlying9
  a9 := Tryz.isAgg9
  z9 := Tryz.sizeOf9
  v9 := Tryz.zeroValue9
  t46 := Tryz.underlying117
  a46 := Tryz.isAgg117
  z46 := Tryz.sizeOf117
  v46 := Tryz.zeroValue117
  t51 := Tryz.underlying173
  a51 := Tryz.isAgg173
  z51 := Tryz.sizeOf173
  v51 := Tryz.zeroValue173
  t59 := Tryz.underlying144
  a59 := Tryz.isAgg144
  z59 := Tryz.sizeOf144
  v59 := Tryz.zeroValue144
  t146 := Tryz.underlying174
  a146 := Tryz.isAgg174
  z146 := Tryz.sizeOf174
  v146 := Tryz.zeroValue174
  g1 := by kernel_rfl }
open Go.RowKit Go.Lib in
/-- strings.Cut: "Cut slices s around the first instance of sep, returning the text before and after sep. The found result reports whether sep appears in s. If sep does not appear in s, cut returns s, "", false.": IT RETURNS 'Lib.cut s sep'; the world is as it was but for the count of draws. (LAID: no walk: one application.) -/
theorem Tryz.strings_Cut (s sep : ByteArray) (m : Int) (w : World) (hs : s.size < 4294967281) (hm : w.cell? ⟨0, 0, none⟩ = some (.int .i64 m)) :
    Calls Tryz.prog 131 #[.string s, .string sep] w fun e w' => e = .returned (.tuple #[.string ⟨(Lib.cut s.data.toList sep.data.toList).1.toArray⟩, .string ⟨(Lib.cut s.data.toList sep.data.toList).2.1.toArray⟩, .bool (Lib.cut s.data.toList sep.data.toList).2.2]) ∧ ∃ n, w' = w.drewN n := Any.strings_Cut Tryz.lays145 s sep m w hs hm
def Tryz.laysM145_ren : Go.Shelf.Ren := ⟨fun | 145 => 131 | 220 => 141 | 219 => 149 | 217 => 159 | 225 => 160 | 224 => 161 | 267 => 162 | 266 => 169 | 314 => 170 | n => n, fun | 9 => 9 | 4 => 4 | 59 => 144 | 3 => 3 | 5 => 5 | 46 => 117 | 146 => 174 | 51 => 173 | n => n, fun | 1 => 0 | n => n⟩
theorem Tryz.laysM145 : Go.Proofs.LaysM.n145 Tryz.prog Tryz.laysM145_ren := {
  mixed := by kernel_rfl
  f145 := Tryz.func131.trans (congrArg some (by kernel_rfl))
  f217 := Tryz.func159.trans (congrArg some (by kernel_rfl))
  f219 := Tryz.func149.trans (congrArg some (by kernel_rfl))
  f220 := Tryz.func141.trans (congrArg some (by kernel_rfl))
  f224 := Tryz.func161.trans (congrArg some (by kernel_rfl))
  f225 := Tryz.func160.trans (congrArg some (by kernel_rfl))
  f266 := Tryz.func169.trans (congrArg some (by kernel_rfl))
  f267 := Tryz.func162.trans (congrArg some (by kernel_rfl))
  f314 := Tryz.func170.trans (congrArg some (by kernel_rfl))
  t3 := Tryz.underlying3
  a3 := Tryz.isAgg3
  z3 := Tryz.sizeOf3
  v3 := Tryz.zeroValue3
  t4 := Tryz.underlying4
  a4 := Tryz.isAgg4
  z4 := Tryz.sizeOf4
  v4 := Tryz.zeroValue4
  t5 := Tryz.underlying5
  a5 := Tryz.isAgg5
  z5 := Tryz.sizeOf5
  v5 := Tryz.zeroValue5
  t9 := Tryz.underlying9
  a9 := Tryz.isAgg9
  z9 := Tryz.sizeOf9
  v9 := Tryz.zeroValue9
  t46 := Tryz.underlying117
  a46 := Tryz.isAgg117
  z46 := Tryz.sizeOf117
  v46 := Tryz.zeroValue117
  t51 := Tryz.underlying173
  a51 := Tryz.isAgg173
  z51 := Tryz.sizeOf173
  v51 := Tryz.zeroValue173
  t59 := Tryz.underlying144
  a59 := Tryz.isAgg144
  z59 := Tryz.sizeOf144
  v59 := Tryz.zeroValue144
  t146 := Tryz.underlying174
  a146 := Tryz.isAgg174
  z146 := Tryz.sizeOf174
  v146 := Tryz.zeroValue174
  g1 := by kernel_rfl
  i3 := by kernel_rfl
  i4 := by kernel_rfl
  i5 := by kernel_rfl
  i9 := by kernel_rfl
  i46 := by kernel_rfl
  i51 := by kernel_rfl
  i59 := by kernel_rfl
  i146 := by kernel_rfl
  m1 := by kernel_rfl
  s1_3 := fun w h => Go.Proofs.cell_of_shapedOpen_int (zero := #[.int .i64 0]) (t := 3) h (of_decide_eq_true (by kernel_rfl)) (by kernel_rfl) rfl (by kernel_rfl) (by kernel_rfl) Tryz.underlying3 }
def Tryz.lays146_ren : Go.Shelf.Ren := ⟨fun | 146 => 130 | 221 => 140 | 268 => 146 | 138 => 147 | 143 => 148 | 195 => 156 | 197 => 157 | 218 => 158 | 219 => 149 | 260 => 168 | 217 => 159 | 225 => 160 | 224 => 161 | 267 => 162 | 266 => 169 | 314 => 170 | n => n, fun | 9 => 9 | 31 => 135 | 3 => 3 | 4 => 4 | 0 => 0 | 105 => 167 | 21 => 21 | 5 => 5 | 46 => 117 | 119 => 180 | 139 => 183 | 138 => 182 | 146 => 174 | 51 => 173 | n => n, fun | 1 => 0 | 3 => 1 | 4 => 2 | n => n⟩
theorem Tryz.lays146 : Go.Proofs.Lays.n146 Tryz.prog Tryz.lays146_ren := {
  mixed := by kernel_rfl
  f138 := Tryz.func147.trans (congrArg some (by kernel_rfl))
  f143 := Tryz.func148.trans (congrArg some (by kernel_rfl))
  f146 := Tryz.func130.trans (congrArg some (by kernel_rfl))
  f195 := Tryz.func156.trans (congrArg some (by kernel_rfl))
  f197 := Tryz.func157.trans (congrArg some (by kernel_rfl))
  f217 := Tryz.func159.trans (congrArg some (by kernel_rfl))
  f218 := Tryz.func158.trans (congrArg some (by kernel_rfl))
  f219 := Tryz.func149.trans (congrArg some (by kernel_rfl))
  f221 := Tryz.func140.trans (congrArg some (by kernel_rfl))
  f224 := Tryz.func161.trans (congrArg some (by kernel_rfl))
  f225 := Tryz.func160.trans (congrArg some (by kernel_rfl))
  f260 := Tryz.func168.trans (congrArg some (by kernel_rfl))
  f266 := Tryz.func169.trans (congrArg some (by kernel_rfl))
  f267 := Tryz.func162.trans (congrArg some (by kernel_rfl))
  f268 := Tryz.func146.trans (congrArg some (by kernel_rfl))
  f314 := Tryz.func170.trans (congrArg some (by kernel_rfl))
  t0 := Tryz.underlying0
  a0 := Tryz.isAgg0
  z0 := Tryz.sizeOf0
  v0 := Tryz.zeroValue0
  t3 := Tryz.underlying3
  a3 := Tryz.isAgg3
  z3 := Tryz.sizeOf3
  v3 := Tryz.zeroValue3
  t4 := Tryz.underlying4
  a4 := Tryz.isAgg4
  z4 := Tryz.sizeOf4
  v4 := Tryz.zeroValue4
  t5 := Tryz.underlying5
  a5 := Tryz.isAgg5
  z5 := Tryz.sizeOf5
  v5 := Tryz.zeroValue5
  t9 := Tryz.underlying9
  a9 := Tryz.isAgg9
  z9 := Tryz.sizeOf9
  v9 := Tryz.zeroValue9
  t21 := Tryz.underlying21
  a21 := Tryz.isAgg21
  z21 := Tryz.sizeOf21
  v21 := Tryz.zeroValue21
  t31 := Tryz.underlying135
  a31 := Tryz.isAgg135
  z31 := Tryz.sizeOf135
  v31 := Tryz.zeroValue135
  t46 := Tryz.underlying117
  a46 := Tryz.isAgg117
  z46 := Tryz.sizeOf117
  v46 := Tryz.zeroValue117
  t51 := Tryz.underlying173
  a51 := Tryz.isAgg173
  z51 := Tryz.sizeOf173
  v51 := Tryz.zeroValue173
  t105 := Tryz.underlying167
  a105 := Tryz.isAgg167
  z105 := Tryz.sizeOf167
  v105 := Tryz.zeroValue167
  t119 := Tryz.underlying180
  a119 := Tryz.isAgg180
  z119 := Tryz.sizeOf180
  t138 := Tryz.underlying182
  a138 := Tryz.isAgg182
  z138 := Tryz.sizeOf182
  v138 := Tryz.zeroValue182
  t139 := Tryz.underlying183
  a139 := Tryz.isAgg183
  z139 := Tryz.sizeOf183
  v139 := Tryz.zeroValue183
  t146 := Tryz.underlying174
  a146 := Tryz.isAgg174
  z146 := Tryz.sizeOf174
  v146 := Tryz.zeroValue174
  g1 := by kernel_rfl
  g3 := by kernel_rfl
  g4 := by kernel_rfl }
open Go.RowKit Go.Lib in
/-- strings.Split. (LAID: no walk: one application.) -/
theorem Tryz.strings_Split (s sep : ByteArray) (m : Int) (w : World) (hs : s.size < 4294967281) (hm : w.cell? ⟨0, 0, none⟩ = some (.int .i64 m)) (h1 : 1 ≤ sep.size) :
    Calls Tryz.prog 130 #[.string s, .string sep] w fun e w' =>
      e = .returned (.slice (some ⟨w.heap.size, 0, none⟩) (Lib.countB s sep + 1) (Lib.countB s sep + 1)) ∧ w' = w.alloc (.cells ((Lib.splitB sep 0 (Lib.countB s sep) s).map Value.string).toArray 9) := Any.strings_Split Tryz.lays146 (by kernel_rfl) s sep m w hs hm h1
def Tryz.lays147_ren : Go.Shelf.Ren := ⟨fun | 147 => 132 | 221 => 140 | 268 => 146 | 138 => 147 | 143 => 148 | 195 => 156 | 197 => 157 | 218 => 158 | 219 => 149 | 260 => 168 | 217 => 159 | 225 => 160 | 224 => 161 | 267 => 162 | 266 => 169 | 314 => 170 | n => n, fun | 9 => 9 | 3 => 3 | 31 => 135 | 4 => 4 | 0 => 0 | 105 => 167 | 21 => 21 | 5 => 5 | 46 => 117 | 119 => 180 | 139 => 183 | 138 => 182 | 146 => 174 | 51 => 173 | n => n, fun | 1 => 0 | 3 => 1 | 4 => 2 | n => n⟩
theorem Tryz.lays147 : Go.Proofs.Lays.n147 Tryz.prog Tryz.lays147_ren := {
  mixed := by kernel_rfl
  f138 := Tryz.func147.trans (congrArg some (by kernel_rfl))
  f143 := Tryz.func148.trans (congrArg some (by kernel_rfl))
  f147 := Tryz.func132.trans (congrArg some (by kernel_rfl))
  f195 := Tryz.func156.trans (congrArg some (by kernel_rfl))
  f197 := Tryz.func157.trans (congrArg some (by kernel_rfl))
  f217 := Tryz.func159.trans (congrArg some (by kernel_rfl))
  f218 := Tryz.func158.trans (congrArg some (by kernel_rfl))
  f219 := Tryz.func149.trans (congrArg some (by kernel_rfl))
  f221 := Tryz.func140.trans (congrArg some (by kernel_rfl))
  f224 := Tryz.func161.trans (congrArg some (by kernel_rfl))
  f225 := Tryz.func160.trans (congrArg some (by kernel_rfl))
  f260 := Tryz.func168.trans (congrArg some (by kernel_rfl))
  f266 := Tryz.func169.trans (congrArg some (by kernel_rfl))
  f267 := Tryz.func162.trans (congrArg some (by kernel_rfl))
  f268 := Tryz.func146.trans (congrArg some (by kernel_rfl))
  f314 := Tryz.func170.trans (congrArg some (by kernel_rfl))
  t0 := Tryz.underlying0
  a0 := Tryz.isAgg0
  z0 := Tryz.sizeOf0
  v0 := Tryz.zeroValue0
  t3 := Tryz.underlying3
  a3 := Tryz.isAgg3
  z3 := Tryz.sizeOf3
  v3 := Tryz.zeroValue3
  t4 := Tryz.underlying4
  a4 := Tryz.isAgg4
  z4 := Tryz.sizeOf4
  v4 := Tryz.zeroValue4
  t5 := Tryz.underlying5
  a5 := Tryz.isAgg5
  z5 := Tryz.sizeOf5
  v5 := Tryz.zeroValue5
  t9 := Tryz.underlying9
  a9 := Tryz.isAgg9
  z9 := Tryz.sizeOf9
  v9 := Tryz.zeroValue9
  t21 := Tryz.underlying21
  a21 := Tryz.isAgg21
  z21 := Tryz.sizeOf21
  v21 := Tryz.zeroValue21
  t31 := Tryz.underlying135
  a31 := Tryz.isAgg135
  z31 := Tryz.sizeOf135
  v31 := Tryz.zeroValue135
  t46 := Tryz.underlying117
  a46 := Tryz.isAgg117
  z46 := Tryz.sizeOf117
  v46 := Tryz.zeroValue117
  t51 := Tryz.underlying173
  a51 := Tryz.isAgg173
  z51 := Tryz.sizeOf173
  v51 := Tryz.zeroValue173
  t105 := Tryz.underlying167
  a105 := Tryz.isAgg167
  z105 := Tryz.sizeOf167
  v105 := Tryz.zeroValue167
  t119 := Tryz.underlying180
  a119 := Tryz.isAgg180
  z119 := Tryz.sizeOf180
  t138 := Tryz.underlying182
  a138 := Tryz.isAgg182
  z138 := Tryz.sizeOf182
  v138 := Tryz.zeroValue182
  t139 := Tryz.underlying183
  a139 := Tryz.isAgg183
  z139 := Tryz.sizeOf183
  v139 := Tryz.zeroValue183
  t146 := Tryz.underlying174
  a146 := Tryz.isAgg174
  z146 := Tryz.sizeOf174
  v146 := Tryz.zeroValue174
  g1 := by kernel_rfl
  g3 := by kernel_rfl
  g4 := by kernel_rfl }
open Go.RowKit Go.Lib in
/-- strings.SplitN, n > 0. (LAID: no walk: one application.) -/
theorem Tryz.strings_SplitN (s sep : ByteArray) (n : Nat) (m : Int) (w : World) (hs : s.size < 4294967281) (hm : w.cell? ⟨0, 0, none⟩ = some (.int .i64 m)) (h1 : 1 ≤ sep.size) (hn : 1 ≤ n) (hn63 : n ≤ 9223372036854775807) :
    Calls Tryz.prog 132 #[.string s, .string sep, .int .i64 n] w fun e w' =>
      e = .returned (.slice (some ⟨w.heap.size, 0, none⟩) (Lib.splitB sep 0 (min n (s.size + 1) - 1) s).length (min n (s.size + 1))) ∧ w' = w.alloc (.cells (Lib.cellsOf (Lib.splitB sep 0 (min n (s.size + 1) - 1) s) (min n (s.size + 1))) 9) := Any.strings_SplitN Tryz.lays147 (by kernel_rfl) s sep n m w hs hm h1 hn hn63
end Go.Proofs

/- What the library's contracts ask of the world in which they are met: the table of powers of ten, and the length from which a text is searched in another way. It lasts, whatever is made behind the heap. -/
namespace Go.Proofs.YthkepmicdpgbbaaGreatDoor.P
open Go Go.RowKit
set_option linter.unusedVariables false
structure GW (w : World) : Prop where
  tab : Lib.TabIs Tryz.prog w "internal/strconv.uint64pow10" .u64 Lib.pow10Tab
  most : ∃ (m : Int) (g : Nat), Tryz.prog.globalNamed "internal/bytealg.MaxLen" = some g ∧ w.cell? ⟨g, 0, none⟩ = some (.int .i64 m) ∧ g < w.heap.size
theorem GW.below {w w' : World} (h : GW w) (hb : Below w.heap.size w w') : GW w' := ⟨Lib.tabBelow_of_tabIs h.tab _ hb, let ⟨m, g, hn, hc, hl⟩ := h.most; ⟨m, g, hn, (hb.cell (p := ⟨g, 0, none⟩) hl).trans hc, Nat.lt_of_lt_of_le hl hb.size⟩⟩
/-- A row that a call has laid anew. -/
theorem own_new (w : World) (e : TypeId) (cur : Array Value) (n cap : Nat) (xs : List Value) (h0 : xs.length = n) (h1 : n ≤ cap) (h2 : cap ≤ maxLen) (h3 : cur.size = cap) (h4 : cur.toList.take n = xs) :
    (w.alloc (.cells cur e)).ownsRow w.heap.size e 1 (.slice (some ⟨w.heap.size, 0, none⟩) n cap) n xs := by
  refine ⟨by rw [h0, Nat.mul_one], .inr ⟨w.heap.size, cap, cur, rfl, Nat.le_refl _, ?_, h1, h2, by rw [h3, Nat.mul_one], by rw [Nat.mul_one]; exact h4⟩⟩
  exact heap_alloc_new w _
end Go.Proofs.YthkepmicdpgbbaaGreatDoor.P

/- A row whose card lists tables: what the listed tables, and the shape of the world, tell of the world in which the row's call begins. -/
namespace Go.Proofs.YthkepmicdpgbbaaGreatDoor.Card
open Go
set_option linter.unusedVariables false
section
variable {H : Type} {enc : TypeId × Value → H}
/-- The row's builder, with both: a condition on the world, and the world's shape. -/
theorem returns_both {a : Assume} {C : Checked} {os : Os} {f : FuncId} {fn : Func} {s : ChangeSpec} {conds : List PathCond} {apart fresh handsOn again : Bool} {X : World → Array Value → Prop}
    (hX : ∀ (w w' : World) (args : Array Value), w.heap = w'.heap → X w args → X w' args)
    (own : ownKnob C.prog.godebug = none) (started : os.Started) (noInit : C.prog.inits.idxOf? f = none) (hfn : C.prog.funcs[f]? = some fn)
    (witness : ∃ (w : World) (tape : Tape) (i : Input), w.os = os ∧ (w.forCall tape i).Shaped C.prog ∧ i.vars = [] ∧ Input.okWide C.prog (w.forCall tape i) .any w.heap.size f i ∧
      ((s.pre enc C.prog fn conds apart (w.forCall tape i).memory i.args ∧ X (w.forCall tape i).memory i.args) ∧ sizedMet enc C.prog fn (OpenSpec.ofChange s) apart (w.forCall tape i).memory i.args) ∧ a.holds C.prog (lone (Frame.enter C.prog f i.args .normal) [] (w.forCall tape i)))
    (contract : ∀ (W : World) (base : Nat) (args : Array Value) (ds gs : List (DataW H)) (before : List MemPlace),
      (∀ (j : Nat) t v, fn.params[j]? = some t → args[j]? = some v → Value.okWide C.prog W .any base t v) →
      DataW.Whole enc C.prog fn.params.toList s.vars apart W args.toList ds gs before →
      conds.all (PathCond.test C.prog ⟨fn.params.toList, ds, s.plain.varTypes C.prog, gs⟩) = true →
      (DataW.weightsEach C.prog (fn.params.toList ++ s.plain.varTypes C.prog) (ds ++ gs)).all (· ≤ reachBytes) = true → X W args → W.ShapedOpen C.prog →
      a.holds C.prog (lone (Frame.enter C.prog f args .normal) [] W) →
      Calls C.prog f args W fun e W' => ∃ v, e = .returned v ∧ s.post enc C.prog fn apart fresh handsOn again W args v W') :
    ReturnsInHanded a C os f .any (fun w args => (s.pre enc C.prog fn conds apart w args ∧ X w args) ∧ sizedMet enc C.prog fn (OpenSpec.ofChange s) apart w args) (s.post enc C.prog fn apart fresh handsOn again) := by
  refine returnsInHanded_of_calls own started noInit witness ?_
  intro w tape i _ hsh _ hok hpre hholds
  obtain ⟨_, _, _, fn', hfn', _, _, _, _, hval⟩ := hok
  have e : fn' = fn := Option.some.inj (hfn'.symm.trans hfn)
  subst e
  obtain ⟨⟨⟨ds, gs, before, hw, hc⟩, hx⟩, hz⟩ := hpre
  have hw' := DataW.Whole.of_heap (w' := w.forCall tape i) (by rfl) hw
  refine (contract (w.forCall tape i) w.heap.size i.args ds gs before hval hw' hc (hz.weights hw) (hX _ _ _ (by rfl) hx) hsh hholds).mono fun e W' ⟨v, he, hp⟩ => ?_
  subst he
  exact ChangeSpec.post_blind hp
end
theorem tabType : (Tryz.prog.globalNamed "internal/strconv.uint64pow10").bind (fun g => (Tryz.prog.globals[g]?).map (·.type)) = some 191 := by kernel_rfl
theorem tab_of_laid {l : List (String × DataW Unit)} {W : World} (h : laidMetH Tryz.prog l W) (hp : (l.all fun x => x.2.handleName?.isNone) = true)
    (hf : (l.filter fun x => x.1 == "internal/strconv.uint64pow10") = [("internal/strconv.uint64pow10", Lib.tabData .u64 Lib.pow10Tab)]) : Lib.TabIs Tryz.prog W "internal/strconv.uint64pow10" .u64 Lib.pow10Tab := by
  rw [MakeChecks.laidMetH_plain _ _ _ hp] at h
  have h2 := laidMet.filter (fun x => x.1 == "internal/strconv.uint64pow10") h
  rw [hf] at h2
  have hT := tabType
  cases hg : Tryz.prog.globalNamed "internal/strconv.uint64pow10" with
  | none => rw [hg] at hT; cases hT
  | some g =>
    rw [hg] at hT
    exact Lib.tabIs_of_head hg hT Tryz.underlying191 Tryz.underlying185 (by kernel_rfl) (by kernel_rfl) h2
theorem gw {l : List (String × DataW Unit)} {W : World} (h : laidMetH Tryz.prog l W) (hp : (l.all fun x => x.2.handleName?.isNone) = true)
    (hf : (l.filter fun x => x.1 == "internal/strconv.uint64pow10") = [("internal/strconv.uint64pow10", Lib.tabData .u64 Lib.pow10Tab)]) (hs : W.ShapedOpen Tryz.prog) : P.GW W :=
  ⟨tab_of_laid h hp hf, by
    obtain ⟨m, hm⟩ := Tryz.laysM145.s1_3 W hs
    exact ⟨m, 0, by kernel_rfl, hm, World.block_lt_of_cell? _ _ hm⟩⟩
end Go.Proofs.YthkepmicdpgbbaaGreatDoor.Card

/- What a run of Go code comes to, told with values alone: the words. A value that is only read is told by what it holds; what the code itself has made and may write is told by a number. -/
namespace Go.Proofs.YthkepmicdpgbbaaGreatDoor.E
open Go Go.RowKit
set_option linter.unusedVariables false
set_option linter.unusedSimpArgs false

inductive CV where
  | b (x : Bool)
  | i (k : IntKind) (n : Int)
  | s (x : ByteArray)
  | row (l : List (List CV))

inductive PV where
  | v (c : CV)
  | nil
  | own (id n : Nat)
  | ptr (id o : Nat)
  | eptr (id n e o : Nat)
  | rptr (cs : List CV)
  | agg (cs : List PV)
  | tup (vs : List PV)
  | un

inductive Blk where
  | arr (sz : Nat) (ty : TypeId) (fz : Bool) (els : List (List CV))
  | box (ty : TypeId) (cs : List PV)

structure Gh where
  base : Nat
  old : Nat → Prop
  own : Nat → Option Nat
  inf : Nat → Option (Nat × Nat × Bool)

def Gh.imm (G : Gh) (b : Nat) : Prop :=
  (b < G.base ∧ G.own b = none ∧ G.old b) ∨ (G.base ≤ b ∧ G.own b = none) ∨ ∃ id sz n, G.own b = some id ∧ G.inf id = some (sz, n, true)

mutual
def RepC (imm : Nat → Prop) (w : World) : CV → Value → Prop
  | .b x, v => v = .bool x
  | .i k n, v => v = .int k n
  | .s x, v => v = .string x
  | .row l, v => ∃ A c, v = .slice A l.length c ∧ l.length ≤ c ∧ l.length ≤ maxLen ∧
      (l = [] ∨ ∃ b o sz cs ty fr, A = some ⟨b, o, none⟩ ∧ imm b ∧ w.heap[b]? = some (.cells cs ty fr) ∧ 0 < sz ∧ RepE imm w sz l (cs.toList.drop o))
def RepP (imm : Nat → Prop) (w : World) : List CV → List Value → Prop
  | [], _ => True
  | p :: ps, vs => ∃ v vs', vs = v :: vs' ∧ RepC imm w p v ∧ RepP imm w ps vs'
def RepE (imm : Nat → Prop) (w : World) (sz : Nat) : List (List CV) → List Value → Prop
  | [], _ => True
  | e :: es, vs => e.length = sz ∧ RepP imm w e vs ∧ RepE imm w sz es (vs.drop sz)
end

def OwnV (G : Gh) (w : World) (id n : Nat) (v : Value) : Prop :=
  ∃ sz m f, G.inf id = some (sz, m, f) ∧ 0 < sz ∧ v.oneCell' = true ∧ (n < m ∨ n = m ∧ ((v = .slice none 0 0 ∧ n = 0) ∨
    ∃ b c cs ty, v = .slice (some ⟨b, 0, none⟩) n c ∧ G.own b = some id ∧ w.heap[b]? = some (.cells cs ty (0, 0)) ∧ cs.size = c * sz ∧ n ≤ c ∧ c ≤ maxLen))

def EptrV (G : Gh) (w : World) (id n e o : Nat) (v : Value) : Prop :=
  ∃ sz m f, G.inf id = some (sz, m, f) ∧ v.oneCell' = true ∧ (n < m ∨ n = m ∧ ∃ b, v = .pointer (some ⟨b, e * sz + o, none⟩) ∧ G.own b = some id)

mutual
def Reps (G : Gh) (w : World) : PV → Value → Prop
  | .v c, v => RepC G.imm w c v
  | .nil, v => v = .slice none 0 0
  | .own id n, v => OwnV G w id n v
  | .ptr id o, v => EptrV G w id 1 0 o v
  | .eptr id n e o, v => EptrV G w id n e o v
  | .rptr cs, v => ∃ b o vs ty fr, v = .pointer (some ⟨b, o, none⟩) ∧ G.imm b ∧ w.heap[b]? = some (.cells vs ty fr) ∧ RepP G.imm w cs (vs.toList.drop o)
  | .agg cs, v => ∃ vs, v = .agg vs ∧ RepsL G w cs vs.toList
  | .tup cs, v => ∃ vs, v = .tuple vs ∧ RepsL G w cs vs.toList
  | .un, _ => True
def RepsL (G : Gh) (w : World) : List PV → List Value → Prop
  | [], vs => vs = []
  | p :: ps, vs => ∃ v vs', vs = v :: vs' ∧ Reps G w p v ∧ RepsL G w ps vs'
end

def RelB (G : Gh) (w : World) (id : Nat) : Option Blk → Prop
  | none => G.inf id = none ∧ ∀ b, G.own b ≠ some id
  | some (.arr sz ty fz els) => G.inf id = some (sz, els.length, fz) ∧ 0 < sz ∧ (∀ b b', G.own b = some id → G.own b' = some id → b = b') ∧
      ((els = [] ∧ ∀ b, G.own b ≠ some id) ∨ ∃ b cs, G.own b = some id ∧ w.heap[b]? = some (.cells cs ty (0, 0)) ∧ els.length * sz ≤ cs.size ∧ RepE G.imm w sz els cs.toList)
  | some (.box ty cs) => G.inf id = some (cs.length, 1, false) ∧ (∀ b b', G.own b = some id → G.own b' = some id → b = b') ∧
      ∃ b vs, G.own b = some id ∧ w.heap[b]? = some (.cells vs ty (0, 0)) ∧ (∀ v ∈ vs.toList, v.oneCell' = true) ∧ RepsL G w cs vs.toList

structure Inv (G : Gh) (w : World) : Prop where
  base : G.base ≤ w.heap.size
  own : ∀ b id, G.own b = some id → b < w.heap.size
  gw : ∃ w0, P.GW w0 ∧ Below w0.heap.size w0 w ∧ ∀ b, b < w0.heap.size → G.own b = none

/-- From (G, w) to (G', w'): only what the numbers in 'ids' name has been written, or is new. -/
structure Ext (ids : List Nat) (G : Gh) (w : World) (G' : Gh) (w' : World) : Prop where
  os : w'.os = w.os
  tape : w'.tape = w.tape
  output : w'.output = w.output
  size : w.heap.size ≤ w'.heap.size
  base : G'.base = G.base
  old : G'.old = G.old
  nn : ∀ b, b < w.heap.size → G.own b = none → G'.own b = none ∧ w'.heap[b]? = w.heap[b]?
  sm : ∀ b id, G.own b = some id → (id ∉ ids → G'.own b = some id ∧ w'.heap[b]? = w.heap[b]?) ∧ (G'.own b = some id ∨ G'.own b = none)
  same : ∀ b id cs ty, G.own b = some id → G'.own b = some id → (∃ sz n f f', G.inf id = some (sz, n, f) ∧ G'.inf id = some (sz, n, f')) → w.heap[b]? = some (.cells cs ty (0, 0)) → ∃ cs', w'.heap[b]? = some (.cells cs' ty (0, 0)) ∧ cs'.size = cs.size
  fz : ∀ b id sz n, G.own b = some id → G.inf id = some (sz, n, true) → G'.own b = some id ∧ w'.heap[b]? = w.heap[b]?
  inf : ∀ id sz n f, G.inf id = some (sz, n, f) → ∃ n' f', G'.inf id = some (sz, n', f') ∧ n ≤ n' ∧ (f = true → f' = true ∧ n' = n) ∧ (n' = n → ∀ b, G.own b = some id → G'.own b = some id)
  out : ∀ id, id ∉ ids → G'.inf id = G.inf id
  new : ∀ b id, w.heap.size ≤ b → G'.own b = some id → id ∈ ids
  keep : ∀ b id, G'.own b = some id → b < w'.heap.size

theorem imm_ext {ids : List Nat} {G G' : Gh} {w w' : World} (h : Ext ids G w G' w') (hi : Inv G w) {b : Nat} {o : Obj} (hb : w.heap[b]? = some o) (m : G.imm b) : G'.imm b ∧ w'.heap[b]? = some o := by
  have hlt : b < w.heap.size := (Array.getElem?_eq_some_iff.1 hb).1
  rcases m with ⟨h1, h2, h3⟩ | ⟨h1, h2⟩ | ⟨id, sz, n, h1, h2⟩
  · obtain ⟨a1, a2⟩ := h.nn b hlt h2
    exact ⟨.inl ⟨by rw [h.base]; exact h1, a1, by rw [h.old]; exact h3⟩, a2.trans hb⟩
  · obtain ⟨a1, a2⟩ := h.nn b hlt h2
    exact ⟨.inr (.inl ⟨by rw [h.base]; exact h1, a1⟩), a2.trans hb⟩
  · obtain ⟨a1, a2⟩ := h.fz b id sz n h1 h2
    obtain ⟨n', f', b1, _, b3, _⟩ := h.inf id sz n true h2
    obtain ⟨rfl, rfl⟩ := b3 rfl
    exact ⟨.inr (.inr ⟨id, sz, n', a1, b1⟩), a2.trans hb⟩

mutual
theorem RepC.mono {I I' : Nat → Prop} {w w' : World} (h : ∀ b o, w.heap[b]? = some o → I b → I' b ∧ w'.heap[b]? = some o) : ∀ (c : CV) (v : Value), RepC I w c v → RepC I' w' c v
  | .b x, v, r => r
  | .i k n, v, r => r
  | .s x, v, r => r
  | .row l, v, r => by
    simp only [RepC] at r ⊢
    obtain ⟨A, c, h1, h2, h3, h4⟩ := r
    refine ⟨A, c, h1, h2, h3, ?_⟩
    rcases h4 with h4 | ⟨b, o, sz, cs, ty, fr, h5, h6, h7, h8, h9⟩
    · exact .inl h4
    · obtain ⟨a1, a2⟩ := h b _ h7 h6
      exact .inr ⟨b, o, sz, cs, ty, fr, h5, a1, a2, h8, RepE.mono h sz l _ h9⟩
theorem RepP.mono {I I' : Nat → Prop} {w w' : World} (h : ∀ b o, w.heap[b]? = some o → I b → I' b ∧ w'.heap[b]? = some o) : ∀ (l : List CV) (vs : List Value), RepP I w l vs → RepP I' w' l vs
  | [], _, _ => by simp [RepP]
  | p :: ps, vs, r => by
    simp only [RepP] at r ⊢
    obtain ⟨v, vs', h1, h2, h3⟩ := r
    exact ⟨v, vs', h1, RepC.mono h p v h2, RepP.mono h ps vs' h3⟩
theorem RepE.mono {I I' : Nat → Prop} {w w' : World} (h : ∀ b o, w.heap[b]? = some o → I b → I' b ∧ w'.heap[b]? = some o) (sz : Nat) : ∀ (l : List (List CV)) (vs : List Value), RepE I w sz l vs → RepE I' w' sz l vs
  | [], _, _ => by simp [RepE]
  | e :: es, vs, r => by
    simp only [RepE] at r ⊢
    exact ⟨r.1, RepP.mono h e vs r.2.1, RepE.mono h sz es _ r.2.2⟩
end

section
variable {ids : List Nat} {G G' : Gh} {w w' : World}

theorem immw_ext (h : Ext ids G w G' w') (hi : Inv G w) : ∀ b o, w.heap[b]? = some o → G.imm b → G'.imm b ∧ w'.heap[b]? = some o := fun _ _ hb m => imm_ext h hi hb m

theorem OwnV.ext (h : Ext ids G w G' w') {id n : Nat} {v : Value} (r : OwnV G w id n v) : OwnV G' w' id n v := by
  obtain ⟨sz, m, f, h1, h2, h2c, h3⟩ := r
  obtain ⟨m', f', b1, b2, b3, b4⟩ := h.inf id sz m f h1
  refine ⟨sz, m', f', b1, h2, h2c, ?_⟩
  rcases h3 with h3 | ⟨h3, h4⟩
  · exact .inl (by omega)
  · by_cases hm : m' = m
    · refine .inr ⟨by omega, ?_⟩
      rcases h4 with h4 | ⟨b, c, cs, ty, h5, h6, h7, h8, h9, h10⟩
      · exact .inl h4
      · have h6' := b4 hm b h6
        obtain ⟨cs', d1, d2⟩ := h.same b id cs ty h6 h6' ⟨sz, m, f, f', h1, by rw [b1, hm]⟩ h7
        exact .inr ⟨b, c, cs', ty, h5, h6', d1, d2.trans h8, h9, h10⟩
    · exact .inl (by omega)

theorem EptrV.ext (h : Ext ids G w G' w') {id n e o : Nat} {v : Value} (r : EptrV G w id n e o v) : EptrV G' w' id n e o v := by
  obtain ⟨sz, m, f, h1, h2c, h3⟩ := r
  obtain ⟨m', f', b1, b2, b3, b4⟩ := h.inf id sz m f h1
  refine ⟨sz, m', f', b1, h2c, ?_⟩
  rcases h3 with h3 | ⟨h3, b, h5, h6⟩
  · exact .inl (by omega)
  · by_cases hm : m' = m
    · exact .inr ⟨by omega, b, h5, b4 hm b h6⟩
    · exact .inl (by omega)

mutual
theorem Reps.ext (h : Ext ids G w G' w') (hi : Inv G w) : ∀ (p : PV) (v : Value), Reps G w p v → Reps G' w' p v
  | .v c, v, r => by
    simp only [Reps] at r ⊢
    exact RepC.mono (immw_ext h hi) c v r
  | .nil, v, r => by simpa only [Reps] using r
  | .own id n, v, r => by
    simp only [Reps] at r ⊢
    exact r.ext h
  | .ptr id o, v, r => by
    simp only [Reps] at r ⊢
    exact r.ext h
  | .eptr id n e o, v, r => by
    simp only [Reps] at r ⊢
    exact r.ext h
  | .rptr cs, v, r => by
    simp only [Reps] at r ⊢
    obtain ⟨b, o, vs, ty, fr, h1, h2, h3, h4⟩ := r
    obtain ⟨a1, a2⟩ := imm_ext h hi h3 h2
    exact ⟨b, o, vs, ty, fr, h1, a1, a2, RepP.mono (immw_ext h hi) cs _ h4⟩
  | .agg cs, v, r => by
    simp only [Reps] at r ⊢
    obtain ⟨vs, h1, h2⟩ := r
    exact ⟨vs, h1, RepsL.ext h hi cs _ h2⟩
  | .tup cs, v, r => by
    simp only [Reps] at r ⊢
    obtain ⟨vs, h1, h2⟩ := r
    exact ⟨vs, h1, RepsL.ext h hi cs _ h2⟩
  | .un, v, r => by simp only [Reps]
theorem RepsL.ext (h : Ext ids G w G' w') (hi : Inv G w) : ∀ (l : List PV) (vs : List Value), RepsL G w l vs → RepsL G' w' l vs
  | [], vs, r => by simpa only [RepsL] using r
  | p :: ps, vs, r => by
    simp only [RepsL] at r ⊢
    obtain ⟨v, vs', h1, h2, h3⟩ := r
    exact ⟨v, vs', h1, Reps.ext h hi p v h2, RepsL.ext h hi ps vs' h3⟩
end
end
end Go.Proofs.YthkepmicdpgbbaaGreatDoor.E

/- How the words last: what is told of values and blocks stays told where only other blocks are written. -/
namespace Go.Proofs.YthkepmicdpgbbaaGreatDoor.E
open Go Go.RowKit
set_option linter.unusedVariables false
set_option linter.unusedSimpArgs false

section
variable {ids ids1 ids2 : List Nat} {G G' G1 G2 : Gh} {w w' w1 w2 : World}

theorem Ext.refl (hi : Inv G w) (ids : List Nat) : Ext ids G w G w where
  os := rfl
  tape := rfl
  output := rfl
  size := Nat.le_refl _
  base := rfl
  old := rfl
  nn := fun b _ h => ⟨h, rfl⟩
  sm := fun b id h => ⟨fun _ => ⟨h, rfl⟩, .inl h⟩
  same := fun b id cs ty _ _ _ h => ⟨cs, h, rfl⟩
  fz := fun b id sz n h _ => ⟨h, rfl⟩
  inf := fun id sz n f h => ⟨n, f, h, Nat.le_refl _, fun e => ⟨e, rfl⟩, fun _ b hb => hb⟩
  out := fun _ _ => rfl
  new := fun b id h1 h2 => absurd (hi.own b id h2) (by omega)
  keep := hi.own

theorem Ext.trans (hi : Inv G w) (h : Ext ids1 G w G1 w1) (k : Ext ids2 G1 w1 G2 w2) : Ext (ids1 ++ ids2) G w G2 w2 where
  os := k.os.trans h.os
  tape := k.tape.trans h.tape
  output := k.output.trans h.output
  size := Nat.le_trans h.size k.size
  base := k.base.trans h.base
  old := k.old.trans h.old
  nn := fun b hb h0 => by
    obtain ⟨a1, a2⟩ := h.nn b hb h0
    obtain ⟨c1, c2⟩ := k.nn b (Nat.lt_of_lt_of_le hb h.size) a1
    exact ⟨c1, c2.trans a2⟩
  sm := fun b id h0 => by
    have hb := hi.own b id h0
    refine ⟨fun hn => ?_, ?_⟩
    · obtain ⟨a1, a2⟩ := (h.sm b id h0).1 (fun e => hn (List.mem_append_left _ e))
      obtain ⟨c1, c2⟩ := (k.sm b id a1).1 (fun e => hn (List.mem_append_right _ e))
      exact ⟨c1, c2.trans a2⟩
    · rcases (h.sm b id h0).2 with a | a
      · exact (k.sm b id a).2
      · exact .inr (k.nn b (Nat.lt_of_lt_of_le hb h.size) a).1
  same := fun b id cs ty h0 h2 hm hc => by
    have hb := hi.own b id h0
    obtain ⟨sz, n, f, f', m1, m2⟩ := hm
    obtain ⟨n1, f1, e1, e2, _⟩ := h.inf id sz n f m1
    obtain ⟨n2, f2, e3, e4, _⟩ := k.inf id sz n1 f1 e1
    rw [m2] at e3
    injection e3 with e3
    injection e3 with _ e3
    injection e3 with e3 _
    obtain rfl : n1 = n := by omega
    have hm1 : ∃ sz n f f', G.inf id = some (sz, n, f) ∧ G1.inf id = some (sz, n, f') := ⟨_, _, _, _, m1, e1⟩
    have hm2 : ∃ sz n f f', G1.inf id = some (sz, n, f) ∧ G2.inf id = some (sz, n, f') := ⟨_, _, _, _, e1, m2⟩
    rcases (h.sm b id h0).2 with a | a
    · obtain ⟨cs1, c1, c2⟩ := h.same b id cs ty h0 a hm1 hc
      obtain ⟨cs2, d1, d2⟩ := k.same b id cs1 ty a h2 hm2 c1
      exact ⟨cs2, d1, d2.trans c2⟩
    · rw [(k.nn b (Nat.lt_of_lt_of_le hb h.size) a).1] at h2
      cases h2
  fz := fun b id sz n h0 hf => by
    obtain ⟨a1, a2⟩ := h.fz b id sz n h0 hf
    obtain ⟨n', f', b1, _, b3, _⟩ := h.inf id sz n true hf
    obtain ⟨rfl, rfl⟩ := b3 rfl
    obtain ⟨c1, c2⟩ := k.fz b id sz _ a1 b1
    exact ⟨c1, c2.trans a2⟩
  inf := fun id sz n f hf => by
    obtain ⟨n1, f1, b1, b2, b3, b4⟩ := h.inf id sz n f hf
    obtain ⟨n2, f2, d1, d2, d3, d4⟩ := k.inf id sz n1 f1 b1
    refine ⟨n2, f2, d1, by omega, fun e => ?_, fun e b hb => ?_⟩
    · obtain ⟨rfl, rfl⟩ := b3 e
      exact d3 rfl
    · have e1 : n1 = n := by omega
      exact d4 (by omega) b (b4 e1 b hb)
  out := fun id hn => (k.out id (fun e => hn (List.mem_append_right _ e))).trans (h.out id (fun e => hn (List.mem_append_left _ e)))
  new := fun b id hb h2 => by
    by_cases h1 : w1.heap.size ≤ b
    · exact List.mem_append_right _ (k.new b id h1 h2)
    · cases ho : G1.own b with
      | none => rw [(k.nn b (by omega) ho).1] at h2; cases h2
      | some id' =>
        rcases (k.sm b id' ho).2 with a | a
        · rw [a] at h2
          injection h2 with h2
          subst h2
          exact List.mem_append_left _ (h.new b _ hb ho)
        · rw [a] at h2
          cases h2
  keep := k.keep

theorem Ext.mono (h : Ext ids1 G w G1 w1) (hs : ∀ x ∈ ids1, x ∈ ids2) : Ext ids2 G w G1 w1 :=
  { h with
    sm := fun b id h0 => ⟨fun hn => (h.sm b id h0).1 (fun e => hn (hs _ e)), (h.sm b id h0).2⟩
    out := fun id hn => h.out id (fun e => hn (hs _ e))
    new := fun b id h1 h2 => hs _ (h.new b id h1 h2) }

theorem Inv.ext (hi : Inv G w) (h : Ext ids G w G' w') : Inv G' w' := ⟨by rw [h.base]; exact Nat.le_trans hi.base h.size, h.keep, by
  obtain ⟨w0, g1, g2, g3⟩ := hi.gw
  exact ⟨w0, g1, ⟨h.os.trans g2.os, h.tape.trans g2.tape, h.output.trans g2.output, Nat.le_trans g2.size h.size, fun k hk => (h.nn k (Nat.lt_of_lt_of_le hk g2.size) (g3 k hk)).2.trans (g2.block k hk)⟩, fun b hb => (h.nn b (Nat.lt_of_lt_of_le hb g2.size) (g3 b hb)).1⟩⟩
theorem Inv.gwat (hi : Inv G w) : P.GW w := by
  obtain ⟨w0, g1, g2, _⟩ := hi.gw
  exact g1.below g2

theorem own_iff (h : Ext ids G w G' w') {id : Nat} (hn : id ∉ ids) (b : Nat) : G'.own b = some id ↔ G.own b = some id := by
  constructor
  · intro h'
    by_cases hb : w.heap.size ≤ b
    · exact absurd (h.new b id hb h') hn
    · cases ho : G.own b with
      | none => rw [(h.nn b (by omega) ho).1] at h'; cases h'
      | some id' =>
        rcases (h.sm b id' ho).2 with a | a
        · rw [a] at h'
          exact h'
        · rw [a] at h'
          cases h'
  · intro h'
    exact ((h.sm b id h').1 hn).1

theorem RelB.ext (h : Ext ids G w G' w') (hi : Inv G w) {id : Nat} (hn : id ∉ ids) : ∀ {B : Option Blk}, RelB G w id B → RelB G' w' id B
  | none, r => ⟨(h.out id hn).trans r.1, fun b e => r.2 b ((own_iff h hn b).1 e)⟩
  | some (.arr sz ty fz els), r => by
    obtain ⟨r1, r2, r3, r4⟩ := r
    refine ⟨(h.out id hn).trans r1, r2, fun b b' e e' => r3 b b' ((own_iff h hn b).1 e) ((own_iff h hn b').1 e'), ?_⟩
    rcases r4 with ⟨a, b⟩ | ⟨b, cs, a1, a2, a3, a4⟩
    · exact .inl ⟨a, fun x e => b x ((own_iff h hn x).1 e)⟩
    · obtain ⟨c1, c2⟩ := (h.sm b id a1).1 hn
      exact .inr ⟨b, cs, c1, c2.trans a2, a3, RepE.mono (immw_ext h hi) sz els _ a4⟩
  | some (.box ty cs), r => by
    obtain ⟨r1, r2, b, vs, a1, a2, a3, a4⟩ := r
    obtain ⟨c1, c2⟩ := (h.sm b id a1).1 hn
    exact ⟨(h.out id hn).trans r1, fun b b' e e' => r2 b b' ((own_iff h hn b).1 e) ((own_iff h hn b').1 e'), b, vs, c1, c2.trans a2, a3, RepsL.ext h hi cs _ a4⟩

/-- A new block, under a number that nothing has yet. -/
def Gh.put (G : Gh) (b id : Nat) (r : Nat × Nat × Bool) : Gh :=
  { G with own := fun x => if x = b then some id else G.own x, inf := fun x => if x = id then some r else G.inf x }

theorem own_lt (hi : Inv G w) {b id : Nat} (h : G.own b = some id) : b ≠ w.heap.size := fun e => absurd (hi.own b id h) (by omega)

theorem ext_alloc (hi : Inv G w) (id : Nat) (r : Nat × Nat × Bool) (h0 : RelB G w id none) (o : Obj) : Ext [id] G w (G.put w.heap.size id r) (w.alloc o) where
  os := rfl
  tape := rfl
  output := rfl
  size := by
    show w.heap.size ≤ (w.heap.push o).size
    rw [Array.size_push]
    omega
  base := rfl
  old := rfl
  nn := fun b hb h => by
    refine ⟨?_, Below.heap_alloc w o b hb⟩
    simp only [Gh.put]
    rw [if_neg (by omega)]
    exact h
  sm := fun b i h => by
    have hb := hi.own b i h
    have he : (G.put w.heap.size id r).own b = some i := by
      simp only [Gh.put]
      rw [if_neg (by omega)]
      exact h
    exact ⟨fun _ => ⟨he, Below.heap_alloc w o b hb⟩, .inl he⟩
  same := fun b i cs ty h1 h2 _ h3 => ⟨cs, (Below.heap_alloc w o b (hi.own b i h1)).trans h3, rfl⟩
  fz := fun b i sz n h _ => by
    have hb := hi.own b i h
    refine ⟨?_, Below.heap_alloc w o b hb⟩
    simp only [Gh.put]
    rw [if_neg (by omega)]
    exact h
  inf := fun i sz n f h => by
    refine ⟨n, f, ?_, Nat.le_refl _, fun e => ⟨e, rfl⟩, fun _ b hb => ?_⟩
    · simp only [Gh.put]
      rw [if_neg]
      · exact h
      · intro e
        subst e
        rw [h0.1] at h
        cases h
    · simp only [Gh.put]
      rw [if_neg (own_lt hi hb)]
      exact hb
  out := fun i hn => by
    simp only [Gh.put]
    rw [if_neg (by simpa using hn)]
  new := fun b i h1 h2 => by
    simp only [Gh.put] at h2
    split at h2
    · injection h2 with h2
      simp [h2]
    · exact absurd (hi.own b i h2) (by omega)
  keep := fun b i h => by
    simp only [Gh.put] at h
    have hs : (w.alloc o).heap.size = w.heap.size + 1 := by
      show (w.heap.push o).size = _
      rw [Array.size_push]
    split at h
    · omega
    · have := hi.own b i h
      omega

theorem put_own (G : Gh) (b id : Nat) (r : Nat × Nat × Bool) : (G.put b id r).own b = some id := by simp [Gh.put]
theorem put_inf (G : Gh) (b id : Nat) (r : Nat × Nat × Bool) : (G.put b id r).inf id = some r := by simp [Gh.put]
theorem put_uniq {id : Nat} (h0 : RelB G w id none) (b : Nat) (r : Nat × Nat × Bool) : ∀ x x', (G.put b id r).own x = some id → (G.put b id r).own x' = some id → x = x' := by
  intro x x' h h'
  simp only [Gh.put] at h h'
  split at h
  · split at h'
    · omega
    · exact absurd h' (h0.2 _)
  · exact absurd h (h0.2 _)

/-- Blocks that will not be written any more. -/
def Gh.frz (G : Gh) (ids : List Nat) : Gh := { G with inf := fun x => if x ∈ ids then (G.inf x).map (fun r => (r.1, r.2.1, true)) else G.inf x }

theorem ext_frz (hi : Inv G w) (ids : List Nat) : Ext ids G w (G.frz ids) w where
  os := rfl
  tape := rfl
  output := rfl
  size := Nat.le_refl _
  base := rfl
  old := rfl
  nn := fun b _ h => ⟨h, rfl⟩
  sm := fun b id h => ⟨fun _ => ⟨h, rfl⟩, .inl h⟩
  same := fun b id cs ty _ _ _ h => ⟨cs, h, rfl⟩
  fz := fun b id sz n h _ => ⟨h, rfl⟩
  inf := fun id sz n f h => by
    by_cases hm : id ∈ ids
    · exact ⟨n, true, by simp [Gh.frz, hm, h], Nat.le_refl _, fun e => ⟨rfl, rfl⟩, fun _ b hb => hb⟩
    · exact ⟨n, f, by simp [Gh.frz, hm, h], Nat.le_refl _, fun e => ⟨e, rfl⟩, fun _ b hb => hb⟩
  out := fun id hn => by simp [Gh.frz, hn]
  new := fun b id h1 h2 => absurd (hi.own b id h2) (by omega)
  keep := hi.own

/-- A draw writes nothing. -/
theorem ext_drew (hi : Inv G w) : Ext [] G w G w.drew :=
  { Ext.refl hi [] with nn := fun b _ h => ⟨h, rfl⟩ }

theorem ext_written (hi : Inv G w) {b id : Nat} {cs cs' : Array Value} {ty : TypeId} {sz n : Nat} (ho : G.own b = some id) (hf : G.inf id = some (sz, n, false)) (hb : w.heap[b]? = some (.cells cs ty (0, 0)))
    (hb' : w'.heap[b]? = some (.cells cs' ty (0, 0))) (hsz : cs'.size = cs.size) (hs : w'.heap.size = w.heap.size) (hoth : ∀ k, k ≠ b → w'.heap[k]? = w.heap[k]?) (e1 : w'.os = w.os) (e2 : w'.tape = w.tape) (e3 : w'.output = w.output) :
    Ext [id] G w G w' where
  os := e1
  tape := e2
  output := e3
  size := by omega
  base := rfl
  old := rfl
  nn := fun x hx h => ⟨h, hoth x (fun e => by subst e; rw [ho] at h; cases h)⟩
  sm := fun x i h => ⟨fun hn => ⟨h, hoth x (fun e => by subst e; rw [ho] at h; injection h with h; exact hn (by simp [h]))⟩, .inl h⟩
  same := fun x i c t h1 _ _ h3 => by
    by_cases e : x = b
    · subst e
      rw [hb] at h3
      injection h3 with h3
      injection h3 with h3 h4
      subst h3 h4
      exact ⟨cs', hb', hsz⟩
    · exact ⟨c, (hoth x e).trans h3, rfl⟩
  fz := fun x i s m h h2 => by
    refine ⟨h, hoth x (fun e => ?_)⟩
    subst e
    rw [ho] at h
    injection h with h
    subst h
    rw [hf] at h2
    injection h2 with h2
    injection h2 with h2 h3
    injection h3 with h3 h4
    cases h4
  inf := fun i s m f h => ⟨m, f, h, Nat.le_refl _, fun e => ⟨e, rfl⟩, fun _ x hx => hx⟩
  out := fun _ _ => rfl
  new := fun x i h1 h2 => absurd (hi.own x i h2) (by omega)
  keep := fun x i h => by rw [hs]; exact hi.own x i h
end
end Go.Proofs.YthkepmicdpgbbaaGreatDoor.E

-- PRINTED BY print.sh 35421559b90ae4d0a3588c463048766b98c2df88dd9212a6774a882060cdf62d: not written by this session
-- PRINTED WORDS (module Derived/Print/Words.lean): go-wishes' parts 1 to 38 and go-gate-2's additions: AI agents of Go's test side, Mon Nov 16 2026; no person has read them. Plain theorems and definitions: no macro, no elab, no axiom.
set_option linter.unusedVariables false
set_option linter.unusedSimpArgs false
namespace Go.Proofs.YthkepmicdpgbbaaGreatDoorW.PrintWords
open Go.RowKit

/-- A fact that the walk's simp doesn't look into. -/
structure Aside0 (p : Prop) : Prop where mk :: (out : p)
/-- The world is the old one, some orders having been drawn. -/
structure Drawn0 (w w' : World) : Prop where mk :: (out : ∃ n, w' = w.drewN n)
theorem Drawn0.refl (w : World) : Drawn0 w w := ⟨⟨0, rfl⟩⟩
theorem Drawn0.step {w w' : World} (h : Drawn0 w w') (n : Nat) : Drawn0 w (w'.drewN n) := by
  obtain ⟨m, rfl⟩ := h
  exact ⟨⟨m + n, World.drewN_drewN ..⟩⟩
theorem Drawn0.grown {w w' : World} (h : Drawn0 w w') : Grown w w' := by
  obtain ⟨n, rfl⟩ := h
  induction n with
  | zero => exact Grown.refl _
  | succ n ih => rw [← World.drew_drewN]; exact Grown.drew ih
theorem Drawn0.below {w w' : World} (h : Drawn0 w w') : Below w.heap.size w w' := by
  obtain ⟨n, rfl⟩ := h
  induction n with
  | zero => exact Below.refl _ _
  | succ n ih => rw [← World.drew_drewN]; exact ih.drew

/-! ### 1. Values and lists -/
def rd (xs : List Int) (i : Int) : Int := xs.getD i.toNat 0
def bt (s : ByteArray) (i : Int) : Int := if h : i.toNat < s.size then ((s[i.toNat]'h).toNat : Int) else 0
def nums (k : IntKind) (xs : List Int) : List Value := xs.map fun x => .int k x

/-! ### 2. The world -/
theorem below_alloc {w W : World} (h : Below w.heap.size w W) (o : Obj) : Below w.heap.size w (W.alloc o) := h.alloc h.size o
theorem below_drew {B : Nat} {w W : World} (h : Below B w W) : Below B w W.drew := ⟨h.os, h.tape, h.output, h.size, h.block⟩
theorem pw_below_drewN {B : Nat} {w W : World} (h : Below B w W) (n : Nat) : Below B w (W.drewN n) := ⟨h.os, h.tape, h.output, h.size, h.block⟩
theorem below_then {B : Nat} {w w1 w2 : World} (h : Below B w w1) (hB : B ≤ w1.heap.size) (k : Below w1.heap.size w1 w2) : Below B w w2 :=
  h.trans ⟨k.os, k.tape, k.output, k.size, fun i hi => k.block i (Nat.lt_of_lt_of_le hi hB)⟩
theorem grown_of_below {w w1 : World} (h : Below w.heap.size w w1) (row : Option Nat) : w.grownBy w1 row := ⟨h.os, h.tape, h.output, h.size, fun i hi _ => h.block i hi⟩
theorem pw_cell_below {w w1 : World} (h : Below w.heap.size w w1) {a : Addr} {v : Value} (hc : w.cell? a = some v) : w1.cell? a = some v := (h.cell (World.block_lt_of_cell? w a hc)).trans hc

/-! ### 3. A slice of whole numbers that is read; nil, empty and other slices alike -/
def ReadsInt (w : World) (k : IntKind) (A : Option Addr) (n : Nat) (xs : List Int) : Prop :=
  xs.length = n ∧ n ≤ 9223372036854775807 ∧ (0 < n → ∃ ad, A = some ad ∧ ∀ j, j < n → w.cell? (ad.add j) = some (.int k (xs.getD j 0)))
theorem ReadsInt.at_ {w : World} {k : IntKind} {A : Option Addr} {n : Nat} {xs : List Int} (h : ReadsInt w k A n xs) (i : Int) (h0 : 0 ≤ i) (h1 : i < n) : ∃ ad, A = some ad ∧ w.cell? (ad.add i.toNat) = some (.int k (rd xs i)) := by
  obtain ⟨ad, e, hc⟩ := h.2.2 (by omega)
  exact ⟨ad, e, hc _ (by omega)⟩
theorem ReadsInt.below {w w1 : World} {k : IntKind} {A : Option Addr} {n : Nat} {xs : List Int} (h : ReadsInt w k A n xs) (hb : Below w.heap.size w w1) : ReadsInt w1 k A n xs :=
  ⟨h.1, h.2.1, fun hn => by
    obtain ⟨ad, e, hc⟩ := h.2.2 hn
    exact ⟨ad, e, fun j hj => pw_cell_below hb (hc j hj)⟩⟩

/-! ### 4. A row of the call's own -/
theorem own_nil (W : World) (base : Nat) (e : TypeId) (size : Nat) : W.ownsRow base e size (.slice none 0 0) 0 [] := ⟨by simp, .inl ⟨rfl, rfl⟩⟩
theorem own_base {w : World} {base : Nat} {e : TypeId} {size n : Nat} {v : Value} {xs : List Value} (h : w.ownsRow base e size v n xs) (k : Nat) (hk : v.ownBlock = some k) : base ≤ k := by
  rcases h.2 with ⟨rfl, _⟩ | ⟨g, cap, cur, rfl, hb, _⟩
  · simp [Value.ownBlock] at hk
  · have : g = k := by simpa [Value.ownBlock] using hk
    omega
theorem own_lt {w : World} {base : Nat} {e : TypeId} {size n : Nat} {v : Value} {xs : List Value} (h : w.ownsRow base e size v n xs) (k : Nat) (hk : v.ownBlock = some k) : k < w.heap.size := by
  rcases h.2 with ⟨rfl, _⟩ | ⟨g, cap, cur, rfl, hb, hh, _⟩
  · simp [Value.ownBlock] at hk
  · have : g = k := by simpa [Value.ownBlock] using hk
    subst this
    exact (Array.getElem?_eq_some_iff.1 hh).1
theorem pw_own_below {w w1 : World} {base : Nat} {e : TypeId} {size n : Nat} {v : Value} {xs : List Value} (h : w.ownsRow base e size v n xs) (hb : Below w.heap.size w w1) : w1.ownsRow base e size v n xs :=
  h.kept (grown_of_below hb none) (by cases v.ownBlock <;> simp)

/-! ### 5. append(v, x): behind 'at_builtin'; the goal's world is 'W.alloc' of the variadic's box -/
section
variable {P : Program} {ops : Array Oper} {rest : List Oper} {o : Oper} {a : Act} {Q : Exit → Act → World → Prop}

end

/-! ### 6. make([]T, n), n an Int; a literal -/
section
variable {P : Program}
end

/-! ### 7. v[i] read and v[i] = x, v a row of the call's own: 'obtain ⟨g, cap, rfl, hgb, hgl⟩ := HO.out.form (by omega)' first -/

/-! ### 8. append(v, ys...): ys a slice that is read, nil let in; behind 'at_builtin' -/
section
variable {P : Program} {ops : Array Oper} {rest : List Oper} {o : Oper} {a : Act} {Q : Exit → Act → World → Prop}
end

/-! ### 9. []byte(s): a slice that is read (its row bears a conversion's mark: no row of one's own); cuts of a slice that is read -/
def bytesOf (s : ByteArray) : List Int := s.data.toList.map fun b => (b.toNat : Int)
theorem data_length (s : ByteArray) : s.data.toList.length = s.size := by rw [Array.length_toList]; rfl
theorem bytesOf_length (s : ByteArray) : (bytesOf s).length = s.size := by rw [bytesOf, List.length_map, data_length]
/-! ### 10. Rounds: more rounds give the same answer; what ends gives a number of rounds -/
/-- Where the first answers, the second answers the same. -/
def LeO {α : Type} (a b : Option α) : Prop := ∀ r, a = some r → b = some r
theorem LeO.refl {α : Type} (a : Option α) : LeO a a := fun _ h => h
theorem LeO.none {α : Type} (b : Option α) : LeO Option.none b := fun _ h => by cases h
theorem LeO.trans {α : Type} {a b c : Option α} (h : LeO a b) (k : LeO b c) : LeO a c := fun r hr => k r (h r hr)
theorem LeO.ite {α : Type} {c : Prop} [Decidable c] {a a' b b' : Option α} (h : LeO a a') (k : LeO b b') : LeO (if c then a else b) (if c then a' else b') := by
  split
  · exact h
  · exact k
theorem LeO.bind {α β : Type} {a a' : Option α} {f f' : α → Option β} (h : LeO a a') (k : ∀ x, LeO (f x) (f' x)) : LeO (a.bind f) (a'.bind f') := by
  intro r hr
  obtain ⟨x, hx, hf⟩ := Option.bind_eq_some_iff.1 hr
  exact Option.bind_eq_some_iff.2 ⟨x, h x hx, k x r hf⟩
theorem LeO.map {α β : Type} {a a' : Option α} (f : α → β) (h : LeO a a') : LeO (a.map f) (a'.map f) := by
  intro r hr
  obtain ⟨x, hx, hf⟩ := Option.map_eq_some_iff.1 hr
  exact Option.map_eq_some_iff.2 ⟨x, h x hx, hf⟩
theorem more_rounds {α : Type} {g : Nat → Option α} (h : ∀ k, LeO (g k) (g (k + 1))) (k : Nat) : ∀ j, LeO (g k) (g (k + j))
  | 0 => LeO.refl _
  | j + 1 => (more_rounds h k j).trans (h (k + j))
theorem at_rounds {α : Type} {g : Nat → Option α} (h : ∀ k, LeO (g k) (g (k + 1))) {k k' : Nat} (hk : k ≤ k') {r : α} (hr : g k = some r) : g k' = some r := by
  have := more_rounds h k (k' - k) r hr
  rwa [Nat.add_sub_cancel' hk] at this
/-! ### 11. Rows of elements of several cells (structs): read, made. R: what an element's cells say ('RepItem w': printed for each type) -/
def Reps {α : Type} (R : α → List Value → Prop) (size : Nat) (ps : List α) (cs : List Value) : Prop :=
  cs.length = ps.length * size ∧ ∀ j p, ps[j]? = some p → R p ((cs.drop (j * size)).take size)
theorem Reps.none {α : Type} (R : α → List Value → Prop) (size : Nat) : Reps R size [] [] := ⟨by simp, fun j p h => by simp at h⟩
theorem Reps.snoc {α : Type} {R : α → List Value → Prop} {size : Nat} {ps : List α} {cs c : List Value} {p : α} (h : Reps R size ps cs) (hp : R p c) (hc : c.length = size) : Reps R size (ps ++ [p]) (cs ++ c) := by
  refine ⟨by rw [List.length_append, h.1, hc, List.length_append, List.length_singleton, Nat.add_mul, Nat.one_mul], fun j q hq => ?_⟩
  rcases Nat.lt_or_ge j ps.length with hj | hj
  · rw [List.getElem?_append_left hj] at hq
    have h1 : j * size + size ≤ cs.length := by rw [h.1, ← Nat.succ_mul]; exact Nat.mul_le_mul_right _ hj
    have h2 := h.2 j q hq
    rw [List.drop_append_of_le_length (by omega), List.take_append_of_le_length (by rw [List.length_drop]; omega)]
    exact h2
  · have hj' : j = ps.length := by
      have := (List.getElem?_eq_some_iff.1 hq).1
      rw [List.length_append, List.length_singleton] at this
      omega
    subst hj'
    have hq' : p = q := by simpa using hq
    subst hq'
    rw [← h.1, List.drop_left, ← hc, List.take_length]
    exact hp
theorem Reps.imp_ {α : Type} {R R' : α → List Value → Prop} {size : Nat} {ps : List α} {cs : List Value} (h : Reps R size ps cs) (hR : ∀ p c, R p c → R' p c) : Reps R' size ps cs := ⟨h.1, fun j p hj => hR _ _ (h.2 j p hj)⟩

def ReadsRow {α : Type} (R : α → List Value → Prop) (size : Nat) (w : World) (A : Option Addr) (n : Nat) (ps : List α) : Prop :=
  ps.length = n ∧ n ≤ 9223372036854775807 ∧ (0 < n → ∃ ad, A = some ad ∧ ∀ j p, ps[j]? = some p → ∃ c, c.length = size ∧ R p c ∧ ∀ i u, c[i]? = some u → w.cell? (ad.add (j * size + i)) = some u)
theorem ReadsRow.get_ {α : Type} {R : α → List Value → Prop} {size : Nat} {w : World} {A : Option Addr} {n : Nat} {ps : List α} (h : ReadsRow R size w A n ps) (d : α) (i : Int) (h0 : 0 ≤ i) (h1 : i < n) :
    ∃ ad c, A = some ad ∧ c.length = size ∧ R (ps.getD i.toNat d) c ∧ ∀ j u, c[j]? = some u → w.cell? (ad.add (i.toNat * size + j)) = some u := by
  obtain ⟨ad, e, hc⟩ := h.2.2 (by omega)
  have hl : i.toNat < ps.length := by have := h.1; omega
  obtain ⟨c, hs, hr, hcell⟩ := hc i.toNat _ (List.getElem?_eq_getElem hl)
  refine ⟨ad, c, e, hs, ?_, hcell⟩
  rw [List.getD_eq_getElem?_getD, List.getElem?_eq_getElem hl]
  exact hr
theorem ReadsRow.imp_ {α : Type} {R R' : α → List Value → Prop} {size : Nat} {w w1 : World} {A : Option Addr} {n : Nat} {ps : List α} (h : ReadsRow R size w A n ps) (hb : Below w.heap.size w w1) (hR : ∀ p c, R p c → R' p c) : ReadsRow R' size w1 A n ps :=
  ⟨h.1, h.2.1, fun hn => by
    obtain ⟨ad, e, hc⟩ := h.2.2 hn
    refine ⟨ad, e, fun j p hj => ?_⟩
    obtain ⟨c, hs, hr, hcell⟩ := hc j p hj
    exact ⟨c, hs, hR _ _ hr, fun i u hu => pw_cell_below hb (hcell i u hu)⟩⟩
theorem own_reads_row {α : Type} {R : α → List Value → Prop} {w : World} {base n size : Nat} {e : TypeId} {v : Value} {ps : List α} {cs : List Value} (h : w.ownsRow base e size v n cs) (hR : Reps R size ps cs) (hn : ps.length = n) :
    ∃ A c, v = .slice A n c ∧ ReadsRow R size w A n ps := by
  rcases Nat.eq_zero_or_pos n with h0 | h0
  · rcases h.2 with ⟨rfl, rfl⟩ | ⟨g, cap, cur, rfl, _⟩
    · exact ⟨none, 0, rfl, hn, by omega, fun hp => absurd hp (by omega)⟩
    · exact ⟨_, cap, rfl, hn, by omega, fun hp => absurd hp (by omega)⟩
  · obtain ⟨g, cap, rfl, _, _⟩ := h.form h0
    have hm : n ≤ 9223372036854775807 := by
      rcases h.2 with ⟨_, h1⟩ | ⟨g', cap', cur, he, _, _, h1, h2, _⟩
      · omega
      · simp only [maxLen] at h2
        omega
    refine ⟨_, cap, rfl, hn, hm, fun _ => ⟨_, rfl, fun j p hj => ⟨(cs.drop (j * size)).take size, ?_, hR.2 j p hj, fun i u hu => ?_⟩⟩⟩
    · have hjl := (List.getElem?_eq_some_iff.1 hj).1
      have h1 : j * size + size ≤ cs.length := by rw [hR.1, ← Nat.succ_mul]; exact Nat.mul_le_mul_right _ hjl
      rw [List.length_take, List.length_drop]
      omega
    · refine h.cells (g := g) rfl _ u ?_
      rw [List.getElem?_take] at hu
      split at hu
      · rw [List.getElem?_drop] at hu
        exact hu
      · cases hu
/-- A field's address as_ the walk spells it. -/
theorem add_field (ad : Addr) (m j : Nat) (hj : 0 < j) : ad.add (m + j) = ⟨(ad.add m).block, (ad.add m).off + j, none⟩ := by
  unfold Addr.add
  by_cases hm : m = 0
  · subst hm
    simp [Nat.ne_of_gt hj]
  · simp [hm, Nat.add_assoc]

section
variable {P : Program} {ops : Array Oper} {rest : List Oper} {o : Oper} {a : Act} {Q : Exit → Act → World → Prop}
/-- append(v, x), x of several cells; behind 'at_builtin'; the goal's world is 'W.alloc' of the variadic's box. -/
theorem print_append_cells {w0 W : World} (base : Nat) (hgd : o.guard = none) (s x : Operand) (t e : TypeId) (z : Value) (size bytes : Nat)
    (ho : o.op = .call { callee := .builtin .append, args := #[s, x], argTypes := #[t, t] })
    (ht : P.underlying t = some (.slice e)) (hinfo : (P.info? e).map (fun i => (i.zero, i.size, i.bytes)) = some (some z, size, bytes)) (hz : z.cells.size = size) (hs0 : 0 < size) (hb0 : 0 < bytes)
    (v : Value) (n : Nat) (xs ys : List Value) (hs : a.eval s = v) (hx : a.eval x = .slice (some ⟨W.heap.size, 0, none⟩) 1 1) (hys : ys.length = size) (h1 : ∀ u ∈ ys, u.oneCell' = true)
    (HO : W.ownsRow base e size v n xs) (HB : Below base w0 W) (hbase : base ≤ W.heap.size) (hl : (n + 1) * bytes ≤ 140737488355328)
    (h : ∀ v1 w1, w1.ownsRow base e size v1 (n + 1) (xs ++ ys) → Below base w0 w1 → W.grownBy w1 v.ownBlock → (v1.ownBlock = v.ownBlock ∨ ∃ b, v1.ownBlock = some b ∧ W.heap.size ≤ b) → wpList P ops Q rest (a.put o.dst v1) w1) :
    wpList P ops Q (o :: rest) a (W.alloc (.cells ys.toArray e)) := by
  obtain ⟨i0, hi, hzz⟩ := Option.map_eq_some_iff.1 hinfo
  simp only [Prod.mk.injEq] at hzz
  obtain ⟨hz0, hz1, hz2⟩ := hzz
  have hlen : n + 1 ≤ 140737488355328 := Nat.le_trans (Nat.le_mul_of_pos_right _ hb0) hl
  refine wpList_append_own_at (W.alloc (.cells ys.toArray e)) hgd s x t ho base e i0 z size bytes ht hi hz0 hz1 hz2 hz hs0 v n xs hs (HO.alloc _) ⟨W.heap.size, 0, none⟩ 1 1 ys hx (by rw [hys]; simp)
    (by simpa using World.news_of_block (cs := ys.toArray) (t := e) (fr := (0, 0)) (heap_alloc_new W (.cells ys.toArray e))) h1 (by simp only [maxLen]; omega) hl (by simp; omega) ?_
  intro v1 w1 hown hg _ hat
  refine h v1 w1 hown ((HB.alloc hbase _).grown hg (by simp; omega) (own_base HO)) (World.grownBy.trans (World.grownBy_alloc W _ _) hg) ?_
  rcases hat with hat | hat
  · exact .inl hat
  · exact .inr ⟨_, hat, by simp⟩
end

/-! ### 12. A block of one's own that is a state: its cells, what a store leaves -/
theorem own_ne {w : World} {base : Nat} {e t : TypeId} {size n g : Nat} {v : Value} {xs : List Value} {cs : Array Value} (h : w.ownsRow base e size v n xs) (hg : w.heap[g]? = some (.cells cs t (0, 0))) (hne : e ≠ t) : some g ≠ v.ownBlock := by
  rcases h.2 with ⟨rfl, _⟩ | ⟨g', cap, cur, rfl, _, hh, _⟩
  · simp [Value.ownBlock]
  · intro he
    have : g = g' := by simpa [Value.ownBlock] using he
    subst this
    rw [hg] at hh
    injection hh with hh
    injection hh with _ ht
    exact hne ht.symm
theorem blk_lt {w : World} {g : Nat} {o : Obj} (h : w.heap[g]? = some o) : g < w.heap.size := (Array.getElem?_eq_some_iff.1 h).1
/-! ### 13. Two states at once: what a call on the state at block g (its row before: 'row') has turned -/
def KeepBut (w w' : World) (g : Nat) (row : Option Nat) : Prop := w.heap.size ≤ w'.heap.size ∧ ∀ i, i < w.heap.size → i ≠ g → some i ≠ row → w'.heap[i]? = w.heap[i]?
theorem KeepBut.refl (w : World) (g : Nat) (row : Option Nat) : KeepBut w w g row := ⟨Nat.le_refl _, fun _ _ _ _ => rfl⟩
theorem KeepBut.of_below {w w1 : World} (h : Below w.heap.size w w1) (g : Nat) (row : Option Nat) : KeepBut w w1 g row := ⟨h.size, fun i hi _ _ => h.block i hi⟩
theorem KeepBut.trans {w w1 w2 : World} {g : Nat} {row row1 : Option Nat} (h : KeepBut w w1 g row) (k : KeepBut w1 w2 g row1) (hr : row1 = row ∨ ∃ b, row1 = some b ∧ w.heap.size ≤ b) : KeepBut w w2 g row :=
  ⟨Nat.le_trans h.1 k.1, fun i hi hg hn => by
    refine (k.2 i (Nat.lt_of_lt_of_le hi h.1) hg ?_).trans (h.2 i hi hg hn)
    rcases hr with rfl | ⟨b, rfl, hb⟩
    · exact hn
    · intro e
      injection e with e
      omega⟩
/-- Another block, another row: they live on. -/
theorem KeepBut.blk {w w1 : World} {g g' : Nat} {row : Option Nat} {o : Obj} (h : KeepBut w w1 g row) (hb : w.heap[g']? = some o) (hg : g' ≠ g) (hr : some g' ≠ row) : w1.heap[g']? = some o := (h.2 g' (blk_lt hb) hg hr).trans hb
theorem KeepBut.own {w w1 : World} {g : Nat} {row : Option Nat} {base : Nat} {e : TypeId} {size n : Nat} {v : Value} {xs : List Value} (h : KeepBut w w1 g row) (ho : w.ownsRow base e size v n xs) (hg : v.ownBlock ≠ some g) (hr : v.ownBlock = none ∨ v.ownBlock ≠ row) : w1.ownsRow base e size v n xs := by
  obtain ⟨h1, h2⟩ := ho
  refine ⟨h1, ?_⟩
  rcases h2 with h2 | ⟨b, cap, cur, rfl, hb, hh, r⟩
  · exact .inl h2
  · refine .inr ⟨b, cap, cur, rfl, hb, h.blk hh ?_ ?_, r⟩
    · intro e
      exact hg (by rw [← e]; rfl)
    · rcases hr with hr | hr
      · simp [Value.ownBlock] at hr
      · exact hr
/-! ### 10b. From some number of rounds on -/
def Ev {α : Type} (g : Nat → Option α) (r : α) : Prop := ∃ K, ∀ k, K ≤ k → g k = some r
theorem Ev.of {α : Type} {g : Nat → Option α} {r : α} (hg : ∀ k, LeO (g k) (g (k + 1))) {k : Nat} (h : g k = some r) : Ev g r := ⟨k, fun _ hk => at_rounds hg hk h⟩
theorem Ev.rounds {α : Type} {g : Nat → Option α} {r : α} (h : Ev g r) : ∃ k, g k = some r := by
  obtain ⟨K, h⟩ := h
  exact ⟨K, h K (Nat.le_refl _)⟩
theorem Ev.bind {α β : Type} {g : Nat → Option α} {f : Nat → α → Option β} {a : α} {r : β} (h : Ev g a) (k : Ev (fun n => f n a) r) : Ev (fun n => (g n).bind (f n)) r := by
  obtain ⟨K, h⟩ := h
  obtain ⟨K', k⟩ := k
  refine ⟨max K K', fun n hn => ?_⟩
  have h1 := h n (by omega)
  have h2 := k n (by omega)
  simp only [h1, Option.bind_some]
  exact h2
/-- One round of a loop. -/
theorem Ev.step {α : Type} {g f : Nat → Option α} {r : α} (h : ∀ k, g (k + 1) = f k) (k : Ev f r) : Ev g r := by
  obtain ⟨K, k⟩ := k
  refine ⟨K + 1, fun n hn => ?_⟩
  obtain ⟨m, rfl⟩ : ∃ m, n = m + 1 := ⟨n - 1, by omega⟩
  rw [h]
  exact k m (by omega)
theorem Ev.congr {α : Type} {g f : Nat → Option α} {r : α} (h : ∀ k, g k = f k) (k : Ev f r) : Ev g r := by
  obtain ⟨K, k⟩ := k
  exact ⟨K, fun n hn => (h n).trans (k n hn)⟩
/-! ### 14. append as_ one step of a region that draws its order: for 'go_region_law' (and a region walked by hand) -/
section
variable {P : Program} {ops : Array Oper} {o : Oper} {a : Act} {Q : Exit → Act → World → Prop} {K : Act → World → Prop}
end
/-! ### 15. A row's base may be lowered -/
theorem own_weaken {w : World} {base base' : Nat} {e : TypeId} {size n : Nat} {v : Value} {xs : List Value} (h : w.ownsRow base e size v n xs) (hb : base' ≤ base) : w.ownsRow base' e size v n xs := by
  obtain ⟨h1, h2⟩ := h
  refine ⟨h1, ?_⟩
  rcases h2 with h2 | ⟨g, cap, cur, rfl, hg, r⟩
  · exact .inl h2
  · exact .inr ⟨g, cap, cur, rfl, Nat.le_trans hb hg, r⟩
/-! ### 16. Parts 3 to 9 for ANY element of one cell: 'enc' (Value.int k, Value.string, Value.bool), a default 'd' -/
section
variable {α : Type} {enc : α → Value} {d : α}
def encs (enc : α → Value) (xs : List α) : List Value := xs.map enc
def rdOf (d : α) (xs : List α) (i : Int) : α := xs.getD i.toNat d
theorem encs_length (xs : List α) : (encs enc xs).length = xs.length := by simp [encs]
def ReadsOf (enc : α → Value) (d : α) (w : World) (A : Option Addr) (n : Nat) (xs : List α) : Prop :=
  xs.length = n ∧ n ≤ 9223372036854775807 ∧ (0 < n → ∃ ad, A = some ad ∧ ∀ j, j < n → w.cell? (ad.add j) = some (enc (xs.getD j d)))
theorem ReadsOf.at_ {w : World} {A : Option Addr} {n : Nat} {xs : List α} (h : ReadsOf enc d w A n xs) (i : Int) (h0 : 0 ≤ i) (h1 : i < n) : ∃ ad, A = some ad ∧ w.cell? (ad.add i.toNat) = some (enc (rdOf d xs i)) := by
  obtain ⟨ad, e, hc⟩ := h.2.2 (by omega)
  exact ⟨ad, e, hc _ (by omega)⟩
theorem ReadsOf.below {w w1 : World} {A : Option Addr} {n : Nat} {xs : List α} (h : ReadsOf enc d w A n xs) (hb : Below w.heap.size w w1) : ReadsOf enc d w1 A n xs :=
  ⟨h.1, h.2.1, fun hn => by
    obtain ⟨ad, e, hc⟩ := h.2.2 hn
    exact ⟨ad, e, fun j hj => pw_cell_below hb (hc j hj)⟩⟩
end
section
variable {α : Type} {P : Program} {ops : Array Oper} {rest : List Oper} {o : Oper} {a : Act} {Q : Exit → Act → World → Prop}
end

/-! ### 17. Rows of one element type held at once: no two share a block -/
/-! ### 18. A block behind a new one; behind a draw -/
/-! ### 19. Results that lie in memory beside others -/
section
variable {P : Program}
end
/-! ### 20. Rows of elements of any kind: R is what an element's cells say -/
theorem own_le {w : World} {base n m c size : Nat} {e : TypeId} {A : Option Addr} {xs : List Value} (h : w.ownsRow base e size (.slice A m c) n xs) : m ≤ c := by
  rcases h.2 with ⟨he, _⟩ | ⟨g, cap, cur, he, _, _, hnc, _⟩
  · injection he with _ h2 h3
    omega
  · injection he with _ h2 h3
    omega
def OwnRow {α : Type} (R : α → List Value → Prop) (e : TypeId) (size : Nat) (w : World) (base : Nat) (v : Value) (ps : List α) : Prop :=
  ∃ inner, w.ownsRow base e size v ps.length inner ∧ Reps R size ps inner
section
variable {α : Type} {R R' : α → List Value → Prop} {e : TypeId} {size : Nat} {w w1 : World} {base : Nat} {v : Value} {ps : List α}
theorem OwnRow.none_ (R : α → List Value → Prop) (e : TypeId) (size : Nat) (w : World) (base : Nat) : OwnRow R e size w base (.slice none 0 0) [] := ⟨[], own_nil _ _ _ _, Reps.none _ _⟩
theorem OwnRow.imp_ (h : OwnRow R e size w base v ps) (hR : ∀ p c, R p c → R' p c) : OwnRow R' e size w base v ps := by
  obtain ⟨inner, ho, hr⟩ := h
  exact ⟨inner, ho, hr.imp_ hR⟩
theorem OwnRow.below (h : OwnRow R e size w base v ps) (hb : Below w.heap.size w w1) : OwnRow R e size w1 base v ps := by
  obtain ⟨inner, ho, hr⟩ := h
  exact ⟨inner, pw_own_below ho hb, hr⟩
theorem OwnRow.keep (h : OwnRow R e size w base v ps) {g : Nat} {t : TypeId} {cells : Array Value} (hb : w.heap[g]? = some (.cells cells t (0, 0))) (ht : e ≠ t) (hk : KeepBut w w1 g none) : OwnRow R e size w1 base v ps := by
  obtain ⟨inner, ho, hr⟩ := h
  exact ⟨inner, hk.own ho (Ne.symm (own_ne ho hb ht)) (by cases v.ownBlock <;> simp), hr⟩
theorem OwnRow.reads (h : OwnRow R e size w base v ps) : ∃ A c, v = .slice A ps.length c ∧ ps.length ≤ c ∧ ReadsRow R size w A ps.length ps := by
  obtain ⟨inner, ho, hr⟩ := h
  obtain ⟨A, c, rfl, hrow⟩ := own_reads_row ho hr rfl
  exact ⟨A, c, rfl, own_le ho, hrow⟩
end
section
variable {P : Program} {ops : Array Oper} {rest : List Oper} {o : Oper} {a : Act} {Q : Exit → Act → World → Prop} {α : Type} {R : α → List Value → Prop}
/-- append(v, x): x's cells are cs. R is that of the world AHEAD; move it over hg ('OwnRow.imp_'). -/
theorem OwnRow.append {w0 W : World} (base : Nat) (hgd : o.guard = none) (s x : Operand) (t e : TypeId) (z : Value) (size bytes : Nat)
    (ho : o.op = .call { callee := .builtin .append, args := #[s, x], argTypes := #[t, t] })
    (ht : P.underlying t = some (.slice e)) (hinfo : (P.info? e).map (fun i => (i.zero, i.size, i.bytes)) = some (some z, size, bytes)) (hz : z.cells.size = size) (hs0 : 0 < size) (hb0 : 0 < bytes)
    (v : Value) (ps : List α) (p : α) (cs : List Value) (hs : a.eval s = v) (hx : a.eval x = .slice (some ⟨W.heap.size, 0, none⟩) 1 1) (hp : R p cs) (hcs : cs.length = size) (h1 : ∀ u ∈ cs, u.oneCell' = true)
    (HO : OwnRow R e size W base v ps) (HB : Below base w0 W) (hbase : base ≤ W.heap.size) (hl : (ps.length + 1) * bytes ≤ 140737488355328)
    (h : ∀ v1 w1, OwnRow R e size w1 base v1 (ps ++ [p]) → Below base w0 w1 → W.grownBy w1 v.ownBlock → (v1.ownBlock = v.ownBlock ∨ ∃ b, v1.ownBlock = some b ∧ W.heap.size ≤ b) → wpList P ops Q rest (a.put o.dst v1) w1) :
    wpList P ops Q (o :: rest) a (W.alloc (.cells cs.toArray e)) := by
  obtain ⟨inner, hown, hr⟩ := HO
  refine print_append_cells base hgd s x t e z size bytes ho ht hinfo hz hs0 hb0 v ps.length inner cs hs hx hcs h1 hown HB hbase hl ?_
  intro v1 w1 hown1 hb1 hg1 hat1
  exact h v1 w1 ⟨inner ++ cs, by rw [List.length_append, List.length_singleton]; exact hown1, hr.snoc hp hcs⟩ hb1 hg1 hat1
end
section
variable {P : Program} {ops : Array Oper} {o : Oper} {a : Act} {Q : Exit → Act → World → Prop} {K : Act → World → Prop} {α : Type} {R : α → List Value → Prop}
end
/-- What is read as_ a row has its cells one behind the other. -/
theorem ReadsRow.inner_ {α : Type} {R : α → List Value → Prop} {size : Nat} {w : World} {ad : Addr} {n : Nat} {ps : List α} (h : ReadsRow R size w (some ad) n ps) :
    ∃ inner, Reps R size ps inner ∧ ∀ j u, inner[j]? = some u → w.cell? (ad.add j) = some u := by
  have key : ∀ m, m ≤ ps.length → ∃ inner, Reps R size (ps.take m) inner ∧ ∀ j u, inner[j]? = some u → w.cell? (ad.add j) = some u := by
    intro m
    induction m with
    | zero => exact fun _ => ⟨[], Reps.none _ _, fun j u hu => by simp at hu⟩
    | succ m ih =>
      intro hm
      obtain ⟨inner, hr, hc⟩ := ih (by omega)
      obtain ⟨ad', he, hcell⟩ := h.2.2 (by have := h.1; omega)
      injection he with he
      subst he
      obtain ⟨c, hcl, hp, hcc⟩ := hcell m _ (List.getElem?_eq_getElem (show m < ps.length by omega))
      refine ⟨inner ++ c, ?_, fun j u hu => ?_⟩
      · rw [List.take_succ_eq_append_getElem (show m < ps.length by omega)]
        exact hr.snoc hp hcl
      · have hil : inner.length = m * size := by rw [hr.1, List.length_take, Nat.min_eq_left (by omega)]
        rcases Nat.lt_or_ge j inner.length with hj | hj
        · rw [List.getElem?_append_left hj] at hu
          exact hc j u hu
        · rw [List.getElem?_append_right hj] at hu
          have := hcc (j - inner.length) u hu
          rwa [hil, Nat.add_sub_cancel' (by omega)] at this
  obtain ⟨inner, hr, hc⟩ := key ps.length (Nat.le_refl _)
  rw [List.take_length] at hr
  exact ⟨inner, hr, hc⟩
/-! ### 21. Cuts of a slice that came in, lengths spelled as_ the lists' -/
section
variable {α : Type} {P : Program}
theorem ReadsOf.len_ {enc : α → Value} {d : α} {w : World} {A : Option Addr} {n : Nat} {xs : List α} (h : ReadsOf enc d w A n xs) : ReadsOf enc d w A xs.length xs := by rw [h.1]; exact h
end

/-! ### 22. append([]byte, s...), s a string; behind 'at_builtin'. (No word on where the new row lies: two rows of bytes at once don't go by it.) -/
section
variable {P : Program} {ops : Array Oper} {rest : List Oper} {o : Oper} {a : Act} {Q : Exit → Act → World → Prop}
end
/-! ### 23. KINDS: what a value's cells say, read (K) and made (M), kind by kind; every mover proved once -/
/-- ok: which blocks the rows inside may be ('not the row that is being written'). -/
structure Kd (α : Type) where
  sz : Nat
  E : List Nat
  K : World → α → List Value → Prop
  M : World → Nat → (Nat → Prop) → α → List Value → Prop
  K_len : ∀ {w x cs}, K w x cs → cs.length = sz
  K_one : ∀ {w x cs}, K w x cs → ∀ u ∈ cs, u.oneCell' = true
  K_below : ∀ {w w1 : World} {x cs}, Below w.heap.size w w1 → K w x cs → K w1 x cs
  K_of_M : ∀ {w base ok x cs}, M w base ok x cs → K w x cs
  M_mono : ∀ {w base ok ok' x cs}, (∀ k, ok k → ok' k) → M w base ok x cs → M w base ok' x cs
  M_bound : ∀ {w : World} {base ok x cs}, M w base ok x cs → M w base (fun k => ok k ∧ base ≤ k ∧ k < w.heap.size ∧ ∃ q, q ∈ E ∧ ∃ cells, w.heap[k]? = some (.cells cells q (0, 0))) x cs
  M_move : ∀ {w w1 : World} {base ok x cs}, (∀ k, ok k → w1.heap[k]? = w.heap[k]?) → M w base ok x cs → M w1 base ok x cs
  M_lower : ∀ {w base base' ok x cs}, base' ≤ base → M w base ok x cs → M w base' ok x cs

theorem own_move {w w1 : World} {base : Nat} {e : TypeId} {size n : Nat} {v : Value} {xs : List Value} (h : w.ownsRow base e size v n xs) (hm : ∀ k, v.ownBlock = some k → w1.heap[k]? = w.heap[k]?) : w1.ownsRow base e size v n xs := by
  obtain ⟨h1, h2⟩ := h
  refine ⟨h1, ?_⟩
  rcases h2 with h2 | ⟨g, cap, cur, rfl, hg, hh, r⟩
  · exact .inl h2
  · exact .inr ⟨g, cap, cur, rfl, hg, (hm g (by simp [Value.ownBlock])).trans hh, r⟩
theorem own_typed {w : World} {base : Nat} {e : TypeId} {size n : Nat} {v : Value} {xs : List Value} (h : w.ownsRow base e size v n xs) (k : Nat) (hk : v.ownBlock = some k) : ∃ cells, w.heap[k]? = some (.cells cells e (0, 0)) := by
  rcases h.2 with ⟨rfl, _⟩ | ⟨g, cap, cur, rfl, hg, hh, r⟩
  · simp [Value.ownBlock] at hk
  · have : g = k := by simpa [Value.ownBlock] using hk
    subst this
    exact ⟨cur, hh⟩

namespace Kd
/-- A row of elements that is read. -/
def C {α : Type} (d : Kd α) (w : World) (A : Option Addr) (n : Nat) (xs : List α) : Prop := ReadsRow (d.K w) d.sz w A n xs
/-- A row of elements (type e) of the call's own; the elements' rows are not this one. -/
def R {α : Type} (d : Kd α) (e : Nat) (w : World) (base : Nat) (ok : Nat → Prop) (v : Value) (xs : List α) : Prop :=
  (∀ k, v.ownBlock = some k → ok k) ∧ OwnRow (d.M w base (fun k => ok k ∧ some k ≠ v.ownBlock)) e d.sz w base v xs
section
variable {α : Type} {d : Kd α} {e : Nat} {w w1 : World} {base : Nat} {ok ok' : Nat → Prop} {v : Value} {xs : List α}
theorem C_below {A : Option Addr} {n : Nat} (h : d.C w A n xs) (hb : Below w.heap.size w w1) : d.C w1 A n xs := ReadsRow.imp_ h hb (fun _ _ hp => d.K_below hb hp)
theorem R_nil (d : Kd α) (e : Nat) (w : World) (base : Nat) (ok : Nat → Prop) : d.R e w base ok (.slice none 0 0) [] := ⟨fun k hk => by simp [Value.ownBlock] at hk, OwnRow.none_ _ _ _ _ _⟩
theorem R_mono (h : d.R e w base ok v xs) (hok : ∀ k, ok k → ok' k) : d.R e w base ok' v xs := ⟨fun k hk => hok k (h.1 k hk), h.2.imp_ (fun _ _ hp => d.M_mono (fun k hk => ⟨hok k hk.1, hk.2⟩) hp)⟩
theorem R_bound (h : d.R e w base ok v xs) : d.R e w base (fun k => ok k ∧ base ≤ k ∧ k < w.heap.size ∧ ∃ q, q ∈ e :: d.E ∧ ∃ cells, w.heap[k]? = some (.cells cells q (0, 0))) v xs := by
  obtain ⟨h0, inner, ho, hr⟩ := h
  refine ⟨fun k hk => ?_, inner, ho, hr.imp_ (fun _ _ hp => d.M_mono (fun k hk => ?_) (d.M_bound hp))⟩
  · obtain ⟨cells, hc⟩ := own_typed ho k hk
    exact ⟨h0 k hk, own_base ho k hk, own_lt ho k hk, e, List.mem_cons_self, cells, hc⟩
  · obtain ⟨⟨h1, h2⟩, h3, h4, q, hq, hc⟩ := hk
    exact ⟨⟨h1, h3, h4, q, List.mem_cons_of_mem _ hq, hc⟩, h2⟩
theorem R_move (h : d.R e w base ok v xs) (hm : ∀ k, ok k → w1.heap[k]? = w.heap[k]?) : d.R e w1 base ok v xs := by
  obtain ⟨h0, inner, ho, hr⟩ := h
  exact ⟨h0, inner, own_move ho (fun k hk => hm k (h0 k hk)), hr.imp_ (fun _ _ hp => d.M_move (fun k hk => hm k hk.1) hp)⟩
theorem R_lower {base' : Nat} (h : d.R e w base ok v xs) (hb : base' ≤ base) : d.R e w base' ok v xs := by
  obtain ⟨h0, inner, ho, hr⟩ := h
  exact ⟨h0, inner, own_weaken ho hb, hr.imp_ (fun _ _ hp => d.M_lower hb hp)⟩
/-- Any mover: what is ok, and a block of w's, stays. -/
theorem R_step (h : d.R e w base ok v xs) (hm : ∀ k, ok k → k < w.heap.size → w1.heap[k]? = w.heap[k]?) : d.R e w1 base ok v xs :=
  R_mono (R_move (R_bound h) (fun k hk => hm k hk.1 hk.2.2.1)) (fun _ hk => hk.1)
theorem M_step {x : α} {cs : List Value} (h : d.M w base ok x cs) (hm : ∀ k, ok k → k < w.heap.size → w1.heap[k]? = w.heap[k]?) : d.M w1 base ok x cs :=
  d.M_mono (fun _ hk => hk.1) (d.M_move (fun k hk => hm k hk.1 hk.2.2.1) (d.M_bound h))
theorem R_below (h : d.R e w base ok v xs) (hb : Below w.heap.size w w1) : d.R e w1 base ok v xs := R_step h (fun k _ hk => hb.block k hk)
theorem M_below {x : α} {cs : List Value} (h : d.M w base ok x cs) (hb : Below w.heap.size w w1) : d.M w1 base ok x cs := M_step h (fun k _ hk => hb.block k hk)
theorem R_reads (h : d.R e w base ok v xs) : ∃ A c, v = .slice A xs.length c ∧ xs.length ≤ c ∧ d.C w A xs.length xs := by
  obtain ⟨A, c, he, hl, hr⟩ := OwnRow.reads h.2
  exact ⟨A, c, he, hl, hr.imp_ (Below.refl _ _) (fun _ _ hp => d.K_of_M hp)⟩
end

/-! #### the kinds -/
def scalar {α : Type} (enc : α → Value) (h1 : ∀ x, (enc x).oneCell' = true) : Kd α where
  sz := 1
  E := []
  K := fun _ x cs => cs = [enc x]
  M := fun _ _ _ x cs => cs = [enc x]
  K_len := fun h => by rw [h]; rfl
  K_one := fun h u hu => by
    rw [h] at hu
    rw [List.mem_singleton.1 hu]
    exact h1 _
  K_below := fun _ h => h
  K_of_M := fun h => h
  M_mono := fun _ h => h
  M_bound := fun h => h
  M_move := fun _ h => h
  M_lower := fun _ h => h
def int (k : IntKind) : Kd Int := scalar (Value.int k) (fun _ => rfl)
def bool : Kd Bool := scalar Value.bool (fun _ => rfl)
def string : Kd ByteArray := scalar Value.string (fun _ => rfl)
def slice {α : Type} (e : Nat) (d : Kd α) : Kd (List α) where
  sz := 1
  E := e :: d.E
  K := fun w xs cs => ∃ A c, cs = [.slice A xs.length c] ∧ xs.length ≤ c ∧ d.C w A xs.length xs
  M := fun w base ok xs cs => ∃ v, cs = [v] ∧ d.R e w base ok v xs
  K_len := by
    rintro w x cs ⟨A, c, rfl, _⟩
    rfl
  K_one := by
    rintro w x cs ⟨A, c, rfl, _⟩ u hu
    rw [List.mem_singleton.1 hu]
    rfl
  K_below := by
    rintro w w1 x cs hb ⟨A, c, rfl, hl, hr⟩
    exact ⟨A, c, rfl, hl, C_below hr hb⟩
  K_of_M := by
    rintro w base ok x cs ⟨v, rfl, h⟩
    obtain ⟨A, c, rfl, hl, hr⟩ := R_reads h
    exact ⟨A, c, rfl, hl, hr⟩
  M_mono := by
    rintro w base ok ok' x cs hok ⟨v, rfl, h⟩
    exact ⟨v, rfl, R_mono h hok⟩
  M_bound := by
    rintro w base ok x cs ⟨v, rfl, h⟩
    exact ⟨v, rfl, R_bound h⟩
  M_move := by
    rintro w w1 base ok x cs hm ⟨v, rfl, h⟩
    exact ⟨v, rfl, R_move h hm⟩
  M_lower := by
    rintro w base base' ok x cs hb ⟨v, rfl, h⟩
    exact ⟨v, rfl, R_lower h hb⟩
/-- Two in line. -/
def pair {α β : Type} (a : Kd α) (b : Kd β) : Kd (α × β) where
  sz := a.sz + b.sz
  E := a.E ++ b.E
  K := fun w x cs => ∃ c0 c1, cs = c0 ++ c1 ∧ a.K w x.1 c0 ∧ b.K w x.2 c1
  M := fun w base ok x cs => ∃ c0 c1, cs = c0 ++ c1 ∧ a.M w base ok x.1 c0 ∧ b.M w base ok x.2 c1
  K_len := by
    rintro w x cs ⟨c0, c1, rfl, h0, h1⟩
    rw [List.length_append, a.K_len h0, b.K_len h1]
  K_one := by
    rintro w x cs ⟨c0, c1, rfl, h0, h1⟩ u hu
    rcases List.mem_append.1 hu with hu | hu
    · exact a.K_one h0 u hu
    · exact b.K_one h1 u hu
  K_below := by
    rintro w w1 x cs hb ⟨c0, c1, rfl, h0, h1⟩
    exact ⟨c0, c1, rfl, a.K_below hb h0, b.K_below hb h1⟩
  K_of_M := by
    rintro w base ok x cs ⟨c0, c1, rfl, h0, h1⟩
    exact ⟨c0, c1, rfl, a.K_of_M h0, b.K_of_M h1⟩
  M_mono := by
    rintro w base ok ok' x cs hok ⟨c0, c1, rfl, h0, h1⟩
    exact ⟨c0, c1, rfl, a.M_mono hok h0, b.M_mono hok h1⟩
  M_bound := by
    rintro w base ok x cs ⟨c0, c1, rfl, h0, h1⟩
    refine ⟨c0, c1, rfl, a.M_mono ?_ (a.M_bound h0), b.M_mono ?_ (b.M_bound h1)⟩
    · rintro k ⟨h2, h3, h4, q, hq, hc⟩
      exact ⟨h2, h3, h4, q, List.mem_append_left _ hq, hc⟩
    · rintro k ⟨h2, h3, h4, q, hq, hc⟩
      exact ⟨h2, h3, h4, q, List.mem_append_right _ hq, hc⟩
  M_move := by
    rintro w w1 base ok x cs hm ⟨c0, c1, rfl, h0, h1⟩
    exact ⟨c0, c1, rfl, a.M_move hm h0, b.M_move hm h1⟩
  M_lower := by
    rintro w base base' ok x cs hb ⟨c0, c1, rfl, h0, h1⟩
    exact ⟨c0, c1, rfl, a.M_lower hb h0, b.M_lower hb h1⟩
/-- A Lean structure by its fields. -/
def iso {α β : Type} (d : Kd α) (f : β → α) : Kd β where
  sz := d.sz
  E := d.E
  K := fun w x cs => d.K w (f x) cs
  M := fun w base ok x cs => d.M w base ok (f x) cs
  K_len := d.K_len
  K_one := d.K_one
  K_below := d.K_below
  K_of_M := d.K_of_M
  M_mono := d.M_mono
  M_bound := d.M_bound
  M_move := d.M_move
  M_lower := d.M_lower
/-- Nothing is of this kind: where the nesting's depth is used up. -/
def bot {α : Type} (sz : Nat) (E : List Nat) : Kd α where
  sz := sz
  E := E
  K := fun _ _ _ => False
  M := fun _ _ _ _ _ => False
  K_len := fun h => h.elim
  K_one := fun h => h.elim
  K_below := fun _ h => h
  K_of_M := fun h => h
  M_mono := fun _ h => h
  M_bound := fun h => h
  M_move := fun _ h => h
  M_lower := fun _ h => h
/-- A type nested in itself: nested at most n deep .. -/
def upto {α : Type} (F : Kd α → Kd α) (sz : Nat) (E : List Nat) : Nat → Kd α
  | 0 => bot sz E
  | n + 1 => F (upto F sz E n)

/-! #### an element of a row that is read; an element appended -/
theorem C_get {α : Type} {d : Kd α} {w : World} {A : Option Addr} {n : Nat} {xs : List α} (h : d.C w A n xs) (z : α) (i : Int) (h0 : 0 ≤ i) (h1 : i < n) :
    ∃ ad c, A = some ad ∧ c.length = d.sz ∧ d.K w (xs.getD i.toNat z) c ∧ ∀ j u, c[j]? = some u → w.cell? (ad.add (i.toNat * d.sz + j)) = some u := ReadsRow.get_ h z i h0 h1
section
variable {P : Program} {ops : Array Oper} {rest : List Oper} {o : Oper} {a : Act} {Q : Exit → Act → World → Prop} {α : Type}
end
section
variable {P : Program} {ops : Array Oper} {o : Oper} {a : Act} {Q : Exit → Act → World → Prop} {Kc : Act → World → Prop} {α : Type}
end
/-- A row of scalars is the elder form. -/
theorem reps_scalar {α : Type} {enc : α → Value} (xs : List α) : Reps (fun (x : α) (cs : List Value) => cs = [enc x]) 1 xs (encs enc xs) := by
  refine ⟨by simp [encs], fun j p hj => ?_⟩
  obtain ⟨hl, hp⟩ := List.getElem?_eq_some_iff.1 hj
  have hl' : j < (encs enc xs).length := by rw [encs_length]; exact hl
  rw [Nat.mul_one, List.drop_eq_getElem_cons hl']
  simp [encs, hp]
theorem R_of_own {α : Type} {enc : α → Value} {h1 : ∀ x, (enc x).oneCell' = true} {e : Nat} {w : World} {base : Nat} {ok : Nat → Prop} {v : Value} {xs : List α} (ho : w.ownsRow base e 1 v xs.length (encs enc xs)) (hok : ∀ k, v.ownBlock = some k → ok k) : (scalar enc h1).R e w base ok v xs := ⟨hok, encs enc xs, ho, reps_scalar xs⟩
theorem C_of_reads {α : Type} {enc : α → Value} {d : α} {h1 : ∀ x, (enc x).oneCell' = true} {w : World} {A : Option Addr} {n : Nat} {xs : List α} (h : ReadsOf enc d w A n xs) : (scalar enc h1).C w A n xs := by
  refine ⟨h.1, h.2.1, fun hn => ?_⟩
  obtain ⟨ad, e, hc⟩ := h.2.2 hn
  refine ⟨ad, e, fun j p hj => ⟨[enc p], rfl, rfl, fun i u hu => ?_⟩⟩
  obtain ⟨hl, hp⟩ := List.getElem?_eq_some_iff.1 hj
  have h2 := hc j (by have := h.1; omega)
  rw [List.getD_eq_getElem?_getD, hj] at h2
  cases i with
  | zero =>
    have : enc p = u := by simpa using hu
    subst this
    simpa [scalar] using h2
  | succ i => simp at hu
theorem reads_of_C {α : Type} {enc : α → Value} {d : α} {h1 : ∀ x, (enc x).oneCell' = true} {w : World} {A : Option Addr} {n : Nat} {xs : List α} (h : (scalar enc h1).C w A n xs) : ReadsOf enc d w A n xs := by
  refine ⟨h.1, h.2.1, fun hn => ?_⟩
  obtain ⟨ad, e, hc⟩ := h.2.2 hn
  refine ⟨ad, e, fun j hj => ?_⟩
  have hl : j < xs.length := by have := h.1; omega
  obtain ⟨c, _, hK, hcell⟩ := hc j _ (List.getElem?_eq_getElem hl)
  have hK' : c = [enc xs[j]] := hK
  subst hK'
  have := hcell 0 _ rfl
  simpa [scalar, List.getD_eq_getElem?_getD, List.getElem?_eq_getElem hl] using this
end Kd
/-! ### 24. Kinds nested in themselves -/
namespace Kd
section
variable {α : Type} {F : Kd α → Kd α} {sz : Nat} {E : List Nat} {hs : ∀ n, (upto F sz E n).sz = sz} {hE : ∀ n q, q ∈ (upto F sz E n).E → q ∈ E}
end
end Kd
/-! ### 25. What is held while another row is written: 'ok' says that its rows are none of that row's block -/
namespace Kd
end Kd
/-! ### 26. Words for a printer that takes every slice by its kind -/
namespace Kd
section
variable {α β : Type} {d : Kd α} {d' : Kd β} {e e' : Nat} {w w1 W : World} {base b b' : Nat} {ok ok' okv oku : Nat → Prop} {v u : Value} {xs : List α} {ys : List β}
theorem R_alloc (h : d.R e w base ok v xs) (o : Obj) : d.R e (w.alloc o) base ok v xs := R_below h (below_alloc (Below.refl _ _) o)
theorem R_drew (h : d.R e w base ok v xs) : d.R e w.drew base ok v xs := R_below h (below_drew (Below.refl _ _))
theorem R_drewN (h : d.R e w base ok v xs) (m : Nat) : d.R e (w.drewN m) base ok v xs := R_below h (pw_below_drewN (Below.refl _ _) m)
theorem C_alloc {A : Option Addr} {n : Nat} (h : d.C w A n xs) (o : Obj) : d.C (w.alloc o) A n xs := C_below h (below_alloc (Below.refl _ _) o)
theorem C_drew {A : Option Addr} {n : Nat} (h : d.C w A n xs) : d.C w.drew A n xs := C_below h (below_drew (Below.refl _ _))
theorem C_drewN {A : Option Addr} {n : Nat} (h : d.C w A n xs) (m : Nat) : d.C (w.drewN m) A n xs := C_below h (pw_below_drewN (Below.refl _ _) m)
end
/-! #### scalars -/
section
variable {w W : World} {A : Option Addr} {n : Nat}
theorem at_string {xs : List ByteArray} (h : Kd.string.C w A n xs) (i : Int) (h0 : 0 ≤ i) (h1 : i < n) : ∃ ad, A = some ad ∧ w.cell? (ad.add i.toNat) = some (.string (rdOf ByteArray.empty xs i)) :=
  ReadsOf.at_ (reads_of_C (enc := Value.string) (d := ByteArray.empty) (h1 := fun _ => rfl) h) i h0 h1
variable {α : Type} {enc : α → Value} {h1 : ∀ x, (enc x).oneCell' = true} {e base g cap : Nat} {ok : Nat → Prop} {xs : List α}
end

/-! #### events: a letter for what make and a literal leave -/
section
variable {P : Program} {ops : Array Oper} {rest : List Oper} {o : Oper} {a : Act} {Q : Exit → Act → World → Prop}
theorem event_run {W w1 : World} {v : Value} (hgd : o.guard = none) (hrun : (execOp a.eval o).run P W = .ok (.value v) w1) (h : wpList P ops Q rest (a.put o.dst v) w1) : wpList P ops Q (o :: rest) a W := by
  refine wpList_plain hgd fun K hK => ?_
  unfold Oper.wp
  rw [hrun]
  exact hK _ _ h
variable {α : Type}
/-- A literal '[]T{..}': inner its cells. 'hd' picks the operation; 'hrun' by '(by go_simp; rfl)'. -/
theorem R_lit (d : Kd α) {w0 W : World} (base e : Nat) (hgd : o.guard = none) {N : Tmp} (_hd : o.dst = some N) {xs : List α} {inner : List Value} {ok okp : Nat → Prop}
    (hrun : (execOp a.eval o).run P W = .ok (.value (.slice (some ⟨W.heap.size, 0, none⟩) xs.length xs.length)) (W.alloc (.cells inner.toArray e)))
    (hrep : Reps (d.M W base okp) d.sz xs inner) (hok : ∀ k, okp k → ok k) (hfresh : ok W.heap.size) (HB : Below base w0 W) (hbase : base ≤ W.heap.size) (hm : xs.length ≤ 9223372036854775807)
    (h : ∀ v1 w1, d.R e w1 base ok v1 xs → Below base w0 w1 → W.grownBy w1 none → (∃ b, v1.ownBlock = some b ∧ W.heap.size ≤ b) → wpList P ops Q rest (a.put o.dst v1) w1) : wpList P ops Q (o :: rest) a W := by
  refine event_run hgd hrun (h _ _ ⟨fun k hk => ?_, inner, ?_, ?_⟩ (HB.alloc hbase _) (World.grownBy_alloc W _ none) ⟨W.heap.size, by simp [Value.ownBlock], Nat.le_refl _⟩)
  · have : W.heap.size = k := by simpa [Value.ownBlock] using hk
    subst this
    exact hfresh
  · have h2 := World.ownsRow_lit (base := base) (e := e) (size := d.sz) W inner.toArray xs.length hbase (by simpa [maxLen] using hm) (by simpa using hrep.1)
    simpa using h2
  · refine hrep.imp_ (fun p c hp => d.M_mono (fun k hk => ⟨hok k hk.1, fun he => ?_⟩) (M_below (d.M_bound hp) (below_alloc (Below.refl _ _) _)))
    have h3 : k = W.heap.size := by simpa [Value.ownBlock] using he
    have := hk.2.2.1
    omega
end
end Kd
/-! ### 27. Cuts of a row of one's own: 'xs = xs[:n]' stays a row (R_take); 'xs = xs[k:]' is a row that begins inside its block (Kd.Q), append goes on it too -/
section
variable {P : Program}
end
/-- A row of one's own that may begin inside its block. -/
def QRow (w : World) (base : Nat) (e : TypeId) (size : Nat) (v : Value) (n : Nat) (xs : List Value) : Prop :=
  xs.length = n * size ∧
  ((n = 0 ∧ ∃ A, v = .slice A 0 0 ∧ ∀ a, A = some a → base ≤ a.block ∧ ∃ cur, w.heap[a.block]? = some (.cells cur e (0, 0))) ∨
   ∃ g off cap cur, v = .slice (some ⟨g, off * size, none⟩) n cap ∧ base ≤ g ∧ w.heap[g]? = some (.cells cur e (0, 0)) ∧ n ≤ cap ∧ off + cap ≤ maxLen ∧ cur.size = (off + cap) * size ∧ (cur.toList.drop (off * size)).take (n * size) = xs)
section
variable {w w1 : World} {base n size : Nat} {e : TypeId} {v : Value} {xs : List Value}
end
section
variable {P : Program}
end
/-! ### 28. The kinds' words for cuts: R_take; Q (a row that may begin inside its block) with all of R's movers -/
namespace Kd
def Q {α : Type} (d : Kd α) (e : Nat) (w : World) (base : Nat) (ok : Nat → Prop) (v : Value) (xs : List α) : Prop :=
  (∀ k, v.ownBlock = some k → ok k) ∧ ∃ inner, QRow w base e d.sz v xs.length inner ∧ Reps (d.M w base (fun k => ok k ∧ some k ≠ v.ownBlock)) d.sz xs inner
section
variable {α : Type} {d : Kd α} {e : Nat} {w w1 W : World} {base : Nat} {ok ok' : Nat → Prop} {v : Value} {xs : List α}
end
section
variable {P : Program} {ops : Array Oper} {rest : List Oper} {o : Oper} {a : Act} {Q' : Exit → Act → World → Prop} {Kc : Act → World → Prop} {α : Type}
end
end Kd
/-! ### 29. Movers that ask of another row no more than they need: for R and for Q -/
namespace Kd
section
variable {α : Type} {d : Kd α} {e e' : Nat} {w w1 W : World} {base : Nat} {ok : Nat → Prop} {u v : Value} {xs : List α}

end
end Kd
/-! ### 30. Elements written: x[i] = T{..}, x[i].f = v, swaps, in a row of elements of any kind -/
namespace Kd
section
variable {α : Type} {d : Kd α} {e base g n cap : Nat} {ok okp : Nat → Prop} {W : World} {xs : List α}
end
end Kd
/-! ### 31. What came in, put into what is made: 'fixed d w0' (read in w0, whatever happens since), 'or_ a b', 'mix' (a slice that came in, or one that is made) -/
namespace Kd
section
variable {α : Type} {F : Kd α → Kd α} {sz : Nat} {E : List Nat} {hs : ∀ n, (upto F sz E n).sz = sz} {hE : ∀ n q, q ∈ (upto F sz E n).E → q ∈ E}
end
end Kd
/-! ### 32. A whole row appended, of elements of any kind; copy onto a row of scalars of one's own -/
namespace Kd
theorem reps_append {α : Type} {R : α → List Value → Prop} {size : Nat} {ps qs : List α} {cs ds : List Value} (h : Reps R size ps cs) (h' : Reps R size qs ds) : Reps R size (ps ++ qs) (cs ++ ds) := by
  refine ⟨by rw [List.length_append, List.length_append, h.1, h'.1, Nat.add_mul], fun j p hj => ?_⟩
  rcases Nat.lt_or_ge j ps.length with hlt | hge
  · rw [List.getElem?_append_left hlt] at hj
    have hle : j * size + size ≤ cs.length := by rw [h.1, ← Nat.succ_mul]; exact Nat.mul_le_mul_right _ hlt
    rw [List.drop_append_of_le_length (by omega), List.take_append_of_le_length (by rw [List.length_drop]; omega)]
    exact h.2 j p hj
  · rw [List.getElem?_append_right hge] at hj
    have h2 := h'.2 (j - ps.length) p hj
    have hle : ps.length * size ≤ j * size := Nat.mul_le_mul_right _ hge
    rw [List.drop_append, List.drop_eq_nil_of_le (by rw [h.1]; exact hle), List.nil_append, h.1, ← Nat.sub_mul]
    exact h2
section
variable {P : Program} {ops : Array Oper} {rest : List Oper} {o : Oper} {a : Act} {Q : Exit → Act → World → Prop} {α : Type}
/-- append(v, ys...): Rr is what is known of a read element's cells (d.K W; or k<T>.K w0 for a row that came in), hKM: it may stand as_ made. -/
theorem R_append_rows (d : Kd α) {Rr : α → List Value → Prop} {w0 W : World} (base : Nat) (hgd : o.guard = none) (s x : Operand) (t e : TypeId) (z : Value) (bytes : Nat)
    (ho : o.op = .call { callee := .builtin .append, args := #[s, x], argTypes := #[t, t] })
    (ht : P.underlying t = some (.slice e)) (hinfo : (P.info? e).map (fun i => (i.zero, i.size, i.bytes)) = some (some z, d.sz, bytes)) (hz : z.cells.size = d.sz) (hs0 : 0 < d.sz) (hb0 : 0 < bytes)
    (v : Value) (xs ys : List α) (A : Option Addr) (m c : Nat) (ok okp : Nat → Prop) (hs : a.eval s = v) (hx : a.eval x = .slice A m c)
    (HO : d.R e W base ok v xs) (HR : ReadsRow Rr d.sz W A m ys) (hKM : ∀ x cs, Rr x cs → d.M W base okp x cs) (hokp : ∀ k, okp k → ok k ∧ some k ≠ v.ownBlock) (hfresh : ∀ k, W.heap.size ≤ k → ok k)
    (HB : Below base w0 W) (hbase : base ≤ W.heap.size) (hl : (xs.length + m) * bytes ≤ 140737488355328)
    (h : ∀ v1 w1, d.R e w1 base ok v1 (xs ++ ys) → Below base w0 w1 → W.grownBy w1 v.ownBlock → (v1.ownBlock = v.ownBlock ∨ ∃ b, v1.ownBlock = some b ∧ W.heap.size ≤ b) → wpList P ops Q rest (a.put o.dst v1) w1) :
    wpList P ops Q (o :: rest) a W := by
  obtain ⟨i0, hi, hzz⟩ := Option.map_eq_some_iff.1 hinfo
  simp only [Prod.mk.injEq] at hzz
  obtain ⟨hz0, hz1, hz2⟩ := hzz
  have hm : ys.length = m := HR.1
  have hlen : xs.length + m ≤ 140737488355328 := Nat.le_trans (Nat.le_mul_of_pos_right _ hb0) hl
  obtain ⟨hok, inner, hown, hr⟩ := HO
  have hrun : ∃ v1 w1, (Builtin.append_ #[t, t] o.type #[v, .slice A m c]).run P W = .ok v1 w1 ∧ d.R e w1 base ok v1 (xs ++ ys) ∧ W.grownBy w1 v.ownBlock ∧ (v1.ownBlock = v.ownBlock ∨ ∃ b, v1.ownBlock = some b ∧ W.heap.size ≤ b) := by
    rcases A with _ | ad
    · have h0 : m = 0 := by
        rcases Nat.eq_zero_or_pos m with h0 | h0
        · exact h0
        · obtain ⟨ad, h, _⟩ := HR.2.2 h0
          cases h
      subst h0
      obtain rfl : ys = [] := List.eq_nil_of_length_eq_zero hm
      refine ⟨v, W, ?_, by rw [List.append_nil]; exact ⟨hok, inner, hown, hr⟩, World.grownBy.refl W _, .inl rfl⟩
      rcases hown.2 with ⟨rfl, hn⟩ | ⟨g, cap, cur, rfl, _, _, hnc, _⟩
      · simp [Builtin.append_, run_underlying ht, sizeOf, typeInfo, hi, Builtin.lenOf, Builtin.firstCells]
      · simp [Builtin.append_, run_underlying ht, sizeOf, typeInfo, hi, Builtin.lenOf, Builtin.firstCells, hnc, storeCells]
    · obtain ⟨news, hnr, hnc⟩ := ReadsRow.inner_ HR
      have hnM : Reps (d.M W base okp) d.sz ys news := hnr.imp_ (fun p c hp => hKM p c hp)
      have hone : ∀ u ∈ news, u.oneCell' = true := by
        intro u hu
        obtain ⟨q, hq, rfl⟩ := List.mem_iff_getElem.1 hu
        have hql : q / d.sz < ys.length := by
          rw [Nat.div_lt_iff_lt_mul hs0]
          rw [← hnM.1]
          exact hq
        have hc := hnM.2 (q / d.sz) _ (List.getElem?_eq_getElem hql)
        refine d.K_one (d.K_of_M hc) _ ?_
        rw [List.mem_iff_getElem?]
        refine ⟨q % d.sz, ?_⟩
        rw [List.getElem?_take, if_pos (Nat.mod_lt _ hs0), List.getElem?_drop, Nat.mul_comm, Nat.div_add_mod, List.getElem?_eq_getElem hq]
      obtain ⟨v1, w1, hrun, h2, hg, _, hat⟩ := run_append_own_at (P := P) W base t o.type e i0 z d.sz bytes ht hi hz0 hz1 hz2 hz hs0 v xs.length inner hown ad m c news (by rw [hnM.1, hm]) hnc hone (by simp only [maxLen]; omega) hl hbase
      have hat' : v1.ownBlock = v.ownBlock ∨ ∃ b, v1.ownBlock = some b ∧ W.heap.size ≤ b := by
        rcases hat with hat | hat
        · exact .inl hat
        · exact .inr ⟨_, hat, Nat.le_refl _⟩
      have hne : ∀ k, some k ≠ v.ownBlock → k < W.heap.size → some k ≠ v1.ownBlock := by
        intro k hk hlt
        rcases hat' with hat | ⟨b, hb, hle⟩
        · rw [hat]; exact hk
        · rw [hb]
          intro he
          injection he with he
          omega
      have step : ∀ {q : α} {c : List Value} {o : Nat → Prop}, d.M W base o q c → (∀ k, o k → ok k ∧ some k ≠ v.ownBlock) → d.M w1 base (fun k => ok k ∧ some k ≠ v1.ownBlock) q c := by
        intro q c o hq ho
        have h1 := d.M_move (w1 := w1) (fun k hk => hg.block k hk.2.2.1 (ho k hk.1).2) (d.M_bound hq)
        exact d.M_mono (fun k hk => ⟨(ho k hk.1).1, hne k (ho k hk.1).2 hk.2.2.1⟩) h1
      refine ⟨v1, w1, hrun, ⟨fun k hk => ?_, inner ++ news, by rw [List.length_append, hm]; exact h2, reps_append (hr.imp_ (fun _ _ hq => step hq (fun _ hk => hk))) (hnM.imp_ (fun _ _ hq => step hq hokp))⟩, hg, hat'⟩
      rcases hat' with hat | ⟨b, hb, hle⟩
      · exact hok k (hat ▸ hk)
      · rw [hb] at hk
        injection hk with hk
        exact hfresh k (by omega)
  obtain ⟨v1, w1, hr1, h1, hg, hat⟩ := hrun
  refine wpList_plain hgd fun K hK => ?_
  unfold Oper.wp execOp
  simp only [ho, resolve, invoke, builtin, Sem.run_bind, Sem.run_pure, Result.andThen_ok, List.map_toArray, List.map_cons, List.map_nil, hs, hx, hr1]
  exact hK _ _ (h v1 w1 h1 (HB.grown hg hbase (own_base hown)) hg hat)
end
end Kd
/-! ### 33. A store into a row of one's own, as_ an event: no go_simp -/
namespace Kd
section
variable {P : Program} {ops : Array Oper} {rest : List Oper} {o : Oper} {a : Act} {Q : Exit → Act → World → Prop} {α : Type}
end
end Kd
/-! ### 34. Cuts that are only read, of any row -/
namespace Kd
section
variable {α : Type} {k : Kd α} {w : World} {A : Option Addr} {xs : List α} {m c : Nat}
end
end Kd
section
variable {P : Program}
end
/-! ### 35. string(b), b read (a cut too) -/
theorem string_of_reads {P : Program} {w : World} {src dst e : TypeId} {A : Option Addr} {n c : Nat} {xs : List Int} (hs : P.underlying src = some (.slice e)) (he : P.underlying e = some (.int .u8)) (hd : P.underlying dst = some .string)
    (h : ReadsInt w .u8 A n xs) : (convert src dst (.slice A n c)).run P w = .ok (.string (strOfNums xs)) w := by
  have hn : xs.length = n := h.1
  rcases A with _ | ad
  · have h0 : n = 0 := by
      rcases Nat.eq_zero_or_pos n with h0 | h0
      · exact h0
      · obtain ⟨ad, h', _⟩ := h.2.2 h0
        cases h'
    subst h0
    obtain rfl : xs = [] := List.eq_nil_of_length_eq_zero hn
    exact run_convert_bytes_nil w src e hs he 0 c dst hd
  · have hl : (loadCells ad n).run P w = .ok (xs.map (Value.int .u8)).toArray w := by
      have := run_loadCells_list (P := P) w ad (xs.map (Value.int .u8)) (fun j v hj => by
        have hjl : j < xs.length := by
          rcases Nat.lt_or_ge j xs.length with h' | h'
          · exact h'
          · rw [List.getElem?_eq_none (by rw [List.length_map]; exact h')] at hj
            cases hj
        obtain ⟨ad', he', hc⟩ := h.2.2 (by omega)
        injection he' with he'
        subst he'
        rw [hc j (by omega)]
        rw [List.getElem?_map, List.getElem?_eq_getElem hjl] at hj
        simp at hj
        subst hj
        simp [List.getD_eq_getElem?_getD, List.getElem?_eq_getElem hjl])
      simpa [hn] using this
    rw [run_convert_bytes_string w src dst e _ n c hs he hd, run_bytesToString w ad n c xs hl, foldl_push_bytes]
    simp [strOfNums, ByteArray.empty, ByteArray.emptyWithCapacity]
    rfl
/-! ### 6. What the printer adds -/
theorem below_size {w W : World} (h : Below w.heap.size w W) : w.heap.size ≤ W.heap.size := h.size
theorem below_step {w W w2 : World} (h : Below w.heap.size w W) (k : Below W.heap.size W w2) : Below w.heap.size w w2 := below_then h h.size k
theorem ReadsInt.nil (W : World) (k : IntKind) : ReadsInt W k none ([] : List Int).length [] := ⟨rfl, by simp, fun h => absurd h (Nat.lt_irrefl 0)⟩
theorem ReadsInt.drewN {W : World} {k : IntKind} {A : Option Addr} {n : Nat} {xs : List Int} (h : ReadsInt W k A n xs) (m : Nat) : ReadsInt (W.drewN m) k A n xs := h
theorem ReadsInt.ofRow {k : IntKind} {w : World} {a : Option Addr} {len cap : Nat} {zs : List Int} (h : (a = none ∧ len = 0 ∧ cap = 0 ∧ zs = []) ∨ ∃ x, a = some x ∧ len ≤ cap ∧ cap ≤ maxLen ∧ zs.length = cap ∧ (∀ i, i < zs.length → w.cell? (x.add i) = some (.int k (zs.getD i 0))) ∧ ∀ n ∈ zs, (Lit.int k n).wf = true) :
    ∃ l : List Int, len = l.length ∧ ReadsInt w k a l.length l ∧ l.length ≤ maxLen ∧ ∀ x ∈ l, (Lit.int k x).wf = true := by
  rcases h with ⟨rfl, rfl, rfl, rfl⟩ | ⟨x, rfl, hl, hm, hz, hc, hw⟩
  · exact ⟨[], rfl, ReadsInt.nil _ _, Nat.zero_le _, fun x hx => by simp at hx⟩
  · have e : (zs.take len).length = len := by simp; omega
    have hm' : len ≤ maxLen := Nat.le_trans hl hm
    refine ⟨zs.take len, e.symm, ⟨rfl, by rw [e]; simpa [maxLen] using hm', fun _ => ⟨x, rfl, fun j hj => ?_⟩⟩, by rw [e]; exact hm', fun y hy => hw y (List.mem_of_mem_take hy)⟩
    rw [e] at hj
    rw [hc j (by omega)]
    simp [List.getD, List.getElem?_take, hj]
theorem keep_cell {w W : World} {g : Nat} (h : KeepBut w W g none) {a : Addr} {v : Value} (hc : w.cell? a = some v) (hne : a.block ≠ g) : W.cell? a = some v := by
  have := h.2 a.block (World.block_lt_of_cell? w a hc) hne (by simp)
  simpa [World.cell?, this] using hc
theorem add_block (a : Addr) (i : Nat) : (a.add i).block = a.block := by unfold Addr.add; split <;> rfl
theorem ReadsOf.nil {α : Type} (enc : α → Value) (d : α) (W : World) : ReadsOf enc d W none ([] : List α).length [] := ⟨rfl, by simp, fun h => absurd h (Nat.lt_irrefl 0)⟩
theorem ReadsOf.drewN {α : Type} {enc : α → Value} {d : α} {W : World} {A : Option Addr} {n : Nat} {xs : List α} (h : ReadsOf enc d W A n xs) (m : Nat) : ReadsOf enc d (W.drewN m) A n xs := h
theorem ReadsInt.keep {w W : World} {k : IntKind} {A : Option Addr} {n g : Nat} {xs : List Int} (h : ReadsInt w k A n xs) (hk : KeepBut w W g none) (hf : ∀ ad, A = some ad → 0 < n → ad.block ≠ g) : ReadsInt W k A n xs :=
  ⟨h.1, h.2.1, fun hn => by
    obtain ⟨ad, e, hc⟩ := h.2.2 hn
    exact ⟨ad, e, fun j hj => keep_cell hk (hc j hj) (by rw [add_block]; exact hf ad e hn)⟩⟩
theorem ReadsOf.keep {α : Type} {enc : α → Value} {d : α} {w W : World} {A : Option Addr} {n g : Nat} {xs : List α} (h : ReadsOf enc d w A n xs) (hk : KeepBut w W g none) (hf : ∀ ad, A = some ad → 0 < n → ad.block ≠ g) : ReadsOf enc d W A n xs :=
  ⟨h.1, h.2.1, fun hn => by
    obtain ⟨ad, e, hc⟩ := h.2.2 hn
    exact ⟨ad, e, fun j hj => keep_cell hk (hc j hj) (by rw [add_block]; exact hf ad e hn)⟩⟩
theorem ReadsInt.ofRowC {k : IntKind} {w : World} {a : Option Addr} {len cap : Nat} {zs : List Int} (h : (a = none ∧ len = 0 ∧ cap = 0 ∧ zs = []) ∨ ∃ x, a = some x ∧ len ≤ cap ∧ cap ≤ maxLen ∧ zs.length = cap ∧ (∀ i, i < zs.length → w.cell? (x.add i) = some (.int k (zs.getD i 0))) ∧ ∀ n ∈ zs, (Lit.int k n).wf = true) :
    ∃ l : List Int, len = l.length ∧ ReadsInt w k a l.length l ∧ l.length ≤ maxLen ∧ (∀ x ∈ l, (Lit.int k x).wf = true) ∧ l.length ≤ cap := by
  have hl : len ≤ cap := by
    rcases h with ⟨_, rfl, rfl, _⟩ | ⟨_, _, h, _⟩
    · exact Nat.le_refl _
    · exact h
  obtain ⟨l, e, h1, h2, h3⟩ := ReadsInt.ofRow h
  exact ⟨l, e, h1, h2, h3, e ▸ hl⟩
theorem below_drew1 {base : Nat} {w W : World} (h : Below base w W) : Below base w W.drew := h.drew
namespace Kd
section
variable {α β : Type} {d : Kd α} {d' : Kd β} {e e' base base' n : Nat} {ok ok' : Nat → Prop} {w W w1 W1 : World} {v u : Value} {xs : List α} {ys : List β} {A : Option Addr} {c : Nat}
end
section
variable {α : Type} {enc : α → Value} {h1 : ∀ x, (enc x).oneCell' = true} {w W : World} {A : Option Addr} {n g : Nat} {xs : List α}
end
end Kd
namespace Kd
section
variable {α : Type} {d : Kd α} {e base g : Nat} {ok : Nat → Prop} {w w1 : World} {v : Value} {xs : List α} {o : Obj}
end
end Kd
section
variable {P : Program} {ops : Array Oper} {rest : List Oper} {o : Oper} {a : Act} {Q : Exit → Act → World → Prop}
end
namespace Kd
section
variable {α : Type} {enc : α → Value} {h1 : ∀ x, (enc x).oneCell' = true} {e base g n cap : Nat} {ok : Nat → Prop} {W : World} {xs : List α}
end
end Kd
section
variable {P : Program} {ops : Array Oper} {rest : List Oper} {o : Oper} {a : Act} {Q : Exit → Act → World → Prop}
end
namespace Kd
section
variable {α : Type} {enc : α → Value} {h1 : ∀ x, (enc x).oneCell' = true} {e base g n cap : Nat} {ok : Nat → Prop} {W : World} {xs : List α}
end
end Kd
section
variable {P : Program} {ops : Array Oper} {rest : List Oper} {o : Oper} {a : Act} {Q : Exit → Act → World → Prop} {W : World}
theorem gate_dst {N : Tmp} (_hN : o.dst = some N) (h : wpList P ops Q (o :: rest) a W) : wpList P ops Q (o :: rest) a W := h
end
/-! ### 36. Events as_ one step of a region that draws (for one_, two_, three_) -/
section
variable {P : Program} {ops : Array Oper} {o : Oper} {a : Act} {Q : Exit → Act → World → Prop} {Kc : Act → World → Prop}
namespace Kd
variable {α : Type}
end Kd
end
/-! ### 37. Results of any shape -/
inductive Vals (P : Program) (tmps : Array Value) (w : World) : List ResultVar → List Value → Prop where
  | nil : Vals P tmps w [] []
  | tmp {u : Tmp} {rs : List ResultVar} {vs : List Value} (h : Vals P tmps w rs vs) : Vals P tmps w (.tmp u :: rs) (tmps.getD u undef :: vs)
  | cell {p : Tmp} {ty : TypeId} {rs : List ResultVar} {vs : List Value} (g : Nat) (t : TypeId) (cs : Array Value) (fr : Nat × Nat) (d : TypeDesc)
      (hp : tmps.getD p undef = .pointer (some ⟨g, 0, none⟩)) (hg : w.heap[g]? = some (.cells cs t fr))
      (hu : P.underlying ty = some d) (hd : (match d with | .struct _ | .array _ _ => true | _ => false) = true) (hi : (P.info? ty).map (·.size) = some cs.size)
      (h : Vals P tmps w rs vs) : Vals P tmps w (.cell p ty :: rs) (.agg cs :: vs)
section
variable {P : Program} {tmps : Array Value} {w : World}
end
/-! ### 38. 'out = append(out[:k], out[k+1:]...)': an element taken out of a row of one's own, in place -/
namespace Kd
section
variable {P : Program} {α : Type}
end
section
variable {P : Program} {ops : Array Oper} {rest : List Oper} {o : Oper} {a : Act} {Q : Exit → Act → World → Prop} {Kc : Act → World → Prop} {α : Type}
end
end Kd

end Go.Proofs.YthkepmicdpgbbaaGreatDoorW.PrintWords

/- What each operation of the code comes to, told with values: the definitions. -/
namespace Go.Proofs.YthkepmicdpgbbaaGreatDoor.E
open Go Go.RowKit Go.Proofs.YthkepmicdpgbbaaGreatDoorW.PrintWords
set_option linter.unusedVariables false
set_option linter.unusedSimpArgs false

inductive TK where
  | bool
  | int (k : IntKind)
  | str
  | slice (e : Nat)
  | array (n e : Nat)
  | struct (fs : List (Nat × Nat))
  | ptr (e : Nat)
def TK.isAgg : TK → Bool
  | .array _ _ => true
  | .struct _ => true
  | _ => false
structure TI where
  size : Nat
  bytes : Nat
  zero : Value
  k : TK

def structOf : TypeDesc → Option (List (Nat × TypeId))
  | .struct fs => some (fs.toList.map fun f => (f.offset, f.type))
  | _ => none
def TK.is (P : Program) (t : Nat) : TK → Prop
  | .bool => P.underlying t = some .bool
  | .int k => P.underlying t = some (.int k)
  | .str => P.underlying t = some .string
  | .slice e => P.underlying t = some (.slice e)
  | .array n e => P.underlying t = some (.array n e)
  | .ptr e => P.underlying t = some (.pointer e)
  | .struct fs => ((P.underlying t).bind structOf).map (fun l => l.map fun x => (x.1, (P.info? x.2).map (·.size))) = some (fs.map fun x => (x.1, some x.2))
def TyFact (P : Program) (t : Nat) (i : TI) : Prop := (P.info? t).map (fun x => (x.size, x.bytes, x.zero)) = some (i.size, i.bytes, some i.zero) ∧ i.k.is P t ∧ i.zero.cells.size = i.size

structure Side (p K : Prop) : Prop where
  h : p
  k : K
inductive Norm (e : Nat) (x : List (List CV)) (K : List (List CV) → Prop) : Prop where
  | mk (y : List (List CV)) (h : y = x) (k : K y)
inductive ElemAt (l : List (List CV)) (e : Nat) (K : List CV → Prop) : Prop where
  | mk (el : List CV) (h : l[e]? = some el) (k : K el)
inductive IdxAt (j : Int) (n : Nat) (K : Nat → Prop) : Prop where
  | mk (i : Nat) (h : j = (i : Int)) (lt : i < n) (k : K i)
structure Br (x : Bool) (A B : Prop) : Prop where
  t : x = true → A
  f : x = false → B
structure Br2 (x want : Bool) (A B : Prop) : Prop where
  t : x = want → A
  f : x = (!want) → B
inductive LenAt (l : List (List CV)) (K : Nat → Prop) : Prop where
  | mk (n : Nat) (h : n = l.length) (k : K n)
inductive StrAt (els : List (List CV)) (K : List Int → Prop) : Prop where
  | mk (l : List Int) (h : els = l.map fun x => [.i .u8 x]) (k : K l)

def look {α : Type} : List (Nat × α) → Nat → Option α
  | [], _ => none
  | x :: r, t => cond (Nat.beq x.1 t) (some x.2) (look r t)

/-- '==' of structs: what it comes to, by the cells. -/
abbrev EqF := List PV → List PV → Option Bool
def EqFact (P : Program) (t : Nat) (f : EqF) : Prop := P.eqGuardType P.depth t = false ∧ ∀ (cs ds : List PV) (b : Bool), f cs ds = some b → ∀ (G : Gh) (w : World) (xs ys : Array Value), RepsL G w cs xs.toList → RepsL G w ds ys.toList → (Op.equal t (.agg xs) (.agg ys)).run P w = .ok b w
structure Env where
  P : Program
  mixed : P.follows .mixedOrders = true
  T : List (Nat × TI)
  ok : ∀ x ∈ T, TyFact P x.1 x.2
  Q : List (Nat × EqF)
  qok : ∀ x ∈ Q, EqFact P x.1 x.2
def lookQ : List (Nat × EqF) → Nat → Option EqF
  | [], _ => none
  | x :: r, t => cond (Nat.beq x.1 t) (some x.2) (lookQ r t)
theorem lookQ_mem : ∀ {l : List (Nat × EqF)} {t : Nat} {f : EqF}, lookQ l t = some f → (t, f) ∈ l
  | x :: r, t, f, h => by
    simp only [lookQ] at h
    cases hb : Nat.beq x.1 t with
    | true =>
      rw [hb] at h
      injection h with h
      rw [← h, ← Nat.eq_of_beq_eq_true hb]
      exact List.mem_cons_self
    | false =>
      rw [hb] at h
      exact List.mem_cons_of_mem _ (lookQ_mem h)

def nth : List PV → Nat → PV
  | [], _ => .un
  | p :: _, 0 => p
  | _ :: r, n + 1 => nth r n
def put : List PV → Nat → PV → List PV
  | [], _, _ => []
  | _ :: r, 0, q => q :: r
  | p :: r, n + 1, q => p :: put r n q
def nthB : List Blk → Nat → Option Blk
  | [], _ => none
  | b :: _, 0 => some b
  | _ :: r, n + 1 => nthB r n
def putB : List Blk → Nat → Blk → List Blk
  | [], _, _ => []
  | _ :: r, 0, q => q :: r
  | p :: r, n + 1, q => p :: putB r n q
def len {α : Type} : List α → Nat
  | [] => 0
  | _ :: r => len r + 1

def ofV1 : Value → PV
  | .bool b => .v (.b b)
  | .int k n => .v (.i k n)
  | .string s => .v (.s s)
  | .slice none 0 0 => .nil
  | _ => .un
def ofV : Value → PV
  | .agg cs => .agg (cs.toList.map ofV1)
  | v => ofV1 v
def ev (s : List PV) : Operand → PV
  | .tmp t => nth s t
  | .const v => ofV v
  | _ => .un

def cellB : PV → Bool
  | .v _ => true
  | .nil => true
  | .own _ _ => true
  | .ptr _ _ => true
  | .eptr _ _ _ _ => true
  | .rptr _ => true
  | _ => false
def cellsB : List PV → Bool
  | [] => true
  | p :: r => cellB p && cellsB r
def pcells : PV → Option (List PV)
  | .agg cs => cond (cellsB cs) (some cs) none
  | p => cond (cellB p) (some [p]) none

def Blk.freeze : Blk → Blk
  | .arr sz ty _ els => .arr sz ty true els
  | b => b
def frz1 (h : List Blk) (id : Nat) : List Blk :=
  match nthB h id with
  | some B => putB h id B.freeze
  | none => h
def frz : List Nat → List Blk → List Blk
  | [], h => h
  | id :: r, h => frz r (frz1 h id)

/-- Cells that are to lie in a row: what the code itself has made is read from then on only. -/
def toCs (h : List Blk) : List PV → (List CV → List Nat → Prop) → Prop
  | [], K => K [] []
  | .v c :: ps, K => toCs h ps fun cs f => K (c :: cs) f
  | .nil :: ps, K => toCs h ps fun cs f => K (.row [] :: cs) f
  | .own id n :: ps, K => match nthB h id with
    | some (.arr _ _ _ els) => Side (n = els.length) (toCs h ps fun cs f => K (.row els :: cs) (id :: f))
    | _ => False
  | _ :: _, _ => False

abbrev Kont := PV → List Blk → List Nat → List Nat → Prop

def putL {α : Type} (cs : List α) (o : Nat) (vs : List α) : List α := cs.take o ++ vs ++ cs.drop (o + vs.length)

def aLoad (E : Env) (h : List Blk) (t : Nat) (p : PV) (K : Kont) : Prop :=
  match look E.T t with
  | none => False
  | some i => match p with
    | .ptr id o => match nthB h id with
      | some (.box _ cs) => cond i.k.isAgg (Side (o + i.size ≤ cs.length) (K (.agg ((cs.drop o).take i.size)) h [id] [])) (Side (o < cs.length) (K (nth cs o) h [id] []))
      | _ => False
    | .eptr id n e o => match nthB h id with
      | some (.arr _ _ _ els) => Side (n = els.length) (ElemAt els e fun el =>
          cond i.k.isAgg (Side (o + i.size ≤ el.length) (K (.agg (((el.drop o).take i.size).map .v)) h [id] [])) (match el.drop o with
            | c :: _ => K (.v c) h [id] []
            | [] => False))
      | _ => False
    | .rptr cs => cond i.k.isAgg (Side (0 < i.size ∧ i.size ≤ cs.length) (K (.agg ((cs.take i.size).map .v)) h [] [])) (match cs with
        | c :: _ => K (.v c) h [] []
        | [] => False)
    | _ => False

def aStore (E : Env) (h : List Blk) (t : Nat) (p x : PV) (K : Kont) : Prop :=
  match look E.T t, pcells x with
  | some i, some vs => match p with
    | .ptr id o => match nthB h id with
      | some (.box ty cs) => Side (vs.length = i.size) (Side (o + i.size ≤ cs.length) (K .un (putB h id (.box ty (putL cs o vs))) [] [id]))
      | _ => False
    | .eptr id n e o => match nthB h id with
      | some (.arr sz ty false els) => toCs h vs fun cvs f => Side (vs.length = i.size) (Side (f.contains id = false) (Side (n = els.length)
          (ElemAt els e fun el => Side (o + i.size ≤ sz) (Norm ty (els.set e (putL el o cvs)) fun els' => K .un (putB (frz f h) id (.arr sz ty false els')) [] (id :: f)))))
      | _ => False
    | _ => False
  | _, _ => False

def aAlloc (E : Env) (h : List Blk) (t : Nat) (K : Kont) : Prop :=
  match look E.T t with
  | some i => match pcells (ofV i.zero) with
    | some cs => K (.ptr (len h) 0) (h ++ [.box t cs]) [] [len h]
    | none => False
  | none => False
def aBox (h : List Blk) (t : Nat) (x : PV) (K : Kont) : Prop :=
  match pcells x with
  | some cs => K (.ptr (len h) 0) (h ++ [.box t cs]) [] [len h]
  | none => False

def fillP (pl : Nat → Option (Nat × Nat)) (cs : List PV) : List (Nat × PV) → Option (List PV)
  | [] => some cs
  | x :: r => match pl x.1, pcells x.2 with
    | some q, some vs => cond (Nat.beq (len vs) q.2 && Nat.ble (q.1 + len vs) (len cs)) (fillP pl (putL cs q.1 vs) r) none
    | _, _ => none
def nthF : List (Nat × Nat) → Nat → Option (Nat × Nat)
  | [], _ => none
  | x :: _, 0 => some x
  | _ :: r, n + 1 => nthF r n
def aBuild (E : Env) (h : List Blk) (t : Nat) (parts : List (Nat × PV)) (K : Kont) : Prop :=
  match look E.T t with
  | some i => match pcells (ofV i.zero) with
    | some z => match (match i.k with
        | .struct fs => fillP (nthF fs) z parts
        | .array _ e => (match parts, look E.T e with
          | [], some _ => some z
          | _, _ => none)
        | _ => none) with
      | some cs => K (.agg cs) h [] []
      | none => False
    | none => False
  | none => False

def zeros (z : List PV) : Nat → List PV
  | 0 => []
  | n + 1 => z ++ zeros z n
def chunks {α : Type} (sz : Nat) : Nat → List α → List (List α)
  | 0, _ => []
  | n + 1, l => l.take sz :: chunks sz n (l.drop sz)
def aBuildSlice (E : Env) (h : List Blk) (t n : Nat) (parts : List (Nat × PV)) (K : Kont) : Prop :=
  match look E.T t with
  | some i => match i.k with
    | .slice e => match look E.T e with
      | some j => match pcells (ofV j.zero) with
        | some z => match fillP (fun q => some (q * j.size, j.size)) (zeros z n) parts with
          | some cs => toCs h cs fun cvs f => Side (n * j.size ≤ 16777216) (Side (0 < j.size) (Norm e (chunks j.size n cvs) fun els => K (.own (len h) els.length) (frz f h ++ [.arr j.size e false els]) [] (len h :: f)))
          | none => False
        | none => False
      | none => False
    | _ => False
  | none => False

/-- What a slice holds. -/
def rowOf (h : List Blk) (p : PV) (K : List (List CV) → List Nat → Prop) : Prop :=
  match p with
  | .v (.row l) => K l []
  | .nil => K [] []
  | .own id n => match nthB h id with
    | some (.arr _ _ _ els) => Side (n = els.length) (K els [id])
    | _ => False
  | _ => False

def aSrc (h : List Blk) (sz t t2 : Nat) (k2 : TK) (q : PV) (G : List (List CV) → List Nat → Prop) : Prop :=
  match k2, q with
  | .str, .v (.s x) => Side (sz = 1) (G ((bytesOf x).map fun b => [.i .u8 b]) [])
  | .slice _, q => Side (t2 = t) (rowOf h q G)
  | _, _ => False

def aAppend (E : Env) (h : List Blk) (t t2 : Nat) (p q : PV) (K : Kont) : Prop :=
  match look E.T t, look E.T t2 with
  | some i, some i2 => match i.k with
    | .slice e => match look E.T e with
      | some j => aSrc h j.size t t2 i2.k q fun els2 rd => Side (0 < j.size) (Side (∀ x ∈ els2, x.length = j.size) (match p with
          | .own id n => match nthB h id with
            | some (.arr sz ty false els) => Side (n = els.length) (Side (ty = e) (Side (sz = j.size) (Norm e (els ++ els2) fun els' => Side (els'.length * j.bytes ≤ 140737488355328) (Side (els'.length ≤ maxLen)
                (K (.own id els'.length) (putB h id (.arr sz ty false els')) rd [id])))))
            | _ => False
          | .nil => Side (els2.length * j.bytes ≤ 140737488355328) (Side (els2.length ≤ maxLen) (K (.own (len h) els2.length) (h ++ [.arr j.size e false els2]) rd [len h]))
          | _ => False))
      | none => False
    | _ => False
  | _, _ => False

def aLen (E : Env) (t : Nat) (h : List Blk) (p : PV) (K : Kont) : Prop :=
  match look E.T t with
  | some i => match i.k, p with
    | .slice _, .own id n => (match nthB h id with
      | some (.arr _ _ _ els) => Side (n = els.length) (LenAt els fun n => K (.v (.i .i64 n)) h [id] [])
      | _ => False)
    | .slice _, .v (.row l) => LenAt l fun n => K (.v (.i .i64 n)) h [] []
    | .slice _, .nil => K (.v (.i .i64 0)) h [] []
    | .str, .v (.s x) => K (.v (.i .i64 x.size)) h [] []
    | _, _ => False
  | none => False

def aIndexAddr (E : Env) (h : List Blk) (t : Nat) (p x : PV) (K : Kont) : Prop :=
  match look E.T t, x with
  | some i, .v (.i _ j) => match i.k with
    | .slice e => match look E.T e with
      | some y => match p with
        | .own id n => match nthB h id with
          | some (.arr sz _ _ els) => Side (sz = y.size) (Side (0 ≤ j) (Side (j < (n : Int)) (Side (n = els.length) (K (.eptr id n j.toNat 0) h [id] []))))
          | _ => False
        | .v (.row l) => Side (0 ≤ j) (ElemAt l j.toNat fun el => Side (el.length = y.size) (K (.rptr el) h [] []))
        | _ => False
      | none => False
    | .array n e => match look E.T e, p with
      | some y, .ptr id o => (match nthB h id with
        | some (.box _ _) => IdxAt j n fun i => K (.ptr id (o + i * y.size)) h [id] []
        | _ => False)
      | _, _ => False
    | _ => False
  | _, _ => False

def aFieldAddr (E : Env) (h : List Blk) (t : Nat) (p : PV) (f : Nat) (K : Kont) : Prop :=
  match look E.T t with
  | some i => match i.k with
    | .struct fs => match nthF fs f with
      | some q => Side (0 < q.2) (match p with
        | .ptr id o => (match nthB h id with
          | some (.box _ _) => K (.ptr id (o + q.1)) h [id] []
          | _ => False)
        | .eptr id n e o => (match nthB h id with
          | some (.arr _ _ _ els) => Side (n = els.length) (Side (e < n) (K (.eptr id n e (o + q.1)) h [id] []))
          | _ => False)
        | .rptr cs => K (.rptr (cs.drop q.1)) h [] []
        | _ => False)
      | none => False
    | _ => False
  | none => False

def aIndex (E : Env) (h : List Blk) (t : Nat) (p x : PV) (K : Kont) : Prop :=
  match look E.T t with
  | some i => match i.k, p, x with
    | .str, .v (.s y), .v (.i _ j) => Side (0 ≤ j) (Side (j < (y.size : Int)) (K (.v (.i .u8 (bt y j))) h [] []))
    | _, _, _ => False
  | none => False

def wr : IntKind → Int → Int
  | .i64, n => wrap64 n
  | .u8, n => n % 256
  | k, n => k.wrap n

def wrK (k : IntKind) (n : Int) (K : Int → Prop) : Prop :=
  match k with
  | .i64 => K (wrap64 n)
  | .u8 => K (n % 256)
  | k => K (k.wrap n)
theorem wrK_eq (k : IntKind) (n : Int) (K : Int → Prop) : wrK k n K = K (wr k n) := by cases k <;> rfl
def p2 (y : Int) : Int := ((2 ^ y.toNat : Nat) : Int)

def aBin (h : List Blk) (op : BinOp) (p q : PV) (K : Kont) : Prop :=
  match p, q with
  | .v (.i k x), .v (.i k' y) => match op with
    | .add => Side (k = k') (wrK k (x + y) fun n => K (.v (.i k n)) h [] [])
    | .sub => Side (k = k') (wrK k (x - y) fun n => K (.v (.i k n)) h [] [])
    | .mul => Side (k = k') (wrK k (x * y) fun n => K (.v (.i k n)) h [] [])
    | .quo => Side (k = k') (Side (y ≠ 0) (wrK k (x.tdiv y) fun n => K (.v (.i k n)) h [] []))
    | .rem => Side (k = k') (Side (y ≠ 0) (K (.v (.i k (x.tmod y))) h [] []))
    | .and => Side (k = k') (K (.v (.i k (bits .and k x y))) h [] [])
    | .or => Side (k = k') (K (.v (.i k (bits .or k x y))) h [] [])
    | .xor => Side (k = k') (K (.v (.i k (bits .xor k x y))) h [] [])
    | .shl => Side (0 ≤ y) (Side (y ≤ k.bits) (wrK k (x * p2 y) fun n => K (.v (.i k n)) h [] []))
    | .shr => Side (0 ≤ y) (Side (y ≤ k.bits) (K (.v (.i k (x / p2 y))) h [] []))
    | .eql => Side (k = k') (K (.v (.b (x == y))) h [] [])
    | .neq => Side (k = k') (K (.v (.b (x != y))) h [] [])
    | .lss => Side (k = k') (K (.v (.b (decide (x < y)))) h [] [])
    | .leq => Side (k = k') (K (.v (.b (decide (x ≤ y)))) h [] [])
    | .gtr => Side (k = k') (K (.v (.b (decide (x > y)))) h [] [])
    | .geq => Side (k = k') (K (.v (.b (decide (x ≥ y)))) h [] [])
    | _ => False
  | .v (.s x), .v (.s y) => match op with
    | .add => Side ((x.size + y.size : Int) ≤ 9223372036854775807) (K (.v (.s (x ++ y))) h [] [])
    | .eql => K (.v (.b (x.toList == y.toList))) h [] []
    | .neq => K (.v (.b (!(x.toList == y.toList)))) h [] []
    | _ => False
  | _, _ => False

def aEq (E : Env) (h : List Blk) (op : BinOp) (t : Nat) (cs ds : List PV) (K : Kont) : Prop :=
  match lookQ E.Q t with
  | some f => match f cs ds with
    | some b => (match op with
      | .eql => K (.v (.b b)) h [] []
      | .neq => K (.v (.b (!b))) h [] []
      | _ => False)
    | none => False
  | none => False
def aBinT (E : Env) (h : List Blk) (op : BinOp) (t : Nat) (p q : PV) (K : Kont) : Prop :=
  match p, q with
  | .agg cs, .agg ds => aEq E h op t cs ds K
  | .v (.b x), .v (.b y) => (match look E.T t with
    | some i => match i.k, op with
      | .bool, .eql => K (.v (.b (x == y))) h [] []
      | .bool, .neq => K (.v (.b (x != y))) h [] []
      | _, _ => False
    | none => False)
  | p, q => aBin h op p q K

def aUn (h : List Blk) (op : UnOp) (p : PV) (K : Kont) : Prop :=
  match op, p with
  | .not, .v (.b x) => K (.v (.b (!x))) h [] []
  | .neg, .v (.i k x) => wrK k (-x) fun n => K (.v (.i k n)) h [] []
  | _, _ => False

def aPick (h : List Blk) (c p q : PV) (K : Kont) : Prop :=
  match c with
  | .v (.b x) => match p, q with
    | .v (.b y), .v (.b z) => K (.v (.b (cond x y z))) h [] []
    | p, q => Br x (K p h [] []) (K q h [] [])
  | _ => False

def numsOf : List (List CV) → Option (List Int)
  | [] => some []
  | [.i .u8 x] :: r => (numsOf r).map (x :: ·)
  | _ :: _ => none

def aConvert (E : Env) (h : List Blk) (t u : Nat) (p : PV) (K : Kont) : Prop :=
  match look E.T t, look E.T u with
  | some i, some j => match i.k, j.k, p with
    | .int _, .int k, .v (.i _ n) => wrK k n fun n => K (.v (.i k n)) h [] []
    | .slice e, .str, p => (match look E.T e with
      | some y => (match y.k with
        | .int .u8 => rowOf h p fun els rd => StrAt els fun l => K (.v (.s (strOfNums l))) h rd []
        | _ => False)
      | none => False)
    | _, _, _ => False
  | _, _ => False

def aMakeSlice (E : Env) (h : List Blk) (t : Nat) (p q : PV) (K : Kont) : Prop :=
  match look E.T t, p, q with
  | some i, .v (.i _ n), .v (.i _ c) => match i.k with
    | .slice e => match look E.T e with
      | some j => match pcells (ofV j.zero) with
        | some z => toCs h z fun cvs f => Side (f = []) (Side (n = c) (Side (0 ≤ n) (Side ((j.bytes : Int) * n ≤ 281474976710656) (Side (n ≤ 9223372036854775807) (Side (0 < j.size) (Side (j.size = z.length) (Norm e (List.replicate n.toNat cvs) fun els => K (.own (len h) els.length) (h ++ [.arr j.size e false els]) [] [len h])))))))
        | none => False
      | none => False
    | _ => False
  | _, _, _ => False

def optI : Option PV → Int → Option Int
  | none, d => some d
  | some (.v (.i _ x)), _ => some x
  | _, _ => none
def aSlice (E : Env) (h : List Blk) (t : Nat) (p : PV) (lo hi : Option PV) (K : Kont) : Prop :=
  match look E.T t with
  | some i => match i.k, p with
    | .str, .v (.s x) => (match optI lo 0, optI hi x.size with
      | some l, some r => Side (0 ≤ l) (Side (l ≤ r) (Side (r ≤ (x.size : Int)) (K (.v (.s (x.extract l.toNat r.toNat))) h [] [])))
      | _, _ => False)
    | .slice e, .v (.row xs) => (match look E.T e, optI lo 0, optI hi xs.length with
      | some j, some l, some r => Side (∀ x ∈ xs, x.length = j.size) (Side (0 ≤ l) (Side (l ≤ r) (Side (r ≤ (xs.length : Int)) (Norm e ((xs.take r.toNat).drop l.toNat) fun ys => K (.v (.row ys)) h [] []))))
      | _, _, _ => False)
    | .slice e, .own id n => (match look E.T e, optI lo 0, optI hi n, nthB h id with
      | some j, some l, some r, some (.arr sz ty fz els) => Side (n = els.length) (Side (sz = j.size) (Side (0 ≤ l) (Side (l ≤ r) (Side (r ≤ (n : Int)) (Norm e ((els.take r.toNat).drop l.toNat) fun ys => K (.v (.row ys)) (frz [id] h) [] [id])))))
      | _, _, _, _ => False)
    | _, _ => False
  | none => False

def aExtract (h : List Blk) (p : PV) (n : Nat) (K : Kont) : Prop :=
  match p with
  | .tup vs => Side (n < vs.length) (K (nth vs n) h [] [])
  | _ => False
def aNilCheck (h : List Blk) (p : PV) (K : Kont) : Prop :=
  match p with
  | .ptr id o => (match nthB h id with
    | some (.box _ _) => K p h [id] []
    | _ => False)
  | .rptr _ => K p h [] []
  | _ => False
end Go.Proofs.YthkepmicdpgbbaaGreatDoor.E

/- Lemmas on lists of values, and on the types' table. -/
namespace Go.Proofs.YthkepmicdpgbbaaGreatDoor.E
open Go Go.RowKit Go.Proofs.YthkepmicdpgbbaaGreatDoorW.PrintWords
set_option linter.unusedVariables false
set_option linter.unusedSimpArgs false

theorem len_eq {α : Type} : ∀ (l : List α), len l = l.length
  | [] => rfl
  | _ :: r => by simp [len, len_eq r]

section
variable {G : Gh} {w : World} {I : Nat → Prop}

theorem RepsL.length : ∀ {l : List PV} {vs : List Value}, RepsL G w l vs → vs.length = l.length
  | [], vs, h => by simp only [RepsL] at h; simp [h]
  | p :: ps, vs, h => by
    simp only [RepsL] at h
    obtain ⟨v, vs', rfl, _, h2⟩ := h
    simp [RepsL.length h2]
theorem RepsL.drop : ∀ {l : List PV} {vs : List Value} (n : Nat), RepsL G w l vs → RepsL G w (l.drop n) (vs.drop n)
  | _, _, 0, h => by simpa using h
  | [], vs, n + 1, h => by
    simp only [RepsL] at h
    subst h
    simp [RepsL]
  | p :: ps, vs, n + 1, h => by
    simp only [RepsL] at h
    obtain ⟨v, vs', rfl, _, h2⟩ := h
    simpa using RepsL.drop n h2
theorem RepsL.take : ∀ {l : List PV} {vs : List Value} (n : Nat), RepsL G w l vs → RepsL G w (l.take n) (vs.take n)
  | _, _, 0, h => by simp [RepsL]
  | [], vs, n + 1, h => by
    simp only [RepsL] at h
    subst h
    simp [RepsL]
  | p :: ps, vs, n + 1, h => by
    simp only [RepsL] at h
    obtain ⟨v, vs', rfl, h1, h2⟩ := h
    simp only [List.take_succ_cons, RepsL]
    exact ⟨v, _, rfl, h1, RepsL.take n h2⟩
theorem RepsL.append : ∀ {l k : List PV} {vs us : List Value}, RepsL G w l vs → RepsL G w k us → RepsL G w (l ++ k) (vs ++ us)
  | [], k, vs, us, h, h' => by
    simp only [RepsL] at h
    subst h
    simpa using h'
  | p :: ps, k, vs, us, h, h' => by
    simp only [RepsL] at h
    obtain ⟨v, vs', rfl, h1, h2⟩ := h
    simp only [List.cons_append, RepsL]
    exact ⟨v, _, rfl, h1, RepsL.append h2 h'⟩
theorem RepsL.nth : ∀ {l : List PV} {vs : List Value} (n : Nat), RepsL G w l vs → n < l.length → ∃ v, vs[n]? = some v ∧ Reps G w (E.nth l n) v
  | [], vs, n, h, hn => by simp at hn
  | p :: ps, vs, 0, h, _ => by
    simp only [RepsL] at h
    obtain ⟨v, vs', rfl, h1, _⟩ := h
    exact ⟨v, rfl, h1⟩
  | p :: ps, vs, n + 1, h, hn => by
    simp only [RepsL] at h
    obtain ⟨v, vs', rfl, _, h2⟩ := h
    simpa [E.nth] using RepsL.nth n h2 (by simpa using hn)

theorem RepP.drop : ∀ {l : List CV} {vs : List Value} (n : Nat), RepP I w l vs → RepP I w (l.drop n) (vs.drop n)
  | _, _, 0, h => by simpa using h
  | [], vs, n + 1, h => by simp [RepP]
  | p :: ps, vs, n + 1, h => by
    simp only [RepP] at h
    obtain ⟨v, vs', rfl, _, h2⟩ := h
    simpa using RepP.drop n h2
theorem RepP.len : ∀ {l : List CV} {vs : List Value}, RepP I w l vs → l.length ≤ vs.length
  | [], vs, h => by simp
  | p :: ps, vs, h => by
    simp only [RepP] at h
    obtain ⟨v, vs', rfl, _, h2⟩ := h
    have := RepP.len h2
    simp
    omega
theorem RepP.all : ∀ {l : List CV} {vs : List Value}, RepP G.imm w l vs → RepsL G w (l.map .v) (vs.take l.length)
  | [], vs, h => by simp [RepsL]
  | p :: ps, vs, h => by
    simp only [RepP] at h
    obtain ⟨v, vs', rfl, h1, h2⟩ := h
    simp only [List.map_cons, List.length_cons, List.take_succ_cons, RepsL, Reps]
    exact ⟨v, _, rfl, h1, RepP.all h2⟩
theorem RepP.take : ∀ {l : List CV} {vs : List Value} (n : Nat), RepP I w l vs → RepP I w (l.take n) (vs.take n)
  | _, _, 0, h => by simp [RepP]
  | [], vs, n + 1, h => by simp [RepP]
  | p :: ps, vs, n + 1, h => by
    simp only [RepP] at h
    obtain ⟨v, vs', rfl, h1, h2⟩ := h
    simp only [List.take_succ_cons, RepP]
    exact ⟨v, _, rfl, h1, RepP.take n h2⟩
theorem RepP.of_take : ∀ {l : List CV} {vs : List Value} (n : Nat), RepP I w l (vs.take n) → RepP I w l vs
  | [], vs, n, h => by simp [RepP]
  | p :: ps, [], n, h => by simp [RepP] at h
  | p :: ps, v :: vs, 0, h => by simp [RepP] at h
  | p :: ps, v :: vs, n + 1, h => by
    simp only [List.take_succ_cons, RepP] at h
    obtain ⟨u, us, h0, h1, h2⟩ := h
    injection h0 with e1 e2
    subst e1 e2
    simp only [RepP]
    exact ⟨v, vs, rfl, h1, RepP.of_take n h2⟩
theorem RepP.append : ∀ {l k : List CV} {vs us : List Value}, RepP I w l vs → vs.length = l.length → RepP I w k us → RepP I w (l ++ k) (vs ++ us)
  | [], k, vs, us, _, hl, h' => by
    have : vs = [] := List.eq_nil_of_length_eq_zero hl
    subst this
    simpa using h'
  | p :: ps, k, vs, us, h, hl, h' => by
    simp only [RepP] at h
    obtain ⟨v, vs', rfl, h1, h2⟩ := h
    simp only [List.cons_append, RepP]
    exact ⟨v, _, rfl, h1, RepP.append h2 (by simpa using hl) h'⟩

theorem RepE.at {sz : Nat} : ∀ {l : List (List CV)} {vs : List Value} (e : Nat) (el : List CV), RepE I w sz l vs → l[e]? = some el → el.length = sz ∧ RepP I w el (vs.drop (e * sz))
  | [], vs, e, el, h, h' => by simp at h'
  | x :: xs, vs, 0, el, h, h' => by
    simp only [RepE] at h
    simp at h'
    subst h'
    simpa using ⟨h.1, h.2.1⟩
  | x :: xs, vs, e + 1, el, h, h' => by
    simp only [RepE] at h
    obtain ⟨a, b⟩ := RepE.at e el h.2.2 (by simpa using h')
    refine ⟨a, ?_⟩
    rw [List.drop_drop] at b
    rw [Nat.add_mul, Nat.one_mul, Nat.add_comm]
    exact b
theorem RepE.size {sz : Nat} : ∀ {l : List (List CV)} {vs : List Value}, RepE I w sz l vs → ∀ x ∈ l, x.length = sz
  | [], _, _, x, hx => by cases hx
  | y :: ys, vs, h, x, hx => by
    simp only [RepE] at h
    rcases List.mem_cons.1 hx with rfl | hx
    · exact h.1
    · exact RepE.size h.2.2 x hx
theorem RepE.mk {sz : Nat} : ∀ {l : List (List CV)} {vs : List Value}, (∀ e el, l[e]? = some el → el.length = sz ∧ RepP I w el (vs.drop (e * sz))) → RepE I w sz l vs
  | [], vs, h => by simp [RepE]
  | x :: xs, vs, h => by
    simp only [RepE]
    have h0 := h 0 x (by simp)
    refine ⟨h0.1, by simpa using h0.2, RepE.mk fun e el he => ?_⟩
    have h1 := h (e + 1) el (by simpa using he)
    refine ⟨h1.1, ?_⟩
    rw [List.drop_drop, Nat.add_comm, ← Nat.succ_mul]
    exact h1.2
theorem RepE.drop {sz : Nat} : ∀ {l : List (List CV)} {vs : List Value} (n : Nat), RepE I w sz l vs → RepE I w sz (l.drop n) (vs.drop (n * sz))
  | _, _, 0, h => by simpa using h
  | [], vs, n + 1, h => by simp [RepE]
  | x :: xs, vs, n + 1, h => by
    simp only [RepE] at h
    have := RepE.drop n h.2.2
    rw [List.drop_drop, Nat.add_comm] at this
    rw [Nat.add_mul, Nat.one_mul]
    simpa using this
theorem RepE.take {sz : Nat} : ∀ {l : List (List CV)} {vs : List Value} (n : Nat), RepE I w sz l vs → RepE I w sz (l.take n) vs
  | _, _, 0, h => by simp [RepE]
  | [], vs, n + 1, h => by simp [RepE]
  | x :: xs, vs, n + 1, h => by
    simp only [RepE] at h
    simp only [List.take_succ_cons, RepE]
    exact ⟨h.1, h.2.1, RepE.take n h.2.2⟩
theorem RepE.of_take {sz : Nat} {l : List (List CV)} {vs : List Value} (n : Nat) (h : RepE I w sz l (vs.take n)) : RepE I w sz l vs :=
  RepE.mk fun e el he => by
    obtain ⟨a, b⟩ := h.at e el he
    rw [List.drop_take] at b
    exact ⟨a, b.of_take _⟩
theorem RepE.len {sz : Nat} (hs : 0 < sz) : ∀ {l : List (List CV)} {vs : List Value}, RepE I w sz l vs → l.length * sz ≤ vs.length
  | [], vs, h => by simp
  | x :: xs, vs, h => by
    simp only [RepE] at h
    have h1 := RepE.len hs h.2.2
    have h2 := h.2.1.len
    rw [List.length_drop] at h1
    rw [List.length_cons, Nat.add_mul, Nat.one_mul]
    omega
theorem RepE.keep {sz : Nat} {l : List (List CV)} {vs us : List Value} (h : RepE I w sz l vs) (n : Nat) (hn : l.length * sz ≤ n) (hu : us.take n = vs.take n) : RepE I w sz l us := by
  refine RepE.mk fun e el he => ?_
  obtain ⟨a, b⟩ := h.at e el he
  have hlt : e < l.length := (List.getElem?_eq_some_iff.1 he).1
  have h1 : RepP I w el (us.drop (e * sz)) := by
    have h2 := RepP.take el.length b
    rw [List.take_length] at h2
    have hm : e * sz + sz ≤ n := Nat.le_trans (by rw [← Nat.succ_mul]; exact Nat.mul_le_mul_right _ hlt) hn
    have e1 : (vs.drop (e * sz)).take el.length = (us.drop (e * sz)).take el.length := by
      rw [a]
      have : ∀ zs : List Value, (zs.drop (e * sz)).take sz = ((zs.take n).drop (e * sz)).take sz := fun zs => by
        rw [List.drop_take, List.take_take, Nat.min_eq_left (by omega)]
      rw [this vs, this us, hu]
    rw [e1] at h2
    exact h2.of_take _
  exact ⟨a, h1⟩
end

section
variable {E : Env} {t : Nat} {i : TI}
theorem look_mem {α : Type} : ∀ {l : List (Nat × α)} {t : Nat} {x : α}, look l t = some x → (t, x) ∈ l
  | [], t, x, h => by cases h
  | y :: r, t, x, h => by
    unfold look at h
    cases hb : Nat.beq y.1 t with
    | true =>
      rw [hb] at h
      injection h with h
      have := Nat.eq_of_beq_eq_true hb
      subst h this
      simp
    | false =>
      rw [hb] at h
      exact List.mem_cons_of_mem _ (look_mem h)
theorem Env.fact (h : look E.T t = some i) : TyFact E.P t i := E.ok _ (look_mem h)
theorem TyFact.info {P : Program} (h : TyFact P t i) : ∃ x, P.info? t = some x ∧ x.size = i.size ∧ x.bytes = i.bytes ∧ x.zero = some i.zero := by
  have h1 := h.1
  cases hx : P.info? t with
  | none => rw [hx] at h1; cases h1
  | some x =>
    rw [hx] at h1
    simp only [Option.map_some, Option.some.injEq, Prod.mk.injEq] at h1
    exact ⟨x, rfl, h1.1, h1.2.1, h1.2.2⟩
theorem TyFact.sizeOf {P : Program} (h : TyFact P t i) (w : World) : (sizeOf t).run P w = .ok i.size w := by
  obtain ⟨x, h1, h2, _, _⟩ := h.info
  simp [Go.sizeOf, typeInfo, h1, h2]
theorem TyFact.isAgg {P : Program} (h : TyFact P t i) (w : World) : (isAgg t).run P w = .ok i.k.isAgg w := by
  have h2 := h.2.1
  unfold Go.isAgg
  cases hk : i.k with
  | struct fs =>
    rw [hk] at h2
    simp only [TK.is] at h2
    cases hu : P.underlying t with
    | none => rw [hu] at h2; cases h2
    | some d =>
      rw [hu] at h2
      cases d <;> first | cases h2 | simp [run_underlying hu, TK.isAgg]
  | _ =>
    rw [hk] at h2
    simp only [TK.is] at h2
    simp [run_underlying h2, TK.isAgg]
theorem TyFact.zeroOf {P : Program} (h : TyFact P t i) (w : World) : (zeroValue t).run P w = .ok i.zero w := by
  obtain ⟨x, h1, _, _, h2⟩ := h.info
  simp [zeroValue, typeInfo, h1, h2]
theorem nthF_map {α : Type} (P : Program) : ∀ (fs : List (Nat × Nat)) (l : List (Nat × TypeId)) (f : Nat) (q : Nat × Nat), l.map (fun x => (x.1, (P.info? x.2).map (·.size))) = fs.map (fun x => (x.1, some x.2)) → nthF fs f = some q →
    ∃ x, l[f]? = some x ∧ x.1 = q.1 ∧ (P.info? x.2).map (·.size) = some q.2
  | [], l, f, q, h, hq => by cases hq
  | y :: fs, [], f, q, h, hq => by simp at h
  | y :: fs, x :: l, 0, q, h, hq => by
    simp only [List.map_cons, List.cons.injEq, Prod.mk.injEq] at h
    simp only [nthF, Option.some.injEq] at hq
    subst hq
    exact ⟨x, rfl, h.1.1, h.1.2⟩
  | y :: fs, x :: l, f + 1, q, h, hq => by
    simp only [List.map_cons, List.cons.injEq] at h
    obtain ⟨z, h1, h2⟩ := nthF_map (α := α) P fs l f q h.2 (by simpa [nthF] using hq)
    exact ⟨z, by simpa using h1, h2⟩
theorem TyFact.struct {P : Program} {fs : List (Nat × Nat)} (h : TyFact P t i) (hk : i.k = .struct fs) : ∃ fields : Array Field, P.underlying t = some (.struct fields) ∧
    (fields.toList.map fun f => (f.offset, f.type)).map (fun x => (x.1, (P.info? x.2).map (·.size))) = fs.map (fun x => (x.1, some x.2)) := by
  have h2 := h.2.1
  rw [hk] at h2
  simp only [TK.is] at h2
  cases hu : P.underlying t with
  | none => rw [hu] at h2; cases h2
  | some d =>
    rw [hu] at h2
    cases d <;> first | cases h2 | skip
    rename_i fields
    refine ⟨fields, rfl, ?_⟩
    simpa only [Option.bind_some, structOf, Option.map_some, Option.some.injEq] using h2
end
end Go.Proofs.YthkepmicdpgbbaaGreatDoor.E

/- Each operation comes to what is told of it: loads, stores, new variables, and what only computes. -/
namespace Go.Proofs.YthkepmicdpgbbaaGreatDoor.E
open Go Go.RowKit Go.Proofs.YthkepmicdpgbbaaGreatDoorW.PrintWords
set_option linter.unusedVariables false
set_option linter.unusedSimpArgs false

def Keeps (h h' : List Blk) (wr : List Nat) : Prop := ∀ id, id ∉ wr → nthB h' id = nthB h id

def Step (P : Program) (h : List Blk) (s : Gh → World → Sem Value → Prop) (K : Kont) : Prop :=
  ∃ q h' rd wr, K q h' rd wr ∧ Keeps h h' wr ∧ len h ≤ len h' ∧ ∀ G w m, Inv G w → s G w m → (∀ id, id ∈ rd ∨ id ∈ wr → RelB G w id (nthB h id)) →
    ∃ u w' G', m.run P w = .ok u w' ∧ Ext wr G w G' w' ∧ Reps G' w' q u ∧ ∀ id ∈ wr, RelB G' w' id (nthB h' id)

section
variable {E : Env} {h : List Blk} {K : Kont} {s : Gh → World → Sem Value → Prop}

theorem Step.reads {P : Program} {q : PV} {rd : List Nat} (hk : K q h rd []) (hs : ∀ G w m, Inv G w → s G w m → (∀ id, id ∈ rd → RelB G w id (nthB h id)) → ∃ u, m.run P w = .ok u w ∧ Reps G w q u) : Step P h s K :=
  ⟨q, h, rd, [], hk, fun _ _ => rfl, Nat.le_refl _, fun G w m hi hm hr => by
    obtain ⟨u, h1, h2⟩ := hs G w m hi hm (fun id hid => hr id (.inl hid))
    exact ⟨u, w, G, h1, Ext.refl hi [], h2, fun id hid => by cases hid⟩⟩
theorem Step.pure {P : Program} {q : PV} (hk : K q h [] []) (hs : ∀ G w m, Inv G w → s G w m → ∃ u, m.run P w = .ok u w ∧ Reps G w q u) : Step P h s K :=
  Step.reads (rd := []) hk fun G w m hi hm _ => hs G w m hi hm

/-- An operation that only reads. -/
def RStep (P : Program) (h : List Blk) (s : Gh → World → Sem Value → Prop) (K : Kont) : Prop :=
  ∃ q rd, K q h rd [] ∧ ∀ G w m, Inv G w → s G w m → (∀ id, id ∈ rd → RelB G w id (nthB h id)) → ∃ u, m.run P w = .ok u w ∧ Reps G w q u
theorem RStep.step {P : Program} (r : RStep P h s K) : Step P h s K := by
  obtain ⟨q, rd, h1, h2⟩ := r
  exact Step.reads h1 h2
theorem RStep.reads {P : Program} {q : PV} {rd : List Nat} (hk : K q h rd []) (hs : ∀ G w m, Inv G w → s G w m → (∀ id, id ∈ rd → RelB G w id (nthB h id)) → ∃ u, m.run P w = .ok u w ∧ Reps G w q u) : RStep P h s K := ⟨q, rd, hk, hs⟩
theorem RStep.pure {P : Program} {q : PV} (hk : K q h [] []) (hs : ∀ G w m, Inv G w → s G w m → ∃ u, m.run P w = .ok u w ∧ Reps G w q u) : RStep P h s K := ⟨q, [], hk, fun G w m hi hm _ => hs G w m hi hm⟩

theorem nthB_append (h k : List Blk) : ∀ id, id < len h → nthB (h ++ k) id = nthB h id := by
  induction h with
  | nil => intro id hid; simp [len] at hid
  | cons b r ih =>
    intro id hid
    cases id with
    | zero => rfl
    | succ n => simpa [nthB] using ih n (by simpa [len] using hid)
theorem nthB_ge : ∀ (h : List Blk) (id : Nat), len h ≤ id → nthB h id = none
  | [], _, _ => rfl
  | b :: r, 0, hid => by simp [len] at hid
  | b :: r, n + 1, hid => nthB_ge r n (by simpa [len] using hid)
theorem nthB_new (b : Blk) (k : List Blk) : ∀ h : List Blk, nthB (h ++ b :: k) (len h) = some b
  | [] => rfl
  | _ :: r => nthB_new b k r
theorem len_append (h k : List Blk) : len (h ++ k) = len h + len k := by rw [len_eq, len_eq, len_eq, List.length_append]
theorem nthB_lt : ∀ {h : List Blk} {id : Nat} {B : Blk}, nthB h id = some B → id < len h
  | [], _, _, e => by cases e
  | _ :: _, 0, _, _ => by simp [len]
  | _ :: r, n + 1, B, e => by
    have := nthB_lt (h := r) (id := n) e
    simp only [len]
    omega
theorem nthB_push (h : List Blk) (b : Blk) (id : Nat) (hn : id ≠ len h) : nthB (h ++ [b]) id = nthB h id := by
  by_cases hl : id < len h
  · exact nthB_append h [b] id hl
  · rw [nthB_ge h id (by omega), nthB_ge]
    rw [len_append]
    simp [len]
    omega
theorem nthB_putB_same : ∀ {h : List Blk} {id : Nat} {B : Blk} (C : Blk), nthB h id = some B → nthB (putB h id C) id = some C
  | [], _, _, _, e => by cases e
  | _ :: _, 0, _, _, _ => rfl
  | _ :: r, n + 1, B, C, e => nthB_putB_same (h := r) (id := n) C e
theorem nthB_putB_ne : ∀ (h : List Blk) (id j : Nat) (C : Blk), j ≠ id → nthB (putB h id C) j = nthB h j
  | [], _, _, _, _ => rfl
  | _ :: _, 0, 0, _, e => absurd rfl e
  | _ :: _, 0, _ + 1, _, _ => rfl
  | _ :: _, _ + 1, 0, _, _ => rfl
  | _ :: r, n + 1, j + 1, C, e => nthB_putB_ne r n j C (by omega)
theorem len_putB : ∀ (h : List Blk) (id : Nat) (C : Blk), len (putB h id C) = len h
  | [], _, _ => rfl
  | _ :: _, 0, _ => rfl
  | _ :: r, n + 1, C => by simp [putB, len, len_putB r n C]

theorem rep_cell {G : Gh} {w : World} : ∀ {p : PV} {v : Value}, cellB p = true → Reps G w p v → v.oneCell' = true
  | .v c, v, _, r => by
    simp only [Reps] at r
    cases c with
    | row l =>
      simp only [RepC] at r
      obtain ⟨A, c, rfl, _⟩ := r
      rfl
    | _ =>
      simp only [RepC] at r
      subst r
      rfl
  | .nil, v, _, r => by simp only [Reps] at r; subst r; rfl
  | .own _ _, v, _, r => by
    simp only [Reps] at r
    obtain ⟨_, _, _, _, _, r, _⟩ := r
    exact r
  | .ptr _ _, v, _, r => by
    simp only [Reps] at r
    obtain ⟨_, _, _, _, r, _⟩ := r
    exact r
  | .eptr _ _ _ _, v, _, r => by
    simp only [Reps] at r
    obtain ⟨_, _, _, _, r, _⟩ := r
    exact r
  | .rptr _, v, _, r => by
    simp only [Reps] at r
    obtain ⟨b, o, vs, ty, fr, rfl, _⟩ := r
    rfl

theorem rep_cells {G : Gh} {w : World} : ∀ {l : List PV} {vs : List Value}, cellsB l = true → RepsL G w l vs → ∀ v ∈ vs, v.oneCell' = true
  | [], vs, _, r, v, hv => by
    simp only [RepsL] at r
    subst r
    cases hv
  | p :: ps, vs, hb, r, v, hv => by
    simp only [RepsL] at r
    obtain ⟨u, us, rfl, r1, r2⟩ := r
    simp only [cellsB, Bool.and_eq_true] at hb
    rcases List.mem_cons.1 hv with rfl | hv
    · exact rep_cell hb.1 r1
    · exact rep_cells hb.2 r2 v hv
theorem cells_one {v : Value} (h : v.oneCell' = true) : v.cells = #[v] := by cases v <;> first | rfl | cases h
theorem pcells_ok {G : Gh} {w : World} {p : PV} {l : List PV} {v : Value} (h : pcells p = some l) (r : Reps G w p v) : RepsL G w l v.cells.toList ∧ ∀ u ∈ v.cells.toList, u.oneCell' = true := by
  have one : cellB p = true → pcells p = cond (cellB p) (some [p]) none → RepsL G w l v.cells.toList ∧ ∀ u ∈ v.cells.toList, u.oneCell' = true := fun hb he => by
    rw [hb] at he
    rw [h] at he
    injection he with he
    subst he
    have h1 := rep_cell hb r
    rw [cells_one h1]
    simp only [RepsL]
    exact ⟨⟨v, [], rfl, r, rfl⟩, by simpa using h1⟩
  cases p with
  | agg cs =>
    simp only [pcells] at h
    simp only [Reps] at r
    obtain ⟨vs, rfl, r⟩ := r
    cases hb : cellsB cs with
    | false => rw [hb] at h; cases h
    | true =>
      rw [hb] at h
      injection h with h
      subst h
      exact ⟨r, rep_cells hb r⟩
  | tup vs => simp [pcells, cellB] at h
  | un => simp [pcells, cellB] at h
  | _ => exact one rfl rfl

theorem range_of {w : World} {b o : Nat} {vs : Array Value} {ty : TypeId} {fr : Nat × Nat} (hb : w.heap[b]? = some (.cells vs ty fr)) (n : Nat) : w.rangeAt b o ((vs.toList.drop o).take n) := by
  intro j v hv
  rw [cell_of_row w b (o + j) vs ty fr hb]
  rw [List.getElem?_take] at hv
  split at hv
  · rw [List.getElem?_drop] at hv
    simpa using hv
  · cases hv

theorem run_load_agg {w : World} {b o t : Nat} {i : TI} {vs : Array Value} {ty : TypeId} {fr : Nat × Nat} (hf : TyFact E.P t i) (ha : i.k.isAgg = true) (hb : w.heap[b]? = some (.cells vs ty fr)) (hl : o + i.size ≤ vs.size) :
    (Instr.loadAt t (.pointer (some ⟨b, o, none⟩))).run E.P w = .ok (.agg ((vs.toList.drop o).take i.size).toArray) w := by
  have hr := range_of hb (o := o) i.size
  have hlen : ((vs.toList.drop o).take i.size).length = i.size := by
    rw [List.length_take, List.length_drop, Array.length_toList]
    omega
  have hc := run_loadCells_list (P := E.P) w ⟨b, o, none⟩ _ (fun j v hv => by rw [Addr.add_mid]; exact hr j v hv)
  rw [hlen] at hc
  have h1 := hf.isAgg w
  rw [ha] at h1
  simp [Instr.loadAt, Instr.sureAddr, loadVar, h1, hf.sizeOf w, hc]
theorem run_load_one {w : World} {b o t : Nat} {i : TI} {vs : Array Value} {ty : TypeId} {fr : Nat × Nat} {v : Value} (hf : TyFact E.P t i) (ha : i.k.isAgg = false) (hb : w.heap[b]? = some (.cells vs ty fr)) (hv : vs.toList[o]? = some v) :
    (Instr.loadAt t (.pointer (some ⟨b, o, none⟩))).run E.P w = .ok v w := by
  have h1 := hf.isAgg w
  rw [ha] at h1
  have hc : w.cell? ⟨b, o, none⟩ = some v := by rw [cell_of_row w b o vs ty fr hb]; simpa using hv
  simp [Instr.loadAt, Instr.sureAddr, loadVar, h1, load, Sem.run, hc]

theorem RelB.box_at {G : Gh} {w : World} {id : Nat} {ty : TypeId} {cs : List PV} (r : RelB G w id (some (.box ty cs))) {o : Nat} {v : Value} (p : Reps G w (.ptr id o) v) :
    ∃ b vs, v = .pointer (some ⟨b, o, none⟩) ∧ G.own b = some id ∧ w.heap[b]? = some (.cells vs ty (0, 0)) ∧ (∀ u ∈ vs.toList, u.oneCell' = true) ∧ RepsL G w cs vs.toList := by
  obtain ⟨r1, r2, b, vs, r3, r4, r5, r6⟩ := r
  simp only [Reps] at p
  obtain ⟨sz, m, f, p1, _, p2⟩ := p
  rw [r1] at p1
  injection p1 with p1
  injection p1 with p1 p3
  injection p3 with p3 p4
  subst p3
  rcases p2 with p2 | ⟨_, b', p5, p6⟩
  · omega
  · have := r2 b' b p6 r3
    subst this
    exact ⟨b', vs, by simpa using p5, r3, r4, r5, r6⟩

theorem RelB.arr_at {G : Gh} {w : World} {id sz n e o : Nat} {ty : TypeId} {fz : Bool} {els : List (List CV)} (r : RelB G w id (some (.arr sz ty fz els))) (hn : n = els.length) (he : e < n) {v : Value} (p : Reps G w (.eptr id n e o) v) :
    ∃ b cs, v = .pointer (some ⟨b, e * sz + o, none⟩) ∧ G.own b = some id ∧ w.heap[b]? = some (.cells cs ty (0, 0)) ∧ els.length * sz ≤ cs.size ∧ RepE G.imm w sz els cs.toList := by
  obtain ⟨r1, r2, r3, r4⟩ := r
  simp only [Reps] at p
  obtain ⟨sz', m, f, p1, _, p2⟩ := p
  rw [r1] at p1
  injection p1 with p1
  injection p1 with p1 p3
  injection p3 with p3 p4
  subst p1 p3
  rcases p2 with p2 | ⟨_, b', p5, p6⟩
  · omega
  · rcases r4 with ⟨r5, r6⟩ | ⟨b, cs, r5, r6, r7, r8⟩
    · exact absurd p6 (r6 b')
    · have := r3 b' b p6 r5
      subst this
      exact ⟨b', cs, p5, r5, r6, r7, r8⟩

theorem load_r {t : Nat} {p : PV} (hk : aLoad E h t p K) : RStep E.P h (fun G w m => ∃ v, Reps G w p v ∧ m = Instr.loadAt t v) K := by
  unfold aLoad at hk
  cases hl : look E.T t with
  | none => rw [hl] at hk; exact hk.elim
  | some i =>
    rw [hl] at hk
    simp only at hk
    have hf := Env.fact hl
    cases p with
    | ptr id o =>
      simp only at hk
      cases hb : nthB h id with
      | none => rw [hb] at hk; exact hk.elim
      | some B =>
        rw [hb] at hk
        cases B with
        | arr sz ty fz els => exact hk.elim
        | box ty cs =>
          simp only at hk
          cases ha : i.k.isAgg with
          | true =>
            rw [ha, cond_true] at hk
            obtain ⟨hk1, hk⟩ := hk
            refine RStep.reads hk fun G w m hi hm hr => ?_
            obtain ⟨v, hv, rfl⟩ := hm
            have r := hr id (by simp)
            rw [hb] at r
            obtain ⟨b, vs, rfl, _, h2, _, h4⟩ := r.box_at hv
            have hlen := h4.length
            rw [Array.length_toList] at hlen
            refine ⟨_, run_load_agg hf ha h2 (by omega), ?_⟩
            simp only [Reps]
            exact ⟨_, rfl, (h4.drop o).take i.size⟩
          | false =>
            rw [ha, cond_false] at hk
            obtain ⟨hk1, hk⟩ := hk
            refine RStep.reads hk fun G w m hi hm hr => ?_
            obtain ⟨v, hv, rfl⟩ := hm
            have r := hr id (by simp)
            rw [hb] at r
            obtain ⟨b, vs, rfl, _, h2, _, h4⟩ := r.box_at hv
            obtain ⟨u, h5, h6⟩ := h4.nth o hk1
            exact ⟨u, run_load_one hf ha h2 h5, h6⟩
    | eptr id n e o =>
      simp only at hk
      cases hb : nthB h id with
      | none => rw [hb] at hk; exact hk.elim
      | some B =>
        rw [hb] at hk
        cases B with
        | box ty cs => exact hk.elim
        | arr sz ty fz els =>
          simp only at hk
          obtain ⟨hn, el, hel, hk⟩ := hk
          have hlt : e < n := by rw [hn]; exact (List.getElem?_eq_some_iff.1 hel).1
          cases ha : i.k.isAgg with
          | true =>
            rw [ha, cond_true] at hk
            obtain ⟨hk1, hk⟩ := hk
            refine RStep.reads hk fun G w m hi hm hr => ?_
            obtain ⟨v, hv, rfl⟩ := hm
            have r := hr id (by simp)
            rw [hb] at r
            obtain ⟨b, cs, rfl, _, h2, h3, h4⟩ := r.arr_at hn hlt hv
            obtain ⟨h5, h6⟩ := h4.at e el hel
            have h7 := (RepP.take i.size (h6.drop o)).all
            have h8 := h6.len
            rw [List.length_drop, Array.length_toList (xs := cs)] at h8
            have h8b : e * sz + sz ≤ els.length * sz := by rw [← Nat.succ_mul]; exact Nat.mul_le_mul_right _ (by omega)
            have h9 : e * sz + o + i.size ≤ cs.size := by omega
            refine ⟨_, run_load_agg hf ha h2 h9, ?_⟩
            simp only [Reps]
            refine ⟨_, rfl, ?_⟩
            rw [List.drop_drop, List.take_take] at h7
            have h10 : ((el.drop o).take i.size).length = i.size := by rw [List.length_take, List.length_drop]; omega
            rw [h10, Nat.min_self] at h7
            exact h7
          | false =>
            rw [ha, cond_false] at hk
            split at hk
            rotate_left
            · exact hk.elim
            rename_i c cr h8
            refine RStep.reads hk fun G w m hi hm hr => ?_
            obtain ⟨v, hv, rfl⟩ := hm
            have r := hr id (by simp)
            rw [hb] at r
            obtain ⟨b, cs, rfl, _, h2, h3, h4⟩ := r.arr_at hn hlt hv
            obtain ⟨h5, h6⟩ := h4.at e el hel
            have h7 := h6.drop o
            rw [h8] at h7
            simp only [RepP] at h7
            obtain ⟨u, us, h11, h12, _⟩ := h7
            refine ⟨u, run_load_one hf ha h2 ?_, h12⟩
            rw [List.drop_drop] at h11
            have := congrArg (fun l => l[0]?) h11
            simpa using this
    | rptr cs =>
      simp only at hk
      cases ha : i.k.isAgg with
      | true =>
        rw [ha, cond_true] at hk
        obtain ⟨hk1, hk⟩ := hk
        refine RStep.pure hk fun G w m hi hm => ?_
        obtain ⟨v, hv, rfl⟩ := hm
        simp only [Reps] at hv
        obtain ⟨b, o, vs, ty, fr, rfl, _, h2, h3⟩ := hv
        have h7 := (RepP.take i.size h3).all
        have h8 := h3.len
        rw [List.length_drop, Array.length_toList (xs := vs)] at h8
        refine ⟨_, run_load_agg hf ha h2 (by omega), ?_⟩
        simp only [Reps]
        refine ⟨_, rfl, ?_⟩
        rw [List.take_take] at h7
        have h10 : (cs.take i.size).length = i.size := by rw [List.length_take]; omega
        rw [h10, Nat.min_self] at h7
        exact h7
      | false =>
        rw [ha, cond_false] at hk
        split at hk
        rotate_left
        · exact hk.elim
        rename_i c cr
        refine RStep.pure hk fun G w m hi hm => ?_
        obtain ⟨v, hv, rfl⟩ := hm
        simp only [Reps] at hv
        obtain ⟨b, o, vs, ty, fr, rfl, _, h2, h3⟩ := hv
        simp only [RepP] at h3
        obtain ⟨u, us, h11, h12, _⟩ := h3
        refine ⟨u, run_load_one hf ha h2 ?_, h12⟩
        have := congrArg (fun l => l[0]?) h11
        simpa using this
    | _ => exact hk.elim
theorem load_ok {t : Nat} {p : PV} (hk : aLoad E h t p K) : Step E.P h (fun G w m => ∃ v, Reps G w p v ∧ m = Instr.loadAt t v) K := (load_r hk).step
end
end Go.Proofs.YthkepmicdpgbbaaGreatDoor.E

/- Each operation comes to what is told of it: what makes memory and what writes it. -/
namespace Go.Proofs.YthkepmicdpgbbaaGreatDoor.E
open Go Go.RowKit Go.Proofs.YthkepmicdpgbbaaGreatDoorW.PrintWords
set_option linter.unusedVariables false
set_option linter.unusedSimpArgs false

section
variable {E : Env} {h : List Blk} {K : Kont}

/-! ### what is made anew -/
theorem imm_old {ids : List Nat} {G G' : Gh} {w w' : World} (x : Ext ids G w G' w') (hi : Inv G w) : ∀ b o, w.heap[b]? = some o → G.imm b → G'.imm b ∧ w'.heap[b]? = some o := fun b o => imm_ext x hi

theorem new_box {G : Gh} {w : World} (hi : Inv G w) {id : Nat} (h0 : RelB G w id none) {cs : List PV} {vs : Array Value} {ty : TypeId} (hr : RepsL G w cs vs.toList) (h1 : ∀ u ∈ vs.toList, u.oneCell' = true) :
    Ext [id] G w (G.put w.heap.size id (cs.length, 1, false)) (w.alloc (.cells vs ty)) ∧ Reps (G.put w.heap.size id (cs.length, 1, false)) (w.alloc (.cells vs ty)) (.ptr id 0) (.pointer (some ⟨w.heap.size, 0, none⟩)) ∧
      RelB (G.put w.heap.size id (cs.length, 1, false)) (w.alloc (.cells vs ty)) id (some (.box ty cs)) := by
  have x := ext_alloc hi id (cs.length, 1, false) h0 (.cells vs ty)
  refine ⟨x, ?_, put_inf _ _ _ _, put_uniq h0 _ _, w.heap.size, vs, put_own _ _ _ _, heap_alloc_new w _, h1, RepsL.ext x hi _ _ hr⟩
  simp only [Reps]
  exact ⟨_, _, _, put_inf _ _ _ _, rfl, .inr ⟨rfl, w.heap.size, by simp, put_own _ _ _ _⟩⟩

theorem new_arr {G : Gh} {w : World} (hi : Inv G w) {id sz cap : Nat} (hsz : 0 < sz) (h0 : RelB G w id none) {els : List (List CV)} {vs : Array Value} {ty : TypeId} (hr : RepE G.imm w sz els vs.toList) (hv : vs.size = cap * sz) (hl : els.length ≤ cap) (hc : cap ≤ maxLen) :
    Ext [id] G w (G.put w.heap.size id (sz, els.length, false)) (w.alloc (.cells vs ty)) ∧ Reps (G.put w.heap.size id (sz, els.length, false)) (w.alloc (.cells vs ty)) (.own id els.length) (.slice (some ⟨w.heap.size, 0, none⟩) els.length cap) ∧
      RelB (G.put w.heap.size id (sz, els.length, false)) (w.alloc (.cells vs ty)) id (some (.arr sz ty false els)) := by
  have x := ext_alloc hi id (sz, els.length, false) h0 (.cells vs ty)
  refine ⟨x, ?_, put_inf _ _ _ _, hsz, put_uniq h0 _ _, .inr ⟨w.heap.size, vs, put_own _ _ _ _, heap_alloc_new w _, ?_, RepE.mono (imm_old x hi) sz els _ hr⟩⟩
  · simp only [Reps]
    exact ⟨_, _, _, put_inf _ _ _ _, hsz, rfl, .inr ⟨rfl, .inr ⟨w.heap.size, cap, vs, ty, rfl, put_own _ _ _ _, heap_alloc_new w _, hv, hl, hc⟩⟩⟩
  · rw [hv]
    exact Nat.mul_le_mul_right _ hl

theorem keeps_push (h : List Blk) (B : Blk) : Keeps h (h ++ [B]) [len h] := fun id hn => nthB_push h B id (by simpa using hn)
theorem len_push (h : List Blk) (B : Blk) : len h ≤ len (h ++ [B]) := by rw [len_append]; omega
theorem none_at (h : List Blk) {G : Gh} {w : World} (hr : RelB G w (len h) (nthB h (len h))) : RelB G w (len h) none := by rw [nthB_ge h _ (Nat.le_refl _)] at hr; exact hr

theorem box_ok {t : Nat} {x : PV} (hk : aBox h t x K) : Step E.P h (fun G w m => ∃ v, Reps G w x v ∧ m = Instr.box t v) K := by
  unfold aBox at hk
  cases hc : pcells x with
  | none => rw [hc] at hk; exact hk.elim
  | some cs =>
    rw [hc] at hk
    refine ⟨_, _, _, _, hk, keeps_push h _, len_push h _, fun G w m hi hm hr => ?_⟩
    obtain ⟨v, hv, rfl⟩ := hm
    obtain ⟨h1, h2⟩ := pcells_ok hc hv
    obtain ⟨x1, x2, x3⟩ := new_box hi (none_at h (hr (len h) (by simp))) (ty := t) h1 h2
    refine ⟨_, _, _, ?_, x1, x2, fun id hid => ?_⟩
    · rfl
    · simp only [List.mem_singleton] at hid
      subst hid
      rw [nthB_new]
      exact x3

theorem ofV1_ok (G : Gh) (w : World) : ∀ v : Value, Reps G w (ofV1 v) v := by
  intro v
  unfold ofV1
  split <;> simp [Reps, RepC]
theorem ofV1_map (G : Gh) (w : World) : ∀ l : List Value, RepsL G w (l.map ofV1) l
  | [] => by simp [RepsL]
  | v :: r => by
    simp only [List.map_cons, RepsL]
    exact ⟨v, r, rfl, ofV1_ok G w v, ofV1_map G w r⟩
theorem ofV_ok (G : Gh) (w : World) (v : Value) : Reps G w (ofV v) v := by
  unfold ofV
  split
  · simp only [Reps]
    exact ⟨_, rfl, ofV1_map G w _⟩
  · exact ofV1_ok G w v

theorem alloc_ok {t : Nat} (hk : aAlloc E h t K) : Step E.P h (fun G w m => m = Instr.alloc t true (.tuple #[])) K := by
  unfold aAlloc at hk
  cases hl : look E.T t with
  | none => rw [hl] at hk; exact hk.elim
  | some i =>
    rw [hl] at hk
    simp only at hk
    cases hc : pcells (ofV i.zero) with
    | none => rw [hc] at hk; exact hk.elim
    | some cs =>
      rw [hc] at hk
      refine ⟨_, _, _, _, hk, keeps_push h _, len_push h _, fun G w m hi hm hr => ?_⟩
      subst hm
      obtain ⟨h1, h2⟩ := pcells_ok hc (ofV_ok G w i.zero)
      obtain ⟨x1, x2, x3⟩ := new_box hi (none_at h (hr (len h) (by simp))) (ty := t) h1 h2
      refine ⟨_, _, _, ?_, x1, x2, fun id hid => ?_⟩
      · unfold Instr.alloc
        rw [Sem.run_bind, (Env.fact hl).zeroOf w]
        rfl
      · simp only [List.mem_singleton] at hid
        subst hid
        rw [nthB_new]
        exact x3

/-! ### rows that will not be written any more -/
theorem Blk.freeze_freeze (B : Blk) : B.freeze.freeze = B.freeze := by cases B <;> rfl
theorem nthB_frz1 (h : List Blk) (a id : Nat) : nthB (frz1 h a) id = if id = a then (nthB h id).map Blk.freeze else nthB h id := by
  unfold frz1
  cases ha : nthB h a with
  | none =>
    by_cases e : id = a
    · subst e
      simp [ha]
    · simp [e]
  | some B =>
    by_cases e : id = a
    · subst e
      simp [ha, nthB_putB_same B.freeze ha]
    · simp [e, nthB_putB_ne h a id _ e]
theorem nthB_frz : ∀ (f : List Nat) (h : List Blk) (id : Nat), nthB (frz f h) id = if id ∈ f then (nthB h id).map Blk.freeze else nthB h id
  | [], h, id => by simp [frz]
  | a :: r, h, id => by
    simp only [frz]
    rw [nthB_frz r _ id, nthB_frz1]
    by_cases e : id = a
    · subst e
      by_cases m : id ∈ r
      · simp only [if_pos m, List.mem_cons, true_or, if_true]
        cases nthB h id <;> simp [Blk.freeze_freeze]
      · simp [m]
    · by_cases m : id ∈ r <;> simp [e, m]
theorem len_frz : ∀ (f : List Nat) (h : List Blk), len (frz f h) = len h
  | [], h => rfl
  | a :: r, h => by
    simp only [frz]
    rw [len_frz r]
    unfold frz1
    cases nthB h a with
    | none => rfl
    | some B => exact len_putB h a _

def IsArr : Option Blk → Prop
  | some (.arr _ _ _ _) => True
  | _ => False
theorem frz_rel {G : Gh} {w : World} (hi : Inv G w) {f : List Nat} (hr : ∀ id ∈ f, RelB G w id (nthB h id)) (ha : ∀ id ∈ f, IsArr (nthB h id)) : ∀ id ∈ f, RelB (G.frz f) w id (nthB (frz f h) id) := by
  intro id hid
  rw [nthB_frz, if_pos hid]
  have r := hr id hid
  have a := ha id hid
  cases hb : nthB h id with
  | none => rw [hb] at a; exact a.elim
  | some B =>
    rw [hb] at a r
    cases B with
    | box _ _ => exact a.elim
    | arr sz ty fz els =>
      obtain ⟨r1, r2, r3, r4⟩ := r
      refine ⟨by simp [Gh.frz, hid, r1], r2, r3, ?_⟩
      rcases r4 with r4 | ⟨b, cs, r5, r6, r7, r8⟩
      · exact .inl r4
      · exact .inr ⟨b, cs, r5, r6, r7, RepE.mono (imm_old (ext_frz hi f) hi) sz els _ r8⟩

theorem own_row {G : Gh} {w : World} {id n sz : Nat} {ty : TypeId} {fz : Bool} {els : List (List CV)} {v : Value} {I : Nat → Prop} (hI : ∀ b o, w.heap[b]? = some o → G.imm b → I b) (hb : ∀ b, G.own b = some id → I b)
    (r : RelB G w id (some (.arr sz ty fz els))) (hn : n = els.length) (p : Reps G w (.own id n) v) : RepC I w (.row els) v := by
  obtain ⟨r1, r2, r3, r4⟩ := r
  simp only [Reps] at p
  obtain ⟨sz', m, f, p1, _, _, p2⟩ := p
  rw [r1] at p1
  injection p1 with p1
  injection p1 with p1 p3
  injection p3 with p3 p4
  subst p1 p3
  simp only [RepC]
  rcases p2 with p2 | ⟨_, p2⟩
  · omega
  · rcases p2 with ⟨rfl, p2⟩ | ⟨b, c, cs, ty', rfl, p5, p6, p7, p8, p9⟩
    · have : els = [] := List.eq_nil_of_length_eq_zero (by omega)
      subst this
      exact ⟨none, 0, by simp, by simp, by simp [maxLen], .inl rfl⟩
    · refine ⟨some ⟨b, 0, none⟩, c, by rw [hn], by omega, Nat.le_trans (by omega) p9, ?_⟩
      rcases r4 with ⟨r5, _⟩ | ⟨b', cs', r5, r6, r7, r8⟩
      · exact .inl r5
      · have := r3 b b' p5 r5
        subst this
        refine .inr ⟨b, 0, sz, cs', ty, (0, 0), rfl, hb b p5, r6, r2, ?_⟩
        simpa using RepE.mono (fun x o h1 h2 => ⟨hI x o h1 h2, h1⟩) sz els _ r8

theorem toCs_ok : ∀ {ps : List PV} {R : List CV → List Nat → Prop}, toCs h ps R → ∃ cvs f, R cvs f ∧ (∀ id ∈ f, IsArr (nthB h id)) ∧ cvs.length = ps.length ∧
    ∀ (G : Gh) (w : World) (vs : List Value) (F : List Nat), Inv G w → RepsL G w ps vs → (∀ id ∈ f, RelB G w id (nthB h id)) → (∀ id ∈ f, id ∈ F) → RepP (G.frz F).imm w cvs vs
  | [], R, hk => by
    simp only [toCs] at hk
    exact ⟨[], [], hk, fun id hid => (by cases hid), rfl, fun G w vs F _ hr _ _ => by simp [RepP]⟩
  | .v c :: ps, R, hk => by
    simp only [toCs] at hk
    obtain ⟨cvs, f, h1, h2, h3, h4⟩ := toCs_ok hk
    refine ⟨_, _, h1, h2, by simp [h3], fun G w vs F hi hr hf hF => ?_⟩
    simp only [RepsL, Reps] at hr
    obtain ⟨v, vs', rfl, h5, h6⟩ := hr
    simp only [RepP]
    exact ⟨v, vs', rfl, RepC.mono (imm_old (ext_frz hi F) hi) c v h5, h4 G w vs' F hi h6 hf hF⟩
  | .nil :: ps, R, hk => by
    simp only [toCs] at hk
    obtain ⟨cvs, f, h1, h2, h3, h4⟩ := toCs_ok hk
    refine ⟨_, _, h1, h2, by simp [h3], fun G w vs F hi hr hf hF => ?_⟩
    simp only [RepsL, Reps] at hr
    obtain ⟨v, vs', rfl, rfl, h6⟩ := hr
    simp only [RepP, RepC]
    exact ⟨_, vs', rfl, ⟨none, 0, by simp, by simp, by simp [maxLen], by simp⟩, h4 G w vs' F hi h6 hf hF⟩
  | .own id n :: ps, R, hk => by
    simp only [toCs] at hk
    cases hb : nthB h id with
    | none => rw [hb] at hk; exact hk.elim
    | some B =>
      rw [hb] at hk
      cases B with
      | box _ _ => exact hk.elim
      | arr sz ty fz els =>
        simp only at hk
        obtain ⟨hn, hk⟩ := hk
        obtain ⟨cvs, f, h1, h2, h3, h4⟩ := toCs_ok hk
        refine ⟨_, _, h1, ?_, by simp [h3], fun G w vs F hi hr hf hF => ?_⟩
        · intro j hj
          rcases List.mem_cons.1 hj with rfl | hj
          · rw [hb]; trivial
          · exact h2 j hj
        · simp only [RepsL] at hr
          obtain ⟨v, vs', rfl, h5, h6⟩ := hr
          simp only [RepP]
          have r := hf id (by simp)
          rw [hb] at r
          refine ⟨v, vs', rfl, own_row (fun b o h1 h2 => (imm_old (ext_frz hi F) hi b o h1 h2).1) (fun b hb' => ?_) r hn h5, h4 G w vs' F hi h6 (fun j hj => hf j (by simp [hj])) (fun j hj => hF j (by simp [hj]))⟩
          refine .inr (.inr ⟨id, sz, els.length, hb', ?_⟩)
          simp only [Gh.frz]
          rw [if_pos (hF id (by simp)), r.1]
          rfl
  | .ptr _ _ :: _, _, hk => by simp only [toCs] at hk
  | .eptr _ _ _ _ :: _, _, hk => by simp only [toCs] at hk
  | .rptr _ :: _, _, hk => by simp only [toCs] at hk
  | .agg _ :: _, _, hk => by simp only [toCs] at hk
  | .tup _ :: _, _, hk => by simp only [toCs] at hk
  | .un :: _, _, hk => by simp only [toCs] at hk
end
end Go.Proofs.YthkepmicdpgbbaaGreatDoor.E

/- Each operation comes to what is told of it: stores, appends, rows made. -/
namespace Go.Proofs.YthkepmicdpgbbaaGreatDoor.E
open Go Go.RowKit Go.Proofs.YthkepmicdpgbbaaGreatDoorW.PrintWords
set_option linter.unusedVariables false
set_option linter.unusedSimpArgs false

section
variable {E : Env} {h : List Blk} {K : Kont}

theorem putL_length {α : Type} (cs vs : List α) (o : Nat) (hl : o + vs.length ≤ cs.length) : (putL cs o vs).length = cs.length := by
  simp only [putL, List.length_append, List.length_take, List.length_drop]
  omega

theorem RepsL.put_list {G : Gh} {w : World} {cs ds : List PV} {vs us : List Value} (o : Nat) (h1 : RepsL G w cs vs) (h2 : RepsL G w ds us) : RepsL G w (putL cs o ds) (vs.take o ++ us ++ vs.drop (o + us.length)) := by
  unfold putL
  rw [h2.length]
  exact ((h1.take o).append h2).append (h1.drop _)

theorem run_store {w : World} {b o t : Nat} {i : TI} {vs : Array Value} {ty : TypeId} {x : Value} (hf : TyFact E.P t i) (hs : x.cells.size = i.size) (hb : w.heap[b]? = some (.cells vs ty (0, 0))) (hl : o + i.size ≤ vs.size) (h1 : ∀ u ∈ x.cells.toList, u.oneCell' = true) :
    (do Instr.storeAt t (.pointer (some ⟨b, o, none⟩)) x; pure undef : Sem Value).run E.P w = .ok undef (w.setRow b (vs.toList.take o ++ x.cells.toList ++ vs.toList.drop (o + x.cells.toList.length)).toArray) := by
  have hc := run_storeCells_at E.P b o ty x.cells.toList 0 vs w hb (by simp; omega) h1
  simp only [Nat.add_zero] at hc
  simp [Instr.storeAt, Instr.sureAddr, storeVar, hf.sizeOf w, hs, hc]

theorem store_ok {t : Nat} {p x : PV} (hk : aStore E h t p x K) : Step E.P h (fun G w m => ∃ v u, Reps G w p v ∧ Reps G w x u ∧ m = (do Instr.storeAt t v u; pure undef)) K := by
  unfold aStore at hk
  cases hl : look E.T t with
  | none => rw [hl] at hk; exact hk.elim
  | some i =>
    cases hc : pcells x with
    | none => rw [hl, hc] at hk; exact hk.elim
    | some cs =>
      rw [hl, hc] at hk
      simp only at hk
      have hf := Env.fact hl
      cases p with
      | ptr id o =>
        simp only at hk
        cases hb : nthB h id with
        | none => rw [hb] at hk; exact hk.elim
        | some B =>
          rw [hb] at hk
          cases B with
          | arr sz ty fz els => exact hk.elim
          | box ty ds =>
            simp only at hk
            obtain ⟨k1, k2, hk⟩ := hk
            refine ⟨_, _, _, _, hk, fun j hj => nthB_putB_ne h id j _ (by simpa using hj), by rw [len_putB]; exact Nat.le_refl _, fun G w m hi hm hr => ?_⟩
            obtain ⟨v, u, hv, hu, rfl⟩ := hm
            have r := hr id (by simp)
            rw [hb] at r
            obtain ⟨b, vs, rfl, h1, h2, h3, h4⟩ := r.box_at hv
            obtain ⟨h5, h6⟩ := pcells_ok hc hu
            have h7 := h5.length
            have h8 := h4.length
            rw [Array.length_toList] at h8 h7
            have hrun := run_store (w := w) (o := o) hf (by omega) h2 (by omega) h6
            have hsz : (vs.toList.take o ++ u.cells.toList ++ vs.toList.drop (o + u.cells.toList.length)).toArray.size = vs.size := by
              simp only [List.size_toArray, List.length_append, List.length_take, List.length_drop, Array.length_toList]
              omega
            have hb' := setRow_heap w b vs (vs.toList.take o ++ u.cells.toList ++ vs.toList.drop (o + u.cells.toList.length)).toArray ty (0, 0) h2
            have X := ext_written (w' := w.setRow b (vs.toList.take o ++ u.cells.toList ++ vs.toList.drop (o + u.cells.toList.length)).toArray) hi h1 r.1 h2 hb' hsz (by simp [World.setRow]) (fun k hk' => setRow_other w b k _ hk') rfl rfl rfl
            refine ⟨_, _, G, hrun, X, by simp [Reps], fun j hj => ?_⟩
            simp only [List.mem_singleton] at hj
            subst hj
            rw [nthB_putB_same _ hb]
            have hlen : (putL ds o cs).length = ds.length := putL_length ds cs o (by omega)
            refine ⟨by rw [hlen]; exact r.1, r.2.1, b, _, h1, hb', ?_, ?_⟩
            · intro z hz
              simp only [List.mem_append] at hz
              rcases hz with (hz | hz) | hz
              · exact h3 z (List.mem_of_mem_take hz)
              · exact h6 z hz
              · exact h3 z (List.mem_of_mem_drop hz)
            · exact RepsL.ext X hi _ _ (h4.put_list o h5)
      | eptr id n e o =>
        simp only at hk
        cases hb : nthB h id with
        | none => rw [hb] at hk; exact hk.elim
        | some B =>
          rw [hb] at hk
          cases B with
          | box ty ds => exact hk.elim
          | arr sz ty fz els =>
            cases fz with
            | true => exact hk.elim
            | false =>
              simp only at hk
              obtain ⟨cvs, f, ⟨k1, k2, k3, el, k4, k5, els', rfl, hk⟩, f1, f2, f3⟩ := toCs_ok hk
              have hnf : id ∉ f := by simpa using k2
              have hbf : nthB (frz f h) id = some (.arr sz ty false els) := by rw [nthB_frz, if_neg hnf, hb]
              refine ⟨_, _, _, _, hk, fun j hj => ?_, by rw [len_putB, len_frz]; exact Nat.le_refl _, fun G w m hi hm hr => ?_⟩
              · simp only [List.mem_cons, not_or] at hj
                rw [nthB_putB_ne _ _ _ _ hj.1, nthB_frz, if_neg hj.2]
              obtain ⟨v, u, hv, hu, rfl⟩ := hm
              have r := hr id (by simp)
              rw [hb] at r
              have hlt : e < n := by rw [k3]; exact (List.getElem?_eq_some_iff.1 k4).1
              obtain ⟨b, vs, rfl, h1, h2, h3, h4⟩ := r.arr_at k3 hlt hv
              obtain ⟨h5, h6⟩ := pcells_ok hc hu
              have h7 := h5.length
              rw [Array.length_toList] at h7
              have he : e * sz + sz ≤ els.length * sz := by rw [← Nat.succ_mul]; exact Nat.mul_le_mul_right _ (by omega)
              have hrun := run_store (w := w) (o := e * sz + o) hf (by omega) h2 (by omega) h6
              have hsz : (vs.toList.take (e * sz + o) ++ u.cells.toList ++ vs.toList.drop (e * sz + o + u.cells.toList.length)).toArray.size = vs.size := by
                simp only [List.size_toArray, List.length_append, List.length_take, List.length_drop, Array.length_toList]
                omega
              have hb' := setRow_heap w b vs (vs.toList.take (e * sz + o) ++ u.cells.toList ++ vs.toList.drop (e * sz + o + u.cells.toList.length)).toArray ty (0, 0) h2
              have hrf : ∀ j ∈ f, RelB G w j (nthB h j) := fun j hj => hr j (by simp [hj])
              have X0 := ext_frz hi f
              have hi0 := hi.ext X0
              have hinf : (G.frz f).inf id = some (sz, els.length, false) := by
                simp only [Gh.frz]
                rw [if_neg hnf]
                exact r.1
              have X1 := ext_written (G := G.frz f) (w' := w.setRow b (vs.toList.take (e * sz + o) ++ u.cells.toList ++ vs.toList.drop (e * sz + o + u.cells.toList.length)).toArray) hi0 h1 hinf h2 hb' hsz (by simp [World.setRow]) (fun k hk' => setRow_other w b k _ hk') rfl rfl rfl
              have X := Ext.mono (ids2 := id :: f) (Ext.trans hi X0 X1) (fun j hj => by
                simp only [List.mem_append, List.mem_singleton] at hj
                rcases hj with hj | hj <;> simp [hj])
              refine ⟨_, _, G.frz f, hrun, X, by simp [Reps], fun j hj => ?_⟩
              have hfr := frz_rel hi hrf f1
              by_cases hj' : j = id
              · subst hj'
                rw [nthB_putB_same _ hbf]
                have hI := RepE.mono (imm_old X0 hi) sz els _ h4
                have hcv := f3 G w _ f hi h5 hrf (fun j hj => hj)
                refine ⟨by rw [List.length_set]; exact hinf, r.2.1, r.2.2.1, .inr ⟨b, _, h1, hb', by rw [List.length_set, hsz]; exact h3, ?_⟩⟩
                refine RepE.mono (imm_old X1 hi0) sz _ _ (RepE.mk fun q y hy => ?_)
                rw [List.getElem?_set] at hy
                have hul : u.cells.toList.length = cs.length := by rw [Array.length_toList]; exact h7
                split at hy
                · rename_i heq
                  subst heq
                  split at hy
                  · injection hy with hy
                    subst hy
                    obtain ⟨a1, a2⟩ := hI.at e el k4
                    refine ⟨by rw [putL_length _ _ _ (by omega)]; exact a1, ?_⟩
                    have e1 : (vs.toList.take (e * sz + o) ++ u.cells.toList ++ vs.toList.drop (e * sz + o + u.cells.toList.length)).drop (e * sz) = ((vs.toList.drop (e * sz)).take o ++ u.cells.toList) ++ (vs.toList.drop (e * sz)).drop (o + u.cells.toList.length) := by
                      rw [List.drop_append_of_le_length (by simp; omega), List.drop_append_of_le_length (by simp; omega), List.drop_take, List.drop_drop, Nat.add_sub_cancel_left, Nat.add_assoc]
                    show RepP _ w _ ((vs.toList.take (e * sz + o) ++ u.cells.toList ++ vs.toList.drop (e * sz + o + u.cells.toList.length)).drop (e * sz))
                    rw [e1]
                    unfold putL
                    refine RepP.append (RepP.append (RepP.take o a2) ?_ hcv) ?_ ?_
                    · rw [List.length_take, List.length_take, List.length_drop, Array.length_toList]
                      omega
                    · simp only [List.length_append, List.length_take, List.length_drop, Array.length_toList]
                      omega
                    · rw [hul, f2]
                      exact RepP.drop _ a2
                  · cases hy
                · rename_i hne
                  obtain ⟨a1, a2⟩ := hI.at q y hy
                  refine ⟨a1, ?_⟩
                  show RepP _ w _ ((vs.toList.take (e * sz + o) ++ u.cells.toList ++ vs.toList.drop (e * sz + o + u.cells.toList.length)).drop (q * sz))
                  have a3 := RepP.take y.length a2
                  rw [List.take_length] at a3
                  have hq : q < els.length := (List.getElem?_eq_some_iff.1 hy).1
                  have hqs : q * sz + sz ≤ els.length * sz := by rw [← Nat.succ_mul]; exact Nat.mul_le_mul_right _ (by omega)
                  have e1 : ((vs.toList.take (e * sz + o) ++ u.cells.toList ++ vs.toList.drop (e * sz + o + u.cells.toList.length)).drop (q * sz)).take y.length = (vs.toList.drop (q * sz)).take y.length := by
                    rw [a1]
                    apply List.ext_getElem?
                    intro z
                    rw [List.getElem?_take, List.getElem?_take]
                    split
                    · rename_i hz
                      rw [List.getElem?_drop, List.getElem?_drop]
                      rcases Nat.lt_or_gt_of_ne (Ne.symm hne) with hlt' | hgt
                      · have : q * sz + sz ≤ e * sz := by rw [← Nat.succ_mul]; exact Nat.mul_le_mul_right _ hlt'
                        rw [List.getElem?_append_left (by simp; omega), List.getElem?_append_left (by simp; omega), List.getElem?_take, if_pos (by omega)]
                      · have : e * sz + sz ≤ q * sz := by rw [← Nat.succ_mul]; exact Nat.mul_le_mul_right _ hgt
                        rw [List.getElem?_append_right (by simp; omega), List.getElem?_drop]
                        congr 1
                        simp
                        omega
                    · rfl
                  rw [← e1] at a3
                  exact a3.of_take _
              · have hjf : j ∈ f := by
                  rcases List.mem_cons.1 hj with hj | hj
                  · exact absurd hj hj'
                  · exact hj
                rw [nthB_putB_ne _ _ _ _ hj']
                exact RelB.ext X1 hi0 (by simpa using hj') (hfr j hjf)
      | _ => exact hk.elim
end
end Go.Proofs.YthkepmicdpgbbaaGreatDoor.E

/- Each operation comes to what is told of it: appends, and rows made whole. -/
namespace Go.Proofs.YthkepmicdpgbbaaGreatDoor.E
open Go Go.RowKit Go.Proofs.YthkepmicdpgbbaaGreatDoorW.PrintWords
set_option linter.unusedVariables false
set_option linter.unusedSimpArgs false

section
variable {E : Env} {h : List Blk} {K : Kont}

def Gh.regrow (G : Gh) (id : Nat) (g : Option Nat) (r : Nat × Nat × Bool) : Gh :=
  { G with own := fun x => if some x = g then some id else if G.own x = some id then none else G.own x, inf := fun x => if x = id then some r else G.inf x }

theorem ext_regrow {G : Gh} {w w' : World} (hi : Inv G w) {id sz n m : Nat} {row g : Option Nat} (hinf : G.inf id = some (sz, n, false)) (hm : 0 < m) (hg : w.grownBy w' row) (hrow : ∀ b, row = some b → G.own b = some id)
    (hgn : ∀ b, g = some b → b < w'.heap.size ∧ (G.own b = some id ∨ w.heap.size ≤ b)) : Ext [id] G w (G.regrow id g (sz, n + m, false)) w' where
  os := hg.os
  tape := hg.tape
  output := hg.output
  size := hg.size
  base := rfl
  old := rfl
  nn := fun b hb h0 => by
    have hne : some b ≠ g := fun e => by
      rcases (hgn b e.symm).2 with a | a
      · rw [h0] at a; cases a
      · omega
    refine ⟨?_, hg.block b hb (fun e => by have := hrow b e.symm; rw [h0] at this; cases this)⟩
    simp only [Gh.regrow]
    rw [if_neg hne, h0]
    rfl
  sm := fun b j h0 => by
    by_cases e : j = id
    · subst e
      refine ⟨fun hn => absurd (by simp) hn, ?_⟩
      simp only [Gh.regrow]
      split
      · exact .inl rfl
      · first
        | exact .inr rfl
        | exact .inr (if_pos h0)
    · have hne : some b ≠ g := fun e' => by
        rcases (hgn b e'.symm).2 with a | a
        · rw [h0] at a
          injection a with a
          exact e a
        · exact absurd (hi.own b j h0) (by omega)
      have h1 : (G.regrow id g (sz, n + m, false)).own b = some j := by
        simp only [Gh.regrow]
        rw [if_neg hne, if_neg (fun e' => e (by rw [h0] at e'; injection e'))]
        exact h0
      exact ⟨fun _ => ⟨h1, hg.block b (hi.own b j h0) (fun e' => by have := hrow b e'.symm; rw [h0] at this; injection this with this; exact e this)⟩, .inl h1⟩
  same := fun b j cs ty h0 h1 h2 hc => by
    by_cases e : j = id
    · subst e
      obtain ⟨s1, n1, f1, f2, a1, a2⟩ := h2
      rw [hinf] at a1
      simp only [Gh.regrow, if_pos] at a2
      cases a1
      injection a2 with a2
      injection a2 with _ a2
      injection a2 with a2 _
      omega
    · refine ⟨cs, ?_, rfl⟩
      rw [hg.block b (hi.own b j h0) (fun e' => by have := hrow b e'.symm; rw [h0] at this; injection this with this; exact e this)]
      exact hc
  fz := fun b j s k h0 hf => by
    have e : j ≠ id := fun e => by subst e; rw [hinf] at hf; cases hf
    have hne : some b ≠ g := fun e' => by
      rcases (hgn b e'.symm).2 with a | a
      · rw [h0] at a
        injection a with a
        exact e a
      · exact absurd (hi.own b j h0) (by omega)
    refine ⟨?_, hg.block b (hi.own b j h0) (fun e' => by have := hrow b e'.symm; rw [h0] at this; injection this with this; exact e this)⟩
    simp only [Gh.regrow]
    rw [if_neg hne, if_neg (fun e' => e (by rw [h0] at e'; injection e'))]
    exact h0
  inf := fun j s k f hf => by
    by_cases e : j = id
    · subst e
      rw [hinf] at hf
      cases hf
      exact ⟨n + m, false, by simp [Gh.regrow], by omega, (fun e => by cases e), fun e => by omega⟩
    · refine ⟨k, f, by simp [Gh.regrow, e, hf], Nat.le_refl _, fun e => ⟨e, rfl⟩, fun _ b hb => ?_⟩
      have hne : some b ≠ g := fun e' => by
        rcases (hgn b e'.symm).2 with a | a
        · rw [hb] at a
          injection a with a
          exact e a
        · exact absurd (hi.own b j hb) (by omega)
      simp only [Gh.regrow]
      rw [if_neg hne, if_neg (fun e' => e (by rw [hb] at e'; injection e'))]
      exact hb
  out := fun j hn => by
    simp only [Gh.regrow]
    rw [if_neg (by simpa using hn)]
  new := fun b j hb h1 => by
    simp only [Gh.regrow] at h1
    split at h1
    · injection h1 with h1
      simp [h1]
    · split at h1
      · cases h1
      · exact absurd (hi.own b j h1) (by omega)
  keep := fun b j h1 => by
    simp only [Gh.regrow] at h1
    split at h1
    · rename_i e
      exact (hgn b e.symm).1
    · split at h1
      · cases h1
      · exact Nat.lt_of_lt_of_le (hi.own b j h1) hg.size

theorem RepE.append {I : Nat → Prop} {w : World} {sz : Nat} {l k : List (List CV)} {vs us : List Value} (h1 : RepE I w sz l vs) (hl : vs.length = l.length * sz) (h2 : RepE I w sz k us) : RepE I w sz (l ++ k) (vs ++ us) := by
  refine RepE.mk fun e el he => ?_
  by_cases hlt : e < l.length
  · rw [List.getElem?_append_left hlt] at he
    obtain ⟨a, b⟩ := h1.at e el he
    refine ⟨a, ?_⟩
    have hm : e * sz + sz ≤ vs.length := by rw [hl, ← Nat.succ_mul]; exact Nat.mul_le_mul_right _ hlt
    rw [List.drop_append_of_le_length (by omega)]
    have h3 := RepP.take el.length b
    rw [List.take_length] at h3
    have e1 : (vs.drop (e * sz)).take el.length = (vs.drop (e * sz) ++ us).take el.length := by
      rw [List.take_append_of_le_length (by rw [List.length_drop]; omega)]
    rw [e1] at h3
    exact h3.of_take _
  · rw [List.getElem?_append_right (by omega)] at he
    obtain ⟨a, b⟩ := h2.at _ el he
    refine ⟨a, ?_⟩
    have e1 : e * sz = vs.length + (e - l.length) * sz := by
      rw [hl, ← Nat.add_mul]
      congr 1
      omega
    rw [e1, ← List.drop_drop, List.drop_left]
    exact b

theorem RepP.one {I : Nat → Prop} {w : World} : ∀ {l : List CV} {vs : List Value}, RepP I w l vs → ∀ u ∈ vs.take l.length, u.oneCell' = true
  | [], vs, _, u, hu => by simp at hu
  | p :: ps, vs, h, u, hu => by
    simp only [RepP] at h
    obtain ⟨v, vs', rfl, h1, h2⟩ := h
    simp only [List.length_cons, List.take_succ_cons, List.mem_cons] at hu
    rcases hu with rfl | hu
    · cases p with
      | row l =>
        simp only [RepC] at h1
        obtain ⟨A, c, rfl, _⟩ := h1
        rfl
      | _ =>
        simp only [RepC] at h1
        subst h1
        rfl
    · exact RepP.one h2 u hu
theorem RepE.one {I : Nat → Prop} {w : World} {sz : Nat} : ∀ {l : List (List CV)} {vs : List Value}, RepE I w sz l vs → ∀ u ∈ vs.take (l.length * sz), u.oneCell' = true
  | [], vs, _, u, hu => by simp at hu
  | e :: es, vs, h, u, hu => by
    simp only [RepE] at h
    rw [List.length_cons, Nat.add_mul, Nat.one_mul, Nat.add_comm, List.take_add] at hu
    rcases List.mem_append.1 hu with hu | hu
    · have := h.2.1.one
      rw [h.1] at this
      exact this u hu
    · exact RepE.one h.2.2 u hu

theorem run_app {P : Program} {w : World} {t t2 ty e : TypeId} {i : TypeInfo} {z : Value} {d2 : TypeDesc} (ht : P.underlying t = some (.slice e)) (hi : P.info? e = some i) (hz : i.zero = some z) (hzs : z.cells.size = i.size)
    (h2 : P.underlying t2 = some d2) (hd : d2 = .slice e ∨ d2 = .string) {v : Value} {n : Nat} {xs : List Value} (hown : w.ownsRow 0 e i.size v n xs) {x : Value} {m : Nat} {news : List Value} (hl : news.length = m * i.size)
    (hlen : ∀ w' : World, (Builtin.lenOf x).run P w' = .ok m w') (hf : ∀ w' : World, w'.heap = w.heap → (Builtin.firstCells i.size m x).run P w' = .ok news.toArray w') (h1 : ∀ u ∈ news, u.oneCell' = true)
    (hm : 0 < m) (h63 : n + m ≤ maxLen) (hby : (n + m) * i.bytes ≤ 140737488355328) :
    ∃ g cap cur w', (Builtin.append_ #[t, t2] ty #[v, x]).run P w = .ok (.slice (some ⟨g, 0, none⟩) (n + m) cap) w' ∧ w'.heap[g]? = some (.cells cur e (0, 0)) ∧ cur.size = cap * i.size ∧ n + m ≤ cap ∧ cap ≤ maxLen ∧
      cur.toList.take ((n + m) * i.size) = xs ++ news ∧ w.grownBy w' v.ownBlock ∧ (v.ownBlock = some g ∨ g = w.heap.size) := by
  have hsmall : n + m ≤ 9223372036854775807 := by simp only [maxLen] at h63; omega
  have hxl : xs.length = n * i.size := hown.1
  have hz1 : ∀ w', (match (#[t, t2] : Array TypeId)[1]? with | some xType => do pure ((← underlying xType) matches .int _) | none => pure false : Sem Bool).run P w' = .ok false w' := fun w' => by
    rcases hd with rfl | rfl <;> simp [run_underlying h2]
  have grow : ∀ (A : Option Addr) (cap : Nat), cap < n + m → (∀ w' : World, w'.heap = w.heap → (Builtin.firstCells i.size n (.slice A n cap)).run P w' = .ok xs.toArray w') →
      (Builtin.append_ #[t, t2] ty #[.slice A n cap, x]).run P w = .ok (.slice (some ⟨w.heap.size, 0, none⟩) (n + m) (grownCap w (n + m) cap e)) (w.drew.alloc (.cells (xs.toArray ++ news.toArray ++ Builtin.zeroCells z.cells (grownCap w (n + m) cap e - (n + m))) e)) := by
    intro A cap hc hold
    have hn : ¬ (n + m ≤ cap) := by omega
    have h63' : ¬ (9223372036854775807 < ((n : Int) + (m : Int))) := by omega
    have h48' : ¬ (281474976710656 < Builtin.nextslicecap (n + m) cap * i.bytes) := by have := growslice_fits (by omega : cap < n + m) hby; omega
    have ho := hold w.drew rfl
    have hn' := hf w.drew rfl
    rcases hd with rfl | rfl
    all_goals
      simp [Builtin.append_, run_underlying ht, run_underlying h2, sizeOf, typeInfo, zeroValue, hi, hz, hlen, hn, h63', h48', Question.forced, hn', ho, newRow, grownCap]
      congr 2
      apply Array.ext'
      simp [List.append_assoc]
  have fin : ∀ (A : Option Addr) (cap : Nat), v = .slice A n cap → cap < n + m → (∀ w' : World, w'.heap = w.heap → (Builtin.firstCells i.size n (.slice A n cap)).run P w' = .ok xs.toArray w') →
      ∃ g cap cur w', (Builtin.append_ #[t, t2] ty #[v, x]).run P w = .ok (.slice (some ⟨g, 0, none⟩) (n + m) cap) w' ∧ w'.heap[g]? = some (.cells cur e (0, 0)) ∧ cur.size = cap * i.size ∧ n + m ≤ cap ∧ cap ≤ maxLen ∧
      cur.toList.take ((n + m) * i.size) = xs ++ news ∧ w.grownBy w' v.ownBlock ∧ (v.ownBlock = some g ∨ g = w.heap.size) := by
    intro A cap hv hc hold
    subst hv
    have hge := grownCap_ge w (n + m) cap e
    refine ⟨_, _, _, _, grow A cap hc hold, Go.heap_alloc_new w.drew _, ?_, hge, grownCap_le_maxLen w (n + m) cap e h63, ?_, ⟨rfl, rfl, rfl, by simp, fun k hk _ => Below.heap_alloc w.drew _ k hk⟩, .inr rfl⟩
    · simp only [Array.size_append, List.size_toArray, size_zeroCells, hzs, hxl, hl, ← Nat.add_mul]
      congr 1
      omega
    · have : (n + m) * i.size = (xs ++ news).length := by rw [List.length_append, hxl, hl, Nat.add_mul]
      rw [this]
      simp only [Array.toList_append, List.append_assoc]
      rw [← List.append_assoc]
      exact List.take_left
  rcases hown.2 with ⟨hv, hn0⟩ | ⟨g, cap, cur, hv, _, hg, hnc, hcm, hcs, htake⟩
  · subst hn0
    have hx : xs = [] := List.eq_nil_of_length_eq_zero (by simpa using hxl)
    subst hx
    exact fin none 0 hv (by omega) (fun w' _ => run_firstCells_none (P := P) w' _ _ _ _)
  · by_cases hroom : n + m ≤ cap
    · have hfit : n * i.size + news.length ≤ cur.size := by rw [hl, hcs, ← Nat.add_mul]; exact Nat.mul_le_mul_right _ hroom
      have hst := run_storeCells_at P g (n * i.size) e news 0 cur w hg (by simpa using hfit) h1
      simp only [Nat.add_zero] at hst
      have hn' := hf w rfl
      subst hv
      have hrun : (Builtin.append_ #[t, t2] ty #[.slice (some ⟨g, 0, none⟩) n cap, x]).run P w = .ok (.slice (some ⟨g, 0, none⟩) (n + m) cap) (w.setRow g (cur.toList.take (n * i.size) ++ news ++ cur.toList.drop (n * i.size + news.length)).toArray) := by
        rcases hd with rfl | rfl <;> simp [Builtin.append_, run_underlying ht, run_underlying h2, sizeOf, typeInfo, hi, hlen, hroom, hn', Addr.add_lit, hst]
      refine ⟨g, cap, _, _, hrun, setRow_heap w g cur _ e _ hg, ?_, hroom, hcm, ?_, ⟨rfl, rfl, rfl, by simp, fun k _ hk => setRow_other w g k _ (fun e => hk (by simp [Value.ownBlock, e]))⟩, .inl rfl⟩
      · simp only [List.size_toArray, List.length_append, List.length_take, List.length_drop, Array.length_toList]
        omega
      · have : (n + m) * i.size = (xs ++ news).length := by rw [List.length_append, hxl, hl, Nat.add_mul]
        rw [this, htake]
        exact List.take_left
    · refine fin (some ⟨g, 0, none⟩) cap hv (by omega) (fun w' hw' => ?_)
      have hg' : w'.heap[g]? = some (.cells cur e (0, 0)) := by rw [hw']; exact hg
      refine run_firstCells_some (P := P) w' i.size n ⟨g, 0, none⟩ n cap xs hxl (fun j u hu => ?_)
      rw [Addr.add_mid, Nat.zero_add, cell_of_row w' g j cur e (0, 0) hg']
      rw [← htake, List.getElem?_take] at hu
      split at hu
      · simpa using hu
      · cases hu

theorem owns_of {G : Gh} {w : World} {id n sz : Nat} {ty : TypeId} {fz : Bool} {els : List (List CV)} {v : Value} (r : RelB G w id (some (.arr sz ty fz els))) (hn : n = els.length) (p : Reps G w (.own id n) v) :
    ∃ xs, w.ownsRow 0 ty sz v n xs ∧ RepE G.imm w sz els xs ∧ (∀ b, v.ownBlock = some b → G.own b = some id) ∧ xs.length = n * sz := by
  obtain ⟨r1, r2, r3, r4⟩ := r
  simp only [Reps] at p
  obtain ⟨sz', m, f, p1, _, _, p2⟩ := p
  rw [r1] at p1
  injection p1 with p1
  injection p1 with p1 p3
  injection p3 with p3 p4
  subst p1 p3
  rcases p2 with p2 | ⟨_, p2⟩
  · omega
  · rcases p2 with ⟨rfl, p2⟩ | ⟨b, c, cs, ty', rfl, p5, p6, p7, p8, p9⟩
    · have : els = [] := List.eq_nil_of_length_eq_zero (by omega)
      subst this
      subst p2
      exact ⟨[], World.ownsRow_nil w 0 ty sz, by simp [RepE], (fun b hb => by cases hb), by simp⟩
    · rcases r4 with ⟨r5, r6⟩ | ⟨b', cs', r5, r6, r7, r8⟩
      · exact absurd p5 (r6 b)
      · have := r3 b b' p5 r5
        subst this
        rw [r6] at p6
        injection p6 with p6
        injection p6 with p6 p10
        subst p6 p10
        have hle : n * sz ≤ cs'.size := by rw [hn]; exact r7
        refine ⟨cs'.toList.take (n * sz), ⟨by rw [List.length_take, Array.length_toList]; omega, .inr ⟨b, c, cs', rfl, Nat.zero_le _, r6, p8, p9, p7, rfl⟩⟩, ?_, fun x hx => ?_, by rw [List.length_take, Array.length_toList]; omega⟩
        · exact r8.keep (n * sz) (by rw [hn]; exact Nat.le_refl _) (by rw [List.take_take, Nat.min_self])
        · simp only [Value.ownBlock, Option.some.injEq] at hx
          subst hx
          exact r5

theorem own_end {G : Gh} {w w' : World} {id n k sz g cap : Nat} {ty : TypeId} {els els2 : List (List CV)} {v : Value} {xs news : List Value} {cur : Array Value} (hi : Inv G w) (hsz : 0 < sz) (hinf : G.inf id = some (sz, n, false)) (hn : n = els.length) (hk : k = els2.length) (hk0 : 0 < k)
    (hxs : RepE G.imm w sz els xs) (hxl : xs.length = n * sz) (hne : RepE G.imm w sz els2 news) (hg' : w'.heap[g]? = some (.cells cur ty (0, 0))) (hcs : cur.size = cap * sz) (hle : n + k ≤ cap) (hcm : cap ≤ maxLen) (htk : cur.toList.take ((n + k) * sz) = xs ++ news)
    (hg : w.grownBy w' v.ownBlock) (hv : ∀ b, v.ownBlock = some b → G.own b = some id) (hgg : v.ownBlock = some g ∨ g = w.heap.size) :
    ∃ G', Ext [id] G w G' w' ∧ Reps G' w' (.own id (n + k)) (.slice (some ⟨g, 0, none⟩) (n + k) cap) ∧ RelB G' w' id (some (.arr sz ty false (els ++ els2))) := by
  have hb : g < w'.heap.size := (Array.getElem?_eq_some_iff.1 hg').1
  have X := ext_regrow (g := some g) hi hinf hk0 hg hv (fun b hb' => by
    injection hb' with hb'
    subst hb'
    refine ⟨hb, ?_⟩
    rcases hgg with a | a
    · exact .inl (hv g a)
    · exact .inr (by omega))
  have h1 : (G.regrow id (some g) (sz, n + k, false)).own g = some id := by simp [Gh.regrow]
  have h2 : (G.regrow id (some g) (sz, n + k, false)).inf id = some (sz, n + k, false) := by simp [Gh.regrow]
  have h3 : ∀ b, (G.regrow id (some g) (sz, n + k, false)).own b = some id → b = g := fun b hb' => by
    simp only [Gh.regrow] at hb'
    split at hb'
    · rename_i e
      injection e
    · split at hb'
      · cases hb'
      · rename_i e
        exact absurd hb' e
  have hm : (n + k) * sz ≤ cur.size := by rw [hcs]; exact Nat.mul_le_mul_right _ hle
  refine ⟨_, X, ?_, by rw [h2, List.length_append, hn, hk], hsz, fun b b' e e' => by rw [h3 b e, h3 b' e'], .inr ⟨g, cur, h1, hg', by rw [List.length_append, ← hn, ← hk]; exact hm, ?_⟩⟩
  · simp only [Reps]
    exact ⟨_, _, _, h2, hsz, rfl, .inr ⟨rfl, .inr ⟨g, cap, cur, ty, rfl, h1, hg', hcs, hle, hcm⟩⟩⟩
  · refine RepE.keep (vs := xs ++ news) (RepE.mono (imm_old X hi) sz _ _ (hxs.append (by rw [hxl, hn]) hne)) ((n + k) * sz) (by rw [List.length_append, ← hn, ← hk]; exact Nat.le_refl _) ?_
    have hlen : (xs ++ news).length = (n + k) * sz := by
      have := congrArg List.length htk
      rw [List.length_take, Array.length_toList] at this
      omega
    rw [htk, ← hlen, List.take_length]

/-! ### where the new elements come from -/
def SliceSrc (G : Gh) (w : World) (els : List (List CV)) (v : Value) : Prop :=
  ∃ A c, v = .slice A els.length c ∧ els.length ≤ c ∧ els.length ≤ maxLen ∧ (els = [] ∨ ∃ b o sz cs ty fr, A = some ⟨b, o, none⟩ ∧ w.heap[b]? = some (.cells cs ty fr) ∧ 0 < sz ∧ RepE G.imm w sz els (cs.toList.drop o))

theorem rowOf_ok {q : PV} {R : List (List CV) → List Nat → Prop} (hk : rowOf h q R) : ∃ els rd, R els rd ∧ ∀ (G : Gh) (w : World) (v : Value), Inv G w → Reps G w q v → (∀ id ∈ rd, RelB G w id (nthB h id)) → SliceSrc G w els v := by
  unfold rowOf at hk
  cases q with
  | v c =>
    cases c with
    | row l =>
      refine ⟨_, _, hk, fun G w v hi hr _ => ?_⟩
      simp only [Reps, RepC] at hr
      obtain ⟨A, c, h1, h2, h3, h4⟩ := hr
      refine ⟨A, c, h1, h2, h3, ?_⟩
      rcases h4 with h4 | ⟨b, o, sz, cs, ty, fr, h5, h6, h7, h8, h9⟩
      · exact .inl h4
      · exact .inr ⟨b, o, sz, cs, ty, fr, h5, h7, h8, h9⟩
    | _ => exact hk.elim
  | nil =>
    refine ⟨_, _, hk, fun G w v hi hr _ => ?_⟩
    simp only [Reps] at hr
    subst hr
    exact ⟨none, 0, rfl, by simp, by simp [maxLen], .inl rfl⟩
  | own id n =>
    simp only at hk
    cases hb : nthB h id with
    | none => rw [hb] at hk; exact hk.elim
    | some B =>
      rw [hb] at hk
      cases B with
      | box _ _ => exact hk.elim
      | arr sz ty fz els =>
        obtain ⟨hn, hk⟩ := hk
        refine ⟨_, _, hk, fun G w v hi hr hrd => ?_⟩
        have r := hrd id (by simp)
        rw [hb] at r
        obtain ⟨r1, r2, r3, r4⟩ := r
        simp only [Reps] at hr
        obtain ⟨sz', m, f, p1, _, _, p2⟩ := hr
        rw [r1] at p1
        injection p1 with p1
        injection p1 with p1 p3
        injection p3 with p3 p4
        subst p1 p3
        rcases p2 with p2 | ⟨_, p2⟩
        · omega
        · rcases p2 with ⟨rfl, p2⟩ | ⟨b, c, cs, ty', rfl, p5, p6, p7, p8, p9⟩
          · have : els = [] := List.eq_nil_of_length_eq_zero (by omega)
            subst this
            exact ⟨none, 0, rfl, by simp, by simp [maxLen], .inl rfl⟩
          · refine ⟨some ⟨b, 0, none⟩, c, by rw [hn], by omega, Nat.le_trans (by omega) p9, ?_⟩
            rcases r4 with ⟨r5, _⟩ | ⟨b', cs', r5, r6, r7, r8⟩
            · exact .inl r5
            · have := r3 b b' p5 r5
              subst this
              exact .inr ⟨b, 0, sz, cs', ty, (0, 0), rfl, r6, r2, by simpa using r8⟩
  | _ => exact hk.elim

/-- What an append reads of its second operand. -/
def SrcOk (P : Program) (G : Gh) (w : World) (t2 e sz : Nat) (els : List (List CV)) (x : Value) : Prop :=
  ∃ d2 news, P.underlying t2 = some d2 ∧ (d2 = .slice e ∨ d2 = .string) ∧ news.length = els.length * sz ∧ (∀ w' : World, (Builtin.lenOf x).run P w' = .ok els.length w') ∧
    (∀ w' : World, w'.heap = w.heap → (Builtin.firstCells sz els.length x).run P w' = .ok news.toArray w') ∧ (∀ u ∈ news, u.oneCell' = true) ∧ RepE G.imm w sz els news

theorem str_rep (I : Nat → Prop) (w : World) : ∀ l : List UInt8, RepE I w 1 ((l.map fun b => (b.toNat : Int)).map fun b => [CV.i .u8 b]) (l.map fun b => Value.int .u8 b.toNat)
  | [] => by simp [RepE]
  | b :: r => by
    simp only [List.map_cons, RepE, RepP, RepC]
    refine ⟨rfl, ⟨_, _, rfl, rfl, trivial⟩, ?_⟩
    simpa using str_rep I w r

theorem src_ok {sz t t2 e : Nat} {i2 : TI} {q : PV} {R : List (List CV) → List Nat → Prop} (hf2 : TyFact E.P t2 i2) (ht : E.P.underlying t = some (.slice e)) (hk : aSrc h sz t t2 i2.k q R) : ∃ els rd, R els rd ∧
    ((0 < sz ∧ ∀ x ∈ els, x.length = sz) → ∀ (G : Gh) (w : World) (v : Value), Inv G w → Reps G w q v → (∀ id ∈ rd, RelB G w id (nthB h id)) → SrcOk E.P G w t2 e sz els v) := by
  have h2 := hf2.2.1
  unfold aSrc at hk
  split at hk
  · rename_i k2 q2 x hk2
    rw [hk2] at h2
    obtain ⟨hs, hk⟩ := hk
    subst hs
    refine ⟨_, _, hk, fun _ G w v hi hr _ => ?_⟩
    simp only [Reps, RepC] at hr
    subst hr
    have hlen : ((bytesOf x).map fun b => [CV.i .u8 b]).length = x.size := by rw [List.length_map, bytesOf_length]
    refine ⟨.string, x.data.toList.map (fun b => Value.int .u8 b.toNat), h2, .inr rfl, ?_, fun w' => ?_, fun w' _ => ?_, ?_, ?_⟩
    · rw [hlen, List.length_map, Nat.mul_one]
      rfl
    · rw [hlen]
      simp [Builtin.lenOf]
    · rw [hlen]
      simp only [Builtin.firstCells, Sem.run_pure]
      congr 1
      apply Array.ext'
      simp
    · intro u hu
      obtain ⟨b, _, rfl⟩ := List.mem_map.1 hu
      rfl
    · exact str_rep G.imm w _
  · rename_i k2 q2 e2 q3 hk2
    obtain ⟨rfl, hk⟩ := hk
    obtain ⟨els, rd, h3, h4⟩ := rowOf_ok hk
    refine ⟨els, rd, h3, fun hsz G w v hi hr hrd => ?_⟩
    obtain ⟨A, c, rfl, h5, h6, h7⟩ := h4 G w v hi hr hrd
    rcases h7 with rfl | ⟨b, o, sz', cs, ty, fr, rfl, h8, h9, h10⟩
    · refine ⟨_, [], ht, .inl rfl, by simp, fun w' => by simp [Builtin.lenOf], fun w' _ => ?_, by simp, by simp [RepE]⟩
      cases A with
      | none => exact run_firstCells_none (P := E.P) w' _ _ _ _
      | some a => exact run_firstCells_some (P := E.P) w' _ _ a _ _ [] (by simp) (fun j u hu => by simp at hu)
    · by_cases he : els = []
      · subst he
        refine ⟨_, [], ht, .inl rfl, by simp, fun w' => by simp [Builtin.lenOf], fun w' _ => ?_, by simp, by simp [RepE]⟩
        exact run_firstCells_some (P := E.P) w' _ _ _ _ _ [] (by simp) (fun j u hu => by simp at hu)
      · obtain ⟨y, hy⟩ := List.exists_mem_of_ne_nil els he
        have e1 : sz' = sz := (h10.size y hy).symm.trans (hsz.2 y hy)
        subst e1
        have hl := h10.len h9
        rw [List.length_drop, Array.length_toList] at hl
        refine ⟨_, (cs.toList.drop o).take (els.length * sz'), ht, .inl rfl, ?_, fun w' => by simp [Builtin.lenOf], fun w' hw' => ?_, h10.one, ?_⟩
        · rw [List.length_take, List.length_drop, Array.length_toList]
          omega
        · refine run_firstCells_some (P := E.P) w' _ _ _ _ _ _ (by rw [List.length_take, List.length_drop, Array.length_toList]; omega) (fun j u hu => ?_)
          rw [Addr.add_mid]
          exact range_of (by rw [hw']; exact h8) _ j u hu
        · exact h10.keep (els.length * sz') (Nat.le_refl _) (by rw [List.take_take, Nat.min_self])
  · exact hk.elim

def Gh.name (G : Gh) (id : Nat) (r : Nat × Nat × Bool) : Gh := { G with inf := fun x => if x = id then some r else G.inf x }
theorem ext_name {G : Gh} {w : World} (hi : Inv G w) (id : Nat) (r : Nat × Nat × Bool) (h0 : RelB G w id none) : Ext [id] G w (G.name id r) w where
  os := rfl
  tape := rfl
  output := rfl
  size := Nat.le_refl _
  base := rfl
  old := rfl
  nn := fun b _ h => ⟨h, rfl⟩
  sm := fun b i h => ⟨fun _ => ⟨h, rfl⟩, .inl h⟩
  same := fun b i cs ty _ _ _ h => ⟨cs, h, rfl⟩
  fz := fun b i sz n h _ => ⟨h, rfl⟩
  inf := fun i sz n f hf => by
    refine ⟨n, f, ?_, Nat.le_refl _, fun e => ⟨e, rfl⟩, fun _ b hb => hb⟩
    simp only [Gh.name]
    rw [if_neg]
    · exact hf
    · intro e
      subst e
      rw [h0.1] at hf
      cases hf
  out := fun i hn => by
    simp only [Gh.name]
    rw [if_neg (by simpa using hn)]
  new := fun b i h1 h2 => absurd (hi.own b i h2) (by omega)
  keep := hi.own
theorem name_nil {G : Gh} {w : World} (hi : Inv G w) {id sz : Nat} (hsz : 0 < sz) (ty : TypeId) (h0 : RelB G w id none) :
    RelB (G.name id (sz, 0, false)) w id (some (.arr sz ty false [])) ∧ Reps (G.name id (sz, 0, false)) w (.own id 0) (.slice none 0 0) := by
  refine ⟨⟨by simp [Gh.name], hsz, fun b b' e => absurd e (h0.2 b), .inl ⟨rfl, h0.2⟩⟩, ?_⟩
  simp only [Reps]
  exact ⟨sz, 0, false, by simp [Gh.name], hsz, rfl, .inr ⟨rfl, .inl ⟨rfl, rfl⟩⟩⟩

theorem run_app0 {P : Program} {w : World} {t t2 ty e : TypeId} {i : TypeInfo} {d2 : TypeDesc} (ht : P.underlying t = some (.slice e)) (hi : P.info? e = some i)
    (h2 : P.underlying t2 = some d2) (hd : d2 = .slice e ∨ d2 = .string) {v : Value} {n : Nat} {xs : List Value} (hown : w.ownsRow 0 e i.size v n xs) {x : Value}
    (hlen : ∀ w' : World, (Builtin.lenOf x).run P w' = .ok 0 w') (hf : ∀ w' : World, w'.heap = w.heap → (Builtin.firstCells i.size 0 x).run P w' = .ok #[] w') :
    (Builtin.append_ #[t, t2] ty #[v, x]).run P w = .ok v w := by
  have hn' := hf w rfl
  have h3 : ∃ A c, v = .slice A n c ∧ n ≤ c := by
    rcases hown.2 with ⟨rfl, rfl⟩ | ⟨g, cap, cur, rfl, _, _, hnc, _⟩
    · exact ⟨none, 0, rfl, Nat.le_refl _⟩
    · exact ⟨_, cap, rfl, hnc⟩
  obtain ⟨A, c, rfl, hc⟩ := h3
  rcases hd with rfl | rfl <;> cases A <;> simp [Builtin.append_, run_underlying ht, run_underlying h2, sizeOf, typeInfo, hi, hlen, hc, hn', storeCells]

theorem append_core {w : World} {G : Gh} {t t2 ty id n sz : Nat} {j : TI} {e : Nat} {els els2 : List (List CV)} {v x : Value} (hi : Inv G w) (ht : E.P.underlying t = some (.slice e)) (hj : TyFact E.P e j) (hsz : sz = j.size) (hz : 0 < sz)
    (r : RelB G w id (some (.arr sz e false els))) (hn : n = els.length) (hv : Reps G w (.own id n) v) (hx : SrcOk E.P G w t2 e sz els2 x) (h63 : els.length + els2.length ≤ maxLen) (hby : (els.length + els2.length) * j.bytes ≤ 140737488355328) :
    ∃ v' w' G', (Builtin.append_ #[t, t2] ty #[v, x]).run E.P w = .ok v' w' ∧ Ext [id] G w G' w' ∧ Reps G' w' (.own id (els.length + els2.length)) v' ∧ RelB G' w' id (some (.arr sz e false (els ++ els2))) := by
  obtain ⟨inf, hi1, hi2, hi3, hi4⟩ := hj.info
  obtain ⟨xs, h1, h2, h3, h4⟩ := owns_of r hn hv
  obtain ⟨d2, news, s1, s2, s3, s4, s5, s6, s7⟩ := hx
  have hsz' : inf.size = sz := by rw [hi2, hsz]
  rw [← hsz'] at h1 s3 s5
  by_cases hm : els2 = []
  · subst hm
    have hnews : news = [] := List.eq_nil_of_length_eq_zero (by simpa using s3)
    subst hnews
    refine ⟨v, w, G, run_app0 ht hi1 s1 s2 h1 (by simpa using s4) (by simpa using s5), Ext.refl hi _, ?_, by rw [List.append_nil]; exact r⟩
    rw [List.length_nil, Nat.add_zero, ← hn]
    exact hv
  · have hm0 : 0 < els2.length := List.length_pos_iff.2 hm
    obtain ⟨g, cap, cur, w', a1, a2, a3, a4, a5, a6, a7, a8⟩ := run_app ht hi1 hi4 (by rw [hj.2.2, hi2]) s1 s2 h1 s3 s4 s5 s6 hm0 (by rw [hn]; exact h63) (by rw [hn, hi3]; exact hby)
    rw [hsz'] at a3 a6
    obtain ⟨G', b1, b2, b3⟩ := own_end hi hz (by rw [hn]; exact r.1) hn rfl hm0 h2 h4 s7 a2 a3 a4 a5 a6 a7 h3 a8
    rw [hn] at b2 a1
    exact ⟨_, w', G', a1, b1, b2, b3⟩
end
end Go.Proofs.YthkepmicdpgbbaaGreatDoor.E

/- Each operation comes to what is told of it: appends, makes, literals. -/
namespace Go.Proofs.YthkepmicdpgbbaaGreatDoor.E
open Go Go.RowKit Go.Proofs.YthkepmicdpgbbaaGreatDoorW.PrintWords
set_option linter.unusedVariables false
set_option linter.unusedSimpArgs false

section
variable {E : Env} {h : List Blk} {K : Kont}

theorem append_ok {t t2 ty : Nat} {p q : PV} (hk : aAppend E h t t2 p q K) : Step E.P h (fun G w m => ∃ v x, Reps G w p v ∧ Reps G w q x ∧ m = Builtin.append_ #[t, t2] ty #[v, x]) K := by
  unfold aAppend at hk
  cases hl : look E.T t with
  | none => rw [hl] at hk; exact hk.elim
  | some i =>
    cases hl2 : look E.T t2 with
    | none => rw [hl, hl2] at hk; exact hk.elim
    | some i2 =>
      rw [hl, hl2] at hk
      simp only at hk
      have hf := Env.fact hl
      have hf2 := Env.fact hl2
      cases hik : i.k with
      | slice e =>
        rw [hik] at hk
        simp only at hk
        have ht : E.P.underlying t = some (.slice e) := by have := hf.2.1; rw [hik] at this; exact this
        cases hle : look E.T e with
        | none => rw [hle] at hk; exact hk.elim
        | some j =>
          rw [hle] at hk
          simp only at hk
          have hj := Env.fact hle
          obtain ⟨els2, rd, ⟨hz, hel, hk⟩, hsrc⟩ := src_ok hf2 ht hk
          have hs := hsrc ⟨hz, hel⟩
          cases p with
          | own id n =>
            simp only at hk
            cases hb : nthB h id with
            | none => rw [hb] at hk; exact hk.elim
            | some B =>
              rw [hb] at hk
              cases B with
              | box _ _ => exact hk.elim
              | arr sz ty' fz els =>
                cases fz with
                | true => exact hk.elim
                | false =>
                  simp only at hk
                  obtain ⟨k1, k2, k3, els', rfl, k4, k5, hk⟩ := hk
                  subst k2 k3
                  rw [List.length_append] at k4 k5 hk
                  refine ⟨_, _, _, _, hk, fun x hx => nthB_putB_ne h id x _ (by simpa using hx), by rw [len_putB]; exact Nat.le_refl _, fun G w m hi hm hr => ?_⟩
                  obtain ⟨v, x, hv, hx, rfl⟩ := hm
                  have r := hr id (by simp)
                  rw [hb] at r
                  obtain ⟨v', w', G', a1, a2, a3, a4⟩ := append_core (ty := ty) hi ht hj rfl hz r k1 hv (hs G w x hi hx (fun id hid => hr id (.inl hid))) k5 k4
                  refine ⟨v', w', G', a1, a2, a3, fun x hx => ?_⟩
                  simp only [List.mem_singleton] at hx
                  subst hx
                  rw [nthB_putB_same _ hb]
                  exact a4
          | nil =>
            simp only at hk
            obtain ⟨k4, k5, hk⟩ := hk
            refine ⟨_, _, _, _, hk, keeps_push h _, len_push h _, fun G w m hi hm hr => ?_⟩
            obtain ⟨v, x, hv, hx, rfl⟩ := hm
            simp only [Reps] at hv
            subst hv
            have h0 := none_at h (hr (len h) (by simp))
            have X0 := ext_name hi (len h) (j.size, 0, false) h0
            have hi0 := hi.ext X0
            obtain ⟨n1, n2⟩ := name_nil hi hz e h0
            obtain ⟨d2, news, s1, s2, s3, s4, s5, s6, s7⟩ := hs G w x hi hx (fun id hid => hr id (.inl hid))
            obtain ⟨v', w', G', a1, a2, a3, a4⟩ := append_core (ty := ty) (els := []) hi0 ht hj rfl hz n1 rfl n2 ⟨d2, news, s1, s2, s3, s4, s5, s6, RepE.mono (imm_old X0 hi) _ _ _ s7⟩ (by simpa using k5) (by simpa using k4)
            simp only [List.length_nil, Nat.zero_add, List.nil_append] at a3 a4
            refine ⟨v', w', G', a1, (Ext.trans hi X0 a2).mono (fun x hx => by simpa using hx), a3, fun x hx => ?_⟩
            simp only [List.mem_singleton] at hx
            subst hx
            rw [nthB_new]
            exact a4
          | _ => exact hk.elim
      | _ => rw [hik] at hk; exact hk.elim

theorem rep_repl {I : Nat → Prop} {w : World} {cvs : List CV} {zs : List Value} (h1 : RepP I w cvs zs) (hl : zs.length = cvs.length) : ∀ (n : Nat) (vs : List Value), (∀ q, q < n * cvs.length → vs[q]? = zs[q % cvs.length]?) → RepE I w cvs.length (List.replicate n cvs) vs
  | 0, vs, _ => by simp [RepE]
  | n + 1, vs, hv => by
    simp only [List.replicate_succ, RepE]
    refine ⟨by simp, ?_, rep_repl h1 hl n _ fun q hq => ?_⟩
    · have e1 : vs.take cvs.length = zs := by
        apply List.ext_getElem?
        intro q
        rw [List.getElem?_take]
        split
        · rename_i hq
          rw [hv q (by rw [Nat.add_mul, Nat.one_mul]; omega), Nat.mod_eq_of_lt hq]
        · rw [List.getElem?_eq_none]
          omega
      rw [← e1] at h1
      exact h1.of_take _
    · rw [List.getElem?_drop, hv _ (by rw [Nat.add_mul, Nat.one_mul]; omega), Nat.add_mod_left]

theorem makeSlice_ok {t : Nat} {p q : PV} (hk : aMakeSlice E h t p q K) : Step E.P h (fun G w m => ∃ v x, Reps G w p v ∧ Reps G w q x ∧ m = Instr.makeSlice t v x) K := by
  unfold aMakeSlice at hk
  split at hk
  · rename_i i k1 n k2 c hl
    have hf := Env.fact hl
    split at hk
    · rename_i e hik
      have ht : E.P.underlying t = some (.slice e) := by have := hf.2.1; rw [hik] at this; exact this
      cases hle : look E.T e with
      | none => rw [hle] at hk; exact hk.elim
      | some j =>
        rw [hle] at hk
        simp only at hk
        have hj := Env.fact hle
        cases hc : pcells (ofV j.zero) with
        | none => rw [hc] at hk; exact hk.elim
        | some z =>
          rw [hc] at hk
          simp only at hk
          obtain ⟨cvs, f, ⟨rfl, rfl, z1, z2, z3, z4, z5, els', rfl, hk⟩, f1, f2, f3⟩ := toCs_ok hk
          rw [List.length_replicate] at hk
          refine ⟨_, _, _, _, hk, keeps_push h _, len_push h _, fun G w m hi hm hr => ?_⟩
          obtain ⟨v, x, hv, hx, rfl⟩ := hm
          simp only [Reps, RepC] at hv hx
          subst hv hx
          obtain ⟨N, rfl⟩ := Int.eq_ofNat_of_zero_le z1
          obtain ⟨inf, i1, i2, i3, i4⟩ := hj.info
          obtain ⟨q1, q2⟩ := pcells_ok hc (ofV_ok G w j.zero)
          have hz := q1.length
          rw [Array.length_toList] at hz
          have hN : N ≤ 9223372036854775807 := by omega
          have hw : IntKind.i64.wrap (N : Int) = N := by simp [IntKind.wrap, IntKind.signed, IntKind.bits]; omega
          have h0 := none_at h (hr (len h) (by simp))
          have hcv := f3 G w _ [] hi q1 (fun id hid => by cases hid) (fun id hid => by cases hid)
          have hG : G.frz [] = G := by simp [Gh.frz]
          rw [hG] at hcv
          have hrun := run_make (P := E.P) w t e inf j.zero ht i1 i4 k1 k2 (N : Int) (N : Int) z1 (Int.le_refl _) (by rw [i3]; exact z2) z3
          rw [Int.toNat_natCast, i2] at hrun
          have hcs : (madeCells j.zero.cells (N * j.size)).size = N * j.size := size_madeCells _ _
          have hrep : RepE G.imm w j.size (List.replicate N cvs) (madeCells j.zero.cells (N * j.size)).toList := by
            have := rep_repl hcv (by rw [Array.length_toList, hz, f2]) N (madeCells j.zero.cells (N * j.size)).toList (fun q hq => ?_)
            · rw [f2, ← z5] at this
              exact this
            · rw [f2, ← z5] at hq
              have h3 : 0 < j.zero.cells.size := by omega
              have hq2 : q % j.zero.cells.size < j.zero.cells.size := Nat.mod_lt _ h3
              rw [f2, ← hz, Array.getElem?_toList, Array.getElem?_toList]
              simp [madeCells, hq, hq2]
          obtain ⟨x1, x2, x3⟩ := new_arr hi z4 h0 (ty := e) hrep hcs (by rw [List.length_replicate]; exact Nat.le_refl _) (by simp only [maxLen]; omega)
          rw [List.length_replicate] at x1 x2
          refine ⟨_, _, _, hrun, x1, x2, fun y hy => ?_⟩
          simp only [List.mem_singleton] at hy
          subst hy
          rw [nthB_new]
          rw [List.length_replicate] at x3
          exact x3
    · exact hk.elim
  · exact hk.elim

theorem fold_put : ∀ (l : List Value) (k off : Nat) (cells : Array Value), off + k + l.length ≤ cells.size →
    ((l.zipIdx k).foldl (fun (cs : Array Value) (x : Value × Nat) => cs.setIfInBounds (off + x.2) x.1) cells).toList = cells.toList.take (off + k) ++ l ++ cells.toList.drop (off + k + l.length)
  | [], k, off, cells, _ => by simp
  | v :: r, k, off, cells, hl => by
    simp only [List.length_cons] at hl
    simp only [List.zipIdx_cons, List.foldl_cons]
    rw [fold_put r (k + 1) off _ (by simp; omega)]
    have h1 : (cells.setIfInBounds (off + k) v).toList = cells.toList.take (off + k) ++ v :: cells.toList.drop (off + k + 1) := by
      rw [Array.toList_setIfInBounds, List.set_eq_take_append_cons_drop, if_pos (by simp; omega)]
    rw [h1]
    have e1 : off + (k + 1) = (cells.toList.take (off + k)).length + 1 := by simp; omega
    have e2 : off + (k + 1) + r.length = (cells.toList.take (off + k)).length + (1 + r.length) := by simp; omega
    rw [e2, e1, List.take_length_add_append, List.drop_length_add_append]
    simp only [List.take_succ_cons, List.take_zero, List.length_cons]
    rw [Nat.add_comm 1 r.length, List.drop_succ_cons, List.drop_drop]
    simp only [List.append_assoc, List.cons_append, List.nil_append]
    congr 4
    omega

theorem fill_ok {G : Gh} {w : World} {pl : Nat → Option (Nat × Nat)} : ∀ {parts : List (Nat × PV)} {vs : List (Nat × Value)} {cs cs' : List PV} {cells : Array Value}, fillP pl cs parts = some cs' → RepsL G w cs cells.toList →
    (∀ u ∈ cells.toList, u.oneCell' = true) → parts.map (·.1) = vs.map (·.1) → RepsL G w (parts.map (·.2)) (vs.map (·.2)) →
    ∃ cells', Instr.fill pl cells vs = some cells' ∧ RepsL G w cs' cells'.toList ∧ cells'.size = cells.size ∧ ∀ u ∈ cells'.toList, u.oneCell' = true
  | [], vs, cs, cs', cells, hf, hr, h1, hi, hp => by
    cases vs with
    | cons v r => simp at hi
    | nil =>
      simp only [fillP, Option.some.injEq] at hf
      subst hf
      exact ⟨cells, rfl, hr, rfl, h1⟩
  | x :: parts, [], cs, cs', cells, hf, hr, h1, hi, hp => by simp at hi
  | x :: parts, v :: vs, cs, cs', cells, hf, hr, h1, hi, hp => by
    simp only [List.map_cons, List.cons.injEq] at hi
    simp only [List.map_cons, RepsL] at hp
    obtain ⟨u, us, hu, hp1, hp2⟩ := hp
    injection hu with hu1 hu2
    subst hu1 hu2
    simp only [fillP] at hf
    rw [hi.1] at hf
    cases hpl : pl v.1 with
    | none => rw [hpl] at hf; cases hf
    | some q =>
      cases hc : pcells x.2 with
      | none => rw [hpl, hc] at hf; cases hf
      | some ds =>
        rw [hpl, hc] at hf
        simp only at hf
        cases hb : (Nat.beq (len ds) q.2 && Nat.ble (q.1 + len ds) (len cs)) with
        | false => rw [hb] at hf; cases hf
        | true =>
          rw [hb, cond_true] at hf
          rw [Bool.and_eq_true] at hb
          have b1 := Nat.eq_of_beq_eq_true hb.1
          have b2 := Nat.le_of_ble_eq_true hb.2
          rw [len_eq] at b1 b2
          rw [len_eq] at b2
          obtain ⟨p1, p2⟩ := pcells_ok hc hp1
          have l1 := p1.length
          have l2 := hr.length
          rw [Array.length_toList] at l1 l2
          have hfold := fold_put v.2.cells.toList 0 q.1 cells (by rw [Array.length_toList]; omega)
          simp only [Nat.add_zero] at hfold
          let cells2 : Array Value := v.2.cells.zipIdx.foldl (fun (cs : Array Value) (x : Value × Nat) => cs.setIfInBounds (q.1 + x.2) x.1) cells
          have hc2 : cells2.toList = cells.toList.take q.1 ++ v.2.cells.toList ++ cells.toList.drop (q.1 + v.2.cells.toList.length) := by
            rw [← hfold]
            simp only [cells2]
            rw [← Array.foldl_toList, Array.toList_zipIdx]
          have hsz : cells2.size = cells.size := by
            rw [← Array.length_toList, hc2]
            simp only [List.length_append, List.length_take, List.length_drop, Array.length_toList]
            omega
          obtain ⟨cells', r1, r2, r3, r4⟩ := fill_ok (cells := cells2) hf (by rw [hc2]; exact hr.put_list q.1 p1) (fun z hz => by
            rw [hc2] at hz
            simp only [List.mem_append] at hz
            rcases hz with (hz | hz) | hz
            · exact h1 z (List.mem_of_mem_take hz)
            · exact p2 z hz
            · exact h1 z (List.mem_of_mem_drop hz)) hi.2 hp2
          refine ⟨cells', ?_, r2, r3.trans hsz, r4⟩
          obtain ⟨a, b⟩ := v
          obtain ⟨q1, q2⟩ := q
          simp only [Instr.fill]
          rw [hpl]
          simp only
          rw [if_neg]
          · exact r1
          · simp only [ne_eq, gt_iff_lt, Bool.or_eq_true, decide_eq_true_eq, not_or, Decidable.not_not, Nat.not_lt]
            simp only at l1 b1 b2
            omega

theorem nthF_eq : ∀ (fs : List (Nat × Nat)) (n : Nat), nthF fs n = fs[n]?
  | [], _ => rfl
  | _ :: _, 0 => rfl
  | _ :: r, n + 1 => by simpa [nthF] using nthF_eq r n
theorem places_of (P : Program) : ∀ (l : List Field) (fs : List (Nat × Nat)), (l.map fun f => (f.offset, f.type)).map (fun x => (x.1, (P.info? x.2).map (·.size))) = fs.map (fun x => (x.1, some x.2)) →
    l.mapM (fun f => (P.info? f.type).map fun i => (f.offset, i.size)) = some fs
  | [], [], _ => rfl
  | [], _ :: _, h => by simp at h
  | _ :: _, [], h => by simp at h
  | f :: l, y :: fs, h => by
    simp only [List.map_cons, List.cons.injEq, Prod.mk.injEq] at h
    have ih := places_of P l fs h.2
    obtain ⟨i, h1, h2⟩ := Option.map_eq_some_iff.1 h.1.2
    simp only [List.mapM_cons, ih, h1]
    simp [h.1.1, h2]

theorem build_ok {t : Nat} {parts : List (Nat × PV)} (hk : aBuild E h t parts K) : Step E.P h (fun G w m => ∃ vs : List (Nat × Value), parts.map (·.1) = vs.map (·.1) ∧ RepsL G w (parts.map (·.2)) (vs.map (·.2)) ∧ m = Instr.build t vs.toArray) K := by
  unfold aBuild at hk
  cases hl : look E.T t with
  | none => rw [hl] at hk; exact hk.elim
  | some i =>
    rw [hl] at hk
    simp only at hk
    have hf := Env.fact hl
    cases hc : pcells (ofV i.zero) with
    | none => rw [hc] at hk; exact hk.elim
    | some z =>
      rw [hc] at hk
      simp only at hk
      cases hik : i.k with
      | struct fs =>
        rw [hik] at hk
        simp only at hk
        cases hfp : fillP (nthF fs) z parts with
        | none => rw [hfp] at hk; exact hk.elim
        | some cs =>
          rw [hfp] at hk
          refine Step.pure hk fun G w m hi hm => ?_
          obtain ⟨vs, v1, v2, rfl⟩ := hm
          obtain ⟨q1, q2⟩ := pcells_ok hc (ofV_ok G w i.zero)
          obtain ⟨cells', r1, r2, r3, r4⟩ := fill_ok hfp q1 q2 v1 v2
          refine ⟨.agg cells', ?_, by simp only [Reps]; exact ⟨cells', rfl, r2⟩⟩
          obtain ⟨fields, u1, u2⟩ := hf.struct hik
          obtain ⟨inf, i1, i2, i3, i4⟩ := hf.info
          have hp := places_of E.P fields.toList fs u2
          have hfun : nthF fs = fun x => fs[x]? := funext (nthF_eq fs)
          rw [hfun] at r1
          simp [Instr.build, run_underlying u1, typeInfo, zeroValue, i1, i4, Array.mapM_eq_mapM_toList, run_places w _ _ hp, r1]
      | array n e =>
        rw [hik] at hk
        simp only at hk
        have h2 := hf.2.1
        rw [hik] at h2
        cases parts with
        | cons _ _ => exact hk.elim
        | nil =>
          cases hle : look E.T e with
          | none => rw [hle] at hk; exact hk.elim
          | some y =>
            rw [hle] at hk
            refine Step.pure hk fun G w m hi hm => ?_
            obtain ⟨vs, v1, v2, rfl⟩ := hm
            obtain rfl : vs = [] := by
              cases vs with
              | nil => rfl
              | cons _ _ => simp at v1
            obtain ⟨q1, q2⟩ := pcells_ok hc (ofV_ok G w i.zero)
            refine ⟨.agg i.zero.cells, ?_, by simp only [Reps]; exact ⟨_, rfl, q1⟩⟩
            obtain ⟨inf, i1, i2, i3, i4⟩ := hf.info
            simp [Instr.build, Instr.fill, run_underlying h2, typeInfo, zeroValue, i1, i4, (Env.fact hle).sizeOf w]
      | _ => rw [hik] at hk; exact hk.elim

theorem chunks_rep {I : Nat → Prop} {w : World} {sz : Nat} : ∀ (n : Nat) {cvs : List CV} {vs : List Value}, RepP I w cvs vs → cvs.length = n * sz → RepE I w sz (chunks sz n cvs) vs
  | 0, cvs, vs, _, _ => by simp [chunks, RepE]
  | n + 1, cvs, vs, hr, hl => by
    rw [Nat.add_mul, Nat.one_mul] at hl
    simp only [chunks, RepE]
    exact ⟨by rw [List.length_take]; omega, (RepP.take sz hr).of_take _, chunks_rep n (hr.drop sz) (by rw [List.length_drop]; omega)⟩
theorem zeros_rep {G : Gh} {w : World} {z : List PV} {zs : List Value} (hr : RepsL G w z zs) : ∀ (n : Nat) (vs : List Value), vs.length = n * zs.length → (∀ q, q < n * zs.length → vs[q]? = zs[q % zs.length]?) → RepsL G w (zeros z n) vs
  | 0, vs, hl, _ => by
    have : vs = [] := List.eq_nil_of_length_eq_zero (by simpa using hl)
    subst this
    simp [zeros, RepsL]
  | n + 1, vs, hl, hv => by
    rw [Nat.add_mul, Nat.one_mul] at hl
    simp only [zeros]
    have e1 : vs.take zs.length = zs := by
      apply List.ext_getElem?
      intro q
      rw [List.getElem?_take]
      split
      · rename_i hq
        rw [hv q (by rw [Nat.add_mul, Nat.one_mul]; omega), Nat.mod_eq_of_lt hq]
      · rw [List.getElem?_eq_none]
        omega
    have h2 := zeros_rep hr n (vs.drop zs.length) (by rw [List.length_drop]; omega) (fun q hq => by
      rw [List.getElem?_drop, hv _ (by rw [Nat.add_mul, Nat.one_mul]; omega), Nat.add_mod_left])
    have h3 := hr.append h2
    have e2 : zs ++ vs.drop zs.length = vs := by
      conv => lhs; lhs; rw [← e1]
      exact List.take_append_drop _ _
    rw [e2] at h3
    exact h3

theorem chunks_length {α : Type} (sz : Nat) : ∀ (n : Nat) (l : List α), (chunks sz n l).length = n
  | 0, _ => rfl
  | n + 1, l => by simp [chunks, chunks_length sz n]

theorem buildSlice_ok {t n : Nat} {parts : List (Nat × PV)} (hk : aBuildSlice E h t n parts K) : Step E.P h (fun G w m => ∃ vs : List (Nat × Value), parts.map (·.1) = vs.map (·.1) ∧ RepsL G w (parts.map (·.2)) (vs.map (·.2)) ∧ m = Instr.buildSlice t n vs.toArray) K := by
  unfold aBuildSlice at hk
  cases hl : look E.T t with
  | none => rw [hl] at hk; exact hk.elim
  | some i =>
    rw [hl] at hk
    simp only at hk
    have hf := Env.fact hl
    split at hk
    · rename_i e hik
      have ht : E.P.underlying t = some (.slice e) := by have := hf.2.1; rw [hik] at this; exact this
      cases hle : look E.T e with
      | none => rw [hle] at hk; exact hk.elim
      | some j =>
        rw [hle] at hk
        simp only at hk
        have hj := Env.fact hle
        cases hc : pcells (ofV j.zero) with
        | none => rw [hc] at hk; exact hk.elim
        | some z =>
          rw [hc] at hk
          simp only at hk
          cases hfp : fillP (fun q => some (q * j.size, j.size)) (zeros z n) parts with
          | none => rw [hfp] at hk; exact hk.elim
          | some cs =>
            rw [hfp] at hk
            simp only at hk
            obtain ⟨cvs, f, ⟨k1, k2, els', rfl, hk⟩, f1, f2, f3⟩ := toCs_ok hk
            rw [chunks_length] at hk
            have hfl : ∀ x ∈ f, x < len h := fun x hx => by
              have a := f1 x hx
              cases hb : nthB h x with
              | none => rw [hb] at a; exact a.elim
              | some B => exact nthB_lt hb
            refine ⟨_, _, _, _, hk, fun x hx => ?_, by rw [len_append, len_frz]; omega, fun G w m hi hm hr => ?_⟩
            · simp only [List.mem_cons, not_or] at hx
              rw [nthB_push _ _ _ (by rw [len_frz]; exact hx.1), nthB_frz, if_neg hx.2]
            obtain ⟨vs, v1, v2, rfl⟩ := hm
            obtain ⟨q1, q2⟩ := pcells_ok hc (ofV_ok G w j.zero)
            obtain ⟨inf, i1, i2, i3, i4⟩ := hj.info
            have hz := q1.length
            rw [Array.length_toList] at hz
            have hzs : j.zero.cells.size = j.size := hj.2.2
            have hzero : RepsL G w (zeros z n) (madeCells j.zero.cells (n * j.size)).toList := by
              refine zeros_rep q1 n _ ?_ fun q hq => ?_
              · rw [Array.length_toList, size_madeCells, Array.length_toList, hzs]
              · rw [Array.length_toList, hzs] at hq
                have hq2 : q % j.zero.cells.size < j.zero.cells.size := Nat.mod_lt _ (by omega)
                rw [Array.getElem?_toList, Array.getElem?_toList, Array.length_toList]
                simp [madeCells, hq, hq2]
            have hone : ∀ u ∈ (madeCells j.zero.cells (n * j.size)).toList, u.oneCell' = true := fun u hu => by
              simp only [madeCells, Array.toList_map, List.mem_map] at hu
              obtain ⟨q, hq, rfl⟩ := hu
              have hq2 : q % j.zero.cells.size < j.zero.cells.size := Nat.mod_lt _ (by omega)
              have e1 : j.zero.cells[q % j.zero.cells.size]! = j.zero.cells[q % j.zero.cells.size] := by simp [hq2]
              rw [e1]
              exact q2 _ (by simp)
            obtain ⟨cells', r1, r2, r3, r4⟩ := fill_ok hfp hzero hone v1 v2
            have hrun : (Instr.buildSlice t n vs.toArray).run E.P w = .ok (.slice (some ⟨w.heap.size, 0, none⟩) n n) (w.alloc (.cells cells' e)) := by
              have hs : ¬ 2 ^ 24 < n * inf.size := by rw [i2]; omega
              by_cases hn : n = 0
              · subst hn
                simp only [Nat.zero_mul] at r1
                have hm0 : madeCells j.zero.cells 0 = #[] := by simp [madeCells]
                rw [hm0] at r1
                have hm1 : Array.map (fun _ : Nat => (default : Value)) (Array.range 0) = #[] := by simp
                simp [Instr.buildSlice, run_underlying ht, sizeOf, typeInfo, i1, i2, hm1, r1, newRow]
              · have hnz : ¬ (n * j.size = 0) := by
                  intro e0
                  rcases Nat.mul_eq_zero.1 e0 with e0 | e0 <;> omega
                have r1' : Instr.fill (fun q => some (q * j.size, j.size)) (Array.map (fun x => j.zero.cells[x % j.zero.cells.size]!) (Array.range (n * j.size))) vs = some cells' := r1
                simp [Instr.buildSlice, run_underlying ht, sizeOf, typeInfo, zeroValue, i1, i2, i4, hnz, r1', newRow, k1]
            have X0 := ext_frz hi f
            have hi0 := hi.ext X0
            have hrf : ∀ j ∈ f, RelB G w j (nthB h j) := fun j hj => hr j (by simp [hj])
            have h0 : RelB (G.frz f) w (len h) none := RelB.ext X0 hi (fun hx => absurd (hfl _ hx) (by omega)) (none_at h (hr (len h) (by simp)))
            have hcv := f3 G w _ f hi r2 hrf (fun j hj => hj)
            have hcl := r2.length
            rw [Array.length_toList, r3, size_madeCells] at hcl
            have hlc : (chunks j.size n cvs).length = n := chunks_length j.size n cvs
            obtain ⟨x1, x2, x3⟩ := new_arr (els := chunks j.size n cvs) (cap := n) hi0 k2 h0 (ty := e) (chunks_rep n hcv (by rw [f2, ← hcl])) (by rw [r3, size_madeCells]) (by rw [hlc]; exact Nat.le_refl _) (by
              have : n ≤ n * j.size := Nat.le_mul_of_pos_right n k2
              simp only [maxLen]
              omega)
            rw [hlc] at x1 x2
            refine ⟨_, _, _, hrun, (Ext.trans hi X0 x1).mono (fun x hx => by
              simp only [List.mem_append, List.mem_singleton] at hx
              rcases hx with hx | hx <;> simp [hx]), x2, fun y hy => ?_⟩
            by_cases hy' : y = len h
            · subst hy'
              rw [show len h = len (frz f h) from (len_frz f h).symm, nthB_new, len_frz]
              rw [hlc] at x3
              exact x3
            · have hyf : y ∈ f := by
                rcases List.mem_cons.1 hy with hy | hy
                · exact absurd hy hy'
                · exact hy
              rw [nthB_push _ _ _ (by rw [len_frz]; exact hy')]
              exact RelB.ext x1 hi0 (by simpa using hy') (frz_rel hi hrf f1 y hyf)
    · exact hk.elim
end
end Go.Proofs.YthkepmicdpgbbaaGreatDoor.E

/- Each operation comes to what is told of it: what only computes. -/
namespace Go.Proofs.YthkepmicdpgbbaaGreatDoor.E
open Go Go.RowKit Go.Proofs.YthkepmicdpgbbaaGreatDoorW.PrintWords
set_option linter.unusedVariables false
set_option linter.unusedSimpArgs false

section
variable {E : Env} {h : List Blk} {K : Kont}

theorem own_val {G : Gh} {w : World} {id n : Nat} {v : Value} (r : Reps G w (.own id n) v) (hr : ∃ sz ty fz els, RelB G w id (some (.arr sz ty fz els)) ∧ n = els.length) : ∃ A c, v = .slice A n c := by
  obtain ⟨sz, ty, fz, els, r1, hn⟩ := hr
  simp only [Reps] at r
  obtain ⟨sz', m, f, p1, _, _, p2⟩ := r
  rw [r1.1] at p1
  injection p1 with p1
  injection p1 with p1 p3
  injection p3 with p3 p4
  rcases p2 with p2 | ⟨_, p2⟩
  · omega
  · rcases p2 with ⟨rfl, p2⟩ | ⟨b, c, cs, ty', rfl, _⟩
    · exact ⟨none, 0, by rw [p2]⟩
    · exact ⟨_, c, rfl⟩

theorem len_ok {t ty : Nat} {p : PV} (hk : aLen E t h p K) : Step E.P h (fun G w m => ∃ v, Reps G w p v ∧ m = Builtin.len_ #[t] ty #[v]) K := by
  unfold aLen at hk
  cases hl : look E.T t with
  | none => rw [hl] at hk; exact hk.elim
  | some i =>
    rw [hl] at hk
    simp only at hk
    have h2 := (Env.fact hl).2.1
    split at hk
    · rename_i k q e id n hik
      rw [hik] at h2
      split at hk
      rotate_left
      · exact hk.elim
      rename_i sz ty' fz els hb
      obtain ⟨hn, ⟨_, rfl, hk⟩⟩ := hk
      rw [← hn] at hk
      refine Step.reads hk fun G w m hi hm hr => ?_
      obtain ⟨v, hv, rfl⟩ := hm
      have r := hr id (by simp)
      rw [hb] at r
      obtain ⟨A, c, rfl⟩ := own_val hv ⟨sz, ty', fz, els, r, hn⟩
      exact ⟨.int .i64 (n), by simp [Builtin.len_, run_underlying h2, goInt], by simp [Reps, RepC]⟩
    · rename_i k q e l hik
      rw [hik] at h2
      obtain ⟨_, rfl, hk⟩ := hk
      refine Step.pure hk fun G w m hi hm => ?_
      obtain ⟨v, hv, rfl⟩ := hm
      simp only [Reps, RepC] at hv
      obtain ⟨A, c, rfl, _⟩ := hv
      exact ⟨.int .i64 (l.length), by simp [Builtin.len_, run_underlying h2, goInt], by simp [Reps, RepC]⟩
    · rename_i k q e hik
      rw [hik] at h2
      refine Step.pure hk fun G w m hi hm => ?_
      obtain ⟨v, hv, rfl⟩ := hm
      simp only [Reps] at hv
      subst hv
      exact ⟨.int .i64 (0), by simp [Builtin.len_, run_underlying h2, goInt], by simp [Reps, RepC]⟩
    · rename_i k q x hik
      rw [hik] at h2
      refine Step.pure hk fun G w m hi hm => ?_
      obtain ⟨v, hv, rfl⟩ := hm
      simp only [Reps, RepC] at hv
      subst hv
      exact ⟨.int .i64 (x.size), by simp [Builtin.len_, run_underlying h2, goInt], by simp [Reps, RepC]⟩
    · exact hk.elim

theorem bt_eq (y : ByteArray) (j : Int) (h0 : 0 ≤ j) (h1 : j < (y.size : Int)) : ∃ hh : j.toNat < y.size, bt y j = ((y[j.toNat]'hh).toNat : Int) := by
  have hh : j.toNat < y.size := by omega
  exact ⟨hh, by unfold bt; rw [dif_pos hh]⟩

theorem index_ok {t : Nat} {p x : PV} (hk : aIndex E h t p x K) : Step E.P h (fun G w m => ∃ v u, Reps G w p v ∧ Reps G w x u ∧ m = Instr.index t v u) K := by
  unfold aIndex at hk
  cases hl : look E.T t with
  | none => rw [hl] at hk; exact hk.elim
  | some i =>
    rw [hl] at hk
    simp only at hk
    have h2 := (Env.fact hl).2.1
    split at hk
    · rename_i k q r y k2 j hik
      rw [hik] at h2
      obtain ⟨k3, k4, hk⟩ := hk
      refine Step.pure hk fun G w m hi hm => ?_
      obtain ⟨v, u, hv, hu, rfl⟩ := hm
      simp only [Reps, RepC] at hv hu
      subst hv hu
      obtain ⟨hh, hb⟩ := bt_eq y j k3 k4
      have hg : y[j.toNat]? = some (y[j.toNat]'hh) := by simp [hh]
      exact ⟨.int .u8 ((y[j.toNat]'hh).toNat : Int), by simp [Instr.index, run_underlying h2, asIntOf, k3, hg], by simp [Reps, RepC, hb]⟩
    · exact hk.elim

theorem indexAddr_ok {t : Nat} {p x : PV} (hk : aIndexAddr E h t p x K) : Step E.P h (fun G w m => ∃ v u, Reps G w p v ∧ Reps G w x u ∧ m = Instr.indexAt t v u) K := by
  unfold aIndexAddr at hk
  split at hk
  · rename_i i k j hl
    have h2 := (Env.fact hl).2.1
    split at hk
    · rename_i e hik
      rw [hik] at h2
      cases hle : look E.T e with
      | none => rw [hle] at hk; exact hk.elim
      | some y =>
        rw [hle] at hk
        simp only at hk
        have hy := Env.fact hle
        split at hk
        · rename_i id n
          split at hk
          · rename_i sz ty fz els hb
            obtain ⟨k1, k2, k3, hn, hk⟩ := hk
            refine Step.reads hk fun G w m hi hm hr => ?_
            obtain ⟨v, u, hv, hu, rfl⟩ := hm
            have r := hr id (by simp)
            rw [hb] at r
            simp only [Reps, RepC] at hu
            subst hu
            simp only [Reps] at hv
            obtain ⟨sz', m, f, p1, _, _, p2⟩ := hv
            have p1' := p1
            rw [r.1] at p1'
            injection p1' with p1'
            injection p1' with p3 p4
            injection p4 with p4 p5
            subst p3 p4
            rcases p2 with p2 | ⟨_, p2⟩
            · omega
            · rcases p2 with ⟨rfl, p2⟩ | ⟨b, c, cs, ty', rfl, p6, p7, p8, p9, p10⟩
              · omega
              · refine ⟨.pointer (some ⟨b, j.toNat * y.size, none⟩), ?_, ?_⟩
                · have k3' : j < (n : Int) := k3
                  simp [Instr.indexAt, run_underlying h2, asIntOf, k2, k3', hy.sizeOf w, Addr.add_mid]
                · simp only [Reps]
                  exact ⟨_, _, _, p1, rfl, .inr ⟨by omega, b, by simp [k1], p6⟩⟩
          · exact hk.elim
        · rename_i l
          obtain ⟨k1, el, k2, k3, hk⟩ := hk
          refine Step.pure hk fun G w m hi hm => ?_
          obtain ⟨v, u, hv, hu, rfl⟩ := hm
          simp only [Reps, RepC] at hv hu
          subst hu
          obtain ⟨A, c, rfl, q1, q2, q3⟩ := hv
          have hlt : j.toNat < l.length := (List.getElem?_eq_some_iff.1 k2).1
          rcases q3 with rfl | ⟨b, o, sz, cs, ty, fr, rfl, q4, q5, q6, q7⟩
          · simp at k2
          · obtain ⟨a1, a2⟩ := q7.at _ el k2
            have hj : j < (l.length : Int) := by omega
            have hsz : sz = y.size := a1.symm.trans k3
            subst hsz
            refine ⟨.pointer (some ⟨b, o + j.toNat * y.size, none⟩), ?_, ?_⟩
            · have hs := hy.sizeOf w
              simp [Instr.indexAt, run_underlying h2, asIntOf, k1, hj, hs, Addr.add_mid]
            · simp only [Reps]
              rw [List.drop_drop] at a2
              exact ⟨b, _, cs, ty, fr, rfl, q4, q5, a2⟩
        · exact hk.elim
    · rename_i n e hik
      rw [hik] at h2
      split at hk
      · rename_i y id o hle
        have hy := Env.fact hle
        split at hk
        · rename_i ty cs hb
          obtain ⟨q, rfl, k2, hk⟩ := hk
          refine Step.reads hk fun G w m hi hm hr => ?_
          obtain ⟨v, u, hv, hu, rfl⟩ := hm
          have r := hr id (by simp)
          rw [hb] at r
          obtain ⟨b, vs, rfl, h3, _⟩ := r.box_at hv
          simp only [Reps, RepC] at hu
          subst hu
          refine ⟨.pointer (some ⟨b, o + q * y.size, none⟩), ?_, ?_⟩
          · have k2' : (q : Int) < (n : Int) := by omega
            simp [Instr.indexAt, run_underlying h2, asIntOf, Instr.sureAddr, k2', hy.sizeOf w, Addr.add_mid]
            omega
          · simp only [Reps]
            exact ⟨_, _, _, r.1, rfl, .inr ⟨rfl, b, by simp, h3⟩⟩
        · exact hk.elim
      · exact hk.elim
    · exact hk.elim
  · exact hk.elim

theorem run_fieldAt {w : World} {t f b o : Nat} {i : TI} {fs : List (Nat × Nat)} {q : Nat × Nat} (hf : TyFact E.P t i) (hik : i.k = .struct fs) (hq : nthF fs f = some q) (h0 : 0 < q.2) :
    (Instr.fieldAt t (.pointer (some ⟨b, o, none⟩)) f).run E.P w = .ok (.pointer (some ⟨b, o + q.1, none⟩)) w := by
  obtain ⟨fields, u1, u2⟩ := hf.struct hik
  obtain ⟨x, x1, x2, x3⟩ := nthF_map (α := Unit) E.P fs _ f q u2 hq
  rw [List.getElem?_map] at x1
  obtain ⟨fl, y1, rfl⟩ := Option.map_eq_some_iff.1 x1
  simp only at x2 x3
  obtain ⟨inf, z1, z2⟩ := Option.map_eq_some_iff.1 x3
  rw [Array.getElem?_toList] at y1
  have hne : ¬ inf.size = 0 := by omega
  simp [Instr.fieldAt, run_underlying u1, y1, Instr.sureAddr, fieldPlace, sizeOf, typeInfo, z1, hne, Addr.add_mid, x2]

theorem fieldAddr_ok {t f : Nat} {p : PV} (hk : aFieldAddr E h t p f K) : Step E.P h (fun G w m => ∃ v, Reps G w p v ∧ m = Instr.fieldAt t v f) K := by
  unfold aFieldAddr at hk
  cases hl : look E.T t with
  | none => rw [hl] at hk; exact hk.elim
  | some i =>
    rw [hl] at hk
    simp only at hk
    have hf := Env.fact hl
    split at hk
    · rename_i fs hik
      cases hq : nthF fs f with
      | none => rw [hq] at hk; exact hk.elim
      | some q =>
        rw [hq] at hk
        obtain ⟨h0, hk⟩ := hk
        split at hk
        · rename_i id o
          split at hk
          · rename_i ty cs hb
            refine Step.reads hk fun G w m hi hm hr => ?_
            obtain ⟨v, hv, rfl⟩ := hm
            have r := hr id (by simp)
            rw [hb] at r
            obtain ⟨b, vs, rfl, h3, _⟩ := r.box_at hv
            refine ⟨_, run_fieldAt hf hik hq h0, ?_⟩
            simp only [Reps]
            exact ⟨_, _, _, r.1, rfl, .inr ⟨rfl, b, by simp, h3⟩⟩
          · exact hk.elim
        · rename_i id n e o
          split at hk
          · rename_i sz ty fz els hb
            obtain ⟨hn, he, hk⟩ := hk
            refine Step.reads hk fun G w m hi hm hr => ?_
            obtain ⟨v, hv, rfl⟩ := hm
            have r := hr id (by simp)
            rw [hb] at r
            obtain ⟨b, vs, rfl, h3, _⟩ := r.arr_at hn he hv
            refine ⟨_, run_fieldAt hf hik hq h0, ?_⟩
            simp only [Reps]
            exact ⟨_, _, _, r.1, rfl, .inr ⟨hn, b, by simp [Nat.add_assoc], h3⟩⟩
          · exact hk.elim
        · rename_i cs
          refine Step.pure hk fun G w m hi hm => ?_
          obtain ⟨v, hv, rfl⟩ := hm
          simp only [Reps] at hv
          obtain ⟨b, o, vs, ty, fr, rfl, q4, q5, q6⟩ := hv
          refine ⟨_, run_fieldAt hf hik hq h0, ?_⟩
          simp only [Reps]
          refine ⟨b, _, vs, ty, fr, rfl, q4, q5, ?_⟩
          have := q6.drop q.1
          rw [List.drop_drop] at this
          exact this
        · exact hk.elim
    · exact hk.elim

theorem wr_eq (k : IntKind) (n : Int) : wr k n = k.wrap n := by
  cases k <;> simp [wr, IntKind.wrap_i64, IntKind.wrap_u8, wrap64]

theorem p2_eq (y : Int) : p2 y = 2 ^ y.toNat := by simp [p2]

theorem bin_ok {op : BinOp} {xt : Nat} {x y : Operand} {p q : PV} (hk : aBin h op p q K) : Step E.P h (fun G w m => ∃ v u, Reps G w p v ∧ Reps G w q u ∧ m = (do eqGuard op xt x y v u; binOp op xt v u)) K := by
  unfold aBin at hk
  simp only [wrK_eq] at hk
  split at hk
  · rename_i k a k' b
    have main : ∀ (r : CV), K (.v r) h [] [] → (∀ G w, ∃ u, ((do eqGuard op xt x y (.int k a) (.int k' b); binOp op xt (.int k a) (.int k' b) : Sem Value)).run E.P w = .ok u w ∧ Reps G w (.v r) u) → Step E.P h (fun G w m => ∃ v u, Reps G w (.v (.i k a)) v ∧ Reps G w (.v (.i k' b)) u ∧ m = (do eqGuard op xt x y v u; binOp op xt v u)) K := fun r hk' hr =>
      Step.pure hk' fun G w m hi hm => by
        obtain ⟨v, u, hv, hu, rfl⟩ := hm
        simp only [Reps, RepC] at hv hu
        subst hv hu
        exact hr G w
    cases op <;> simp only at hk
    case add => obtain ⟨rfl, hk⟩ := hk; exact main _ hk fun G w => ⟨_, by simp [eqGuard, binOp, Op.intArith]; rfl, by simp [Reps, RepC, wr_eq]⟩
    case sub => obtain ⟨rfl, hk⟩ := hk; exact main _ hk fun G w => ⟨_, by simp [eqGuard, binOp, Op.intArith]; rfl, by simp [Reps, RepC, wr_eq]⟩
    case mul => obtain ⟨rfl, hk⟩ := hk; exact main _ hk fun G w => ⟨_, by simp [eqGuard, binOp, Op.intArith]; rfl, by simp [Reps, RepC, wr_eq]⟩
    case quo => obtain ⟨rfl, hn, hk⟩ := hk; exact main _ hk fun G w => ⟨_, by simp [eqGuard, binOp, Op.intDiv, hn]; rfl, by simp [Reps, RepC, wr_eq]⟩
    case rem => obtain ⟨rfl, hn, hk⟩ := hk; exact main _ hk fun G w => ⟨_, by simp [eqGuard, binOp, Op.intDiv, hn]; rfl, by simp [Reps, RepC]⟩
    case and => obtain ⟨rfl, hk⟩ := hk; exact main _ hk fun G w => ⟨_, by simp [eqGuard, binOp, intBits_and]; rfl, by simp [Reps, RepC]⟩
    case or => obtain ⟨rfl, hk⟩ := hk; exact main _ hk fun G w => ⟨_, by simp [eqGuard, binOp, intBits_or]; rfl, by simp [Reps, RepC]⟩
    case xor => obtain ⟨rfl, hk⟩ := hk; exact main _ hk fun G w => ⟨_, by simp [eqGuard, binOp, intBits_xor]; rfl, by simp [Reps, RepC]⟩
    case shl => obtain ⟨h0, h1, hk⟩ := hk; exact main _ hk fun G w => ⟨_, by simp [eqGuard, binOp, shift_shl k k' a b h0 h1]; rfl, by simp [Reps, RepC, wr_eq, p2_eq]⟩
    case shr => obtain ⟨h0, h1, hk⟩ := hk; exact main _ hk fun G w => ⟨_, by simp [eqGuard, binOp, shift_shr k k' a b h0 h1]; rfl, by simp [Reps, RepC, p2_eq]⟩
    case eql => obtain ⟨rfl, hk⟩ := hk; exact main _ hk fun G w => ⟨_, by simp [eqGuard, binOp, Op.intCmp]; rfl, by simp [Reps, RepC]⟩
    case neq => obtain ⟨rfl, hk⟩ := hk; exact main _ hk fun G w => ⟨_, by simp [eqGuard, binOp, Op.intCmp]; rfl, by simp [Reps, RepC]⟩
    case lss => obtain ⟨rfl, hk⟩ := hk; exact main _ hk fun G w => ⟨_, by simp [eqGuard, binOp, Op.intCmp]; rfl, by simp [Reps, RepC]⟩
    case leq => obtain ⟨rfl, hk⟩ := hk; exact main _ hk fun G w => ⟨_, by simp [eqGuard, binOp, Op.intCmp]; rfl, by simp [Reps, RepC]⟩
    case gtr => obtain ⟨rfl, hk⟩ := hk; exact main _ hk fun G w => ⟨_, by simp [eqGuard, binOp, Op.intCmp]; rfl, by simp [Reps, RepC]⟩
    case geq => obtain ⟨rfl, hk⟩ := hk; exact main _ hk fun G w => ⟨_, by simp [eqGuard, binOp, Op.intCmp]; rfl, by simp [Reps, RepC]⟩
  · rename_i a b
    have main : ∀ (r : CV), K (.v r) h [] [] → (∀ G w, ∃ u, ((do eqGuard op xt x y (.string a) (.string b); binOp op xt (.string a) (.string b) : Sem Value)).run E.P w = .ok u w ∧ Reps G w (.v r) u) → Step E.P h (fun G w m => ∃ v u, Reps G w (.v (.s a)) v ∧ Reps G w (.v (.s b)) u ∧ m = (do eqGuard op xt x y v u; binOp op xt v u)) K := fun r hk' hr =>
      Step.pure hk' fun G w m hi hm => by
        obtain ⟨v, u, hv, hu, rfl⟩ := hm
        simp only [Reps, RepC] at hv hu
        subst hv hu
        exact hr G w
    cases op <;> simp only at hk
    case add =>
      obtain ⟨h0, hk⟩ := hk
      refine main _ hk fun G w => ⟨.string (a ++ b), ?_, by simp [Reps, RepC]⟩
      have : ¬ (((a.size + b.size : Nat) : Int) > IntKind.i64.max) := by
        have : IntKind.i64.max = 9223372036854775807 := by decide
        omega
      simp only [eqGuard, binOp, Op.stringOp]
      rw [if_neg this]
      simp
    case eql => exact main _ hk fun G w => ⟨_, by simp [eqGuard, binOp, Op.stringOp]; rfl, by simp [Reps, RepC]⟩
    case neq => exact main _ hk fun G w => ⟨_, by simp [eqGuard, binOp, Op.stringOp]; rfl, by simp [Reps, RepC]⟩
  · exact hk.elim

theorem binT_ok {op : BinOp} {t : TypeId} {x y : Operand} {p q : PV} (hk : aBinT E h op t p q K) : Step E.P h (fun G w m => ∃ v u, Reps G w p v ∧ Reps G w q u ∧ m = (do eqGuard op t x y v u; binOp op t v u)) K := by
  unfold aBinT at hk
  split at hk
  · rename_i cs ds
    unfold aEq at hk
    cases hl : lookQ E.Q t with
    | none => rw [hl] at hk; exact hk.elim
    | some f =>
      rw [hl] at hk
      simp only at hk
      cases hb : f cs ds with
      | none => rw [hb] at hk; exact hk.elim
      | some b =>
        rw [hb] at hk
        simp only at hk
        have hf := E.qok _ (lookQ_mem hl)
        have main : ∀ (r : CV), K (.v r) h [] [] → (∀ (w : World) (xs ys : Array Value), (Op.equal t (.agg xs) (.agg ys)).run E.P w = .ok b w → ∃ u, ((do eqGuard op t x y (.agg xs) (.agg ys); binOp op t (.agg xs) (.agg ys) : Sem Value)).run E.P w = .ok u w ∧ ∀ G, Reps G w (.v r) u) →
            Step E.P h (fun G w m => ∃ v u, Reps G w (.agg cs) v ∧ Reps G w (.agg ds) u ∧ m = (do eqGuard op t x y v u; binOp op t v u)) K := fun r hk' hr =>
          Step.pure hk' fun G w m hi hm => by
            obtain ⟨v, u, hv, hu, rfl⟩ := hm
            simp only [Reps] at hv hu
            obtain ⟨xs, rfl, hx⟩ := hv
            obtain ⟨ys, rfl, hy⟩ := hu
            obtain ⟨z, z1, z2⟩ := hr w xs ys (hf.2 cs ds b hb G w xs ys hx hy)
            exact ⟨z, z1, z2 G⟩
        have hg : E.P.eqGuardType E.P.depth t = false := hf.1
        cases op <;> simp only at hk
        case eql => exact main _ hk fun w xs ys he => ⟨.bool b, by simp [eqGuard, binOp, run_program, hg, he], fun G => by simp [Reps, RepC]⟩
        case neq => exact main _ hk fun w xs ys he => ⟨.bool (!b), by simp [eqGuard, binOp, run_program, hg, he], fun G => by simp [Reps, RepC]⟩
  · rename_i a b
    cases hl : look E.T t with
    | none => rw [hl] at hk; exact hk.elim
    | some i =>
      rw [hl] at hk
      simp only at hk
      have h2 := (Env.fact hl).2.1
      have main : ∀ (r : CV), i.k = .bool → K (.v r) h [] [] → (∀ (w : World), (Op.equal t (.bool a) (.bool b)).run E.P w = .ok (a == b) w → ∃ u, ((do eqGuard op t x y (.bool a) (.bool b); binOp op t (.bool a) (.bool b) : Sem Value)).run E.P w = .ok u w ∧ ∀ G, Reps G w (.v r) u) →
          Step E.P h (fun G w m => ∃ v u, Reps G w (.v (.b a)) v ∧ Reps G w (.v (.b b)) u ∧ m = (do eqGuard op t x y v u; binOp op t v u)) K := fun r hk0 hk' hr =>
        Step.pure hk' fun G w m hi hm => by
          obtain ⟨v, u, hv, hu, rfl⟩ := hm
          simp only [Reps, RepC] at hv hu
          subst hv hu
          rw [hk0] at h2
          obtain ⟨z, z1, z2⟩ := hr w (by
            have h3 : E.P.underlying t = some .bool := h2
            have key : ∀ d, (Op.equalIn (d + 1) t (.bool a) (.bool b)).run E.P w = .ok (a == b) w := fun d => by simp [Op.equalIn, run_underlying h3]
            exact key 9999)
          exact ⟨z, z1, z2 G⟩
      split at hk
      · rename_i hik
        exact main _ hik hk fun w he => ⟨.bool (a == b), by simp [eqGuard, binOp, he], fun G => by simp [Reps, RepC]⟩
      · rename_i hik
        exact main _ hik hk fun w he => ⟨.bool (a != b), by simp [eqGuard, binOp, he, bne], fun G => by simp [Reps, RepC]⟩
      · exact hk.elim
  · exact bin_ok hk

theorem un_ok {op : UnOp} {p : PV} (hk : aUn h op p K) : Step E.P h (fun G w m => ∃ v, Reps G w p v ∧ m = Op.unary op v) K := by
  unfold aUn at hk
  simp only [wrK_eq] at hk
  split at hk
  · refine Step.pure hk fun G w m hi hm => ?_
    obtain ⟨v, hv, rfl⟩ := hm
    simp only [Reps, RepC] at hv
    subst hv
    exact ⟨_, by simp [Op.unary]; rfl, by simp [Reps, RepC]⟩
  · refine Step.pure hk fun G w m hi hm => ?_
    obtain ⟨v, hv, rfl⟩ := hm
    simp only [Reps, RepC] at hv
    subst hv
    exact ⟨_, by simp [Op.unary, Op.intArith]; rfl, by simp [Reps, RepC, wr_eq, Int.zero_sub]⟩
  · exact hk.elim

theorem pick_ok {c p q : PV} (hk : aPick h c p q K) : Step E.P h (fun G w m => ∃ v u z, Reps G w c v ∧ Reps G w p u ∧ Reps G w q z ∧ m = (do pure (if ← asBool v then u else z))) K := by
  unfold aPick at hk
  split at hk
  · rename_i x
    split at hk
    · rename_i y z
      refine Step.pure hk fun G w m hi hm => ?_
      obtain ⟨v, u, z', hv, hu, hz, rfl⟩ := hm
      simp only [Reps, RepC] at hv hu hz
      subst hv hu hz
      exact ⟨.bool (cond x y z), by cases x <;> simp [asBool], by simp [Reps, RepC]⟩
    · cases x with
      | true =>
        refine Step.pure (hk.1 rfl) fun G w m hi hm => ?_
        obtain ⟨v, u, z', hv, hu, hz, rfl⟩ := hm
        simp only [Reps, RepC] at hv
        subst hv
        exact ⟨u, by simp [asBool], hu⟩
      | false =>
        refine Step.pure (hk.2 rfl) fun G w m hi hm => ?_
        obtain ⟨v, u, z', hv, hu, hz, rfl⟩ := hm
        simp only [Reps, RepC] at hv
        subst hv
        exact ⟨z', by simp [asBool], hz⟩
  · exact hk.elim

theorem extract_ok {p : PV} {n : Nat} (hk : aExtract h p n K) : Step E.P h (fun G w m => ∃ v, Reps G w p v ∧ m = Instr.extract v n) K := by
  unfold aExtract at hk
  split at hk
  · rename_i vs
    obtain ⟨k1, hk⟩ := hk
    refine Step.pure hk fun G w m hi hm => ?_
    obtain ⟨v, hv, rfl⟩ := hm
    simp only [Reps] at hv
    obtain ⟨us, rfl, hr⟩ := hv
    obtain ⟨u, h1, h2⟩ := hr.nth n k1
    exact ⟨u, by simp [Instr.extract, Array.getElem?_toList ▸ h1], h2⟩
  · exact hk.elim
end
end Go.Proofs.YthkepmicdpgbbaaGreatDoor.E

/- Each operation comes to what is told of it: conversions and cuts. -/
namespace Go.Proofs.YthkepmicdpgbbaaGreatDoor.E
open Go Go.RowKit Go.Proofs.YthkepmicdpgbbaaGreatDoorW.PrintWords
set_option linter.unusedVariables false
set_option linter.unusedSimpArgs false

section
variable {E : Env} {h : List Blk} {K : Kont}

theorem nilCheck_ok {p : PV} (hk : aNilCheck h p K) : Step E.P h (fun G w m => ∃ v, Reps G w p v ∧ ∀ a, v = .pointer (some a) → m = pure v) K := by
  unfold aNilCheck at hk
  split at hk
  · rename_i id o
    split at hk
    · rename_i ty cs hb
      refine Step.reads hk fun G w m hi hm hr => ?_
      obtain ⟨v, hv, hm⟩ := hm
      have r := hr id (by simp)
      rw [hb] at r
      obtain ⟨b, vs, rfl, _⟩ := r.box_at hv
      rw [hm _ rfl]
      exact ⟨_, rfl, hv⟩
    · exact hk.elim
  · refine Step.pure hk fun G w m hi hm => ?_
    obtain ⟨v, hv, hm⟩ := hm
    have hv' := hv
    simp only [Reps] at hv'
    obtain ⟨b, o, vs, ty, fr, rfl, _⟩ := hv'
    rw [hm _ rfl]
    exact ⟨_, rfl, hv⟩
  · exact hk.elim

theorem reads_of {G : Gh} {w : World} {l : List Int} {v : Value} (hs : SliceSrc G w (l.map fun x => [CV.i .u8 x]) v) : ∃ A n c, v = .slice A n c ∧ ReadsInt w .u8 A n l := by
  obtain ⟨A, c, rfl, h1, h2, h3⟩ := hs
  rw [List.length_map] at h1 h2 ⊢
  refine ⟨A, l.length, c, rfl, rfl, by simp only [maxLen] at h2; omega, fun h0 => ?_⟩
  rcases h3 with h3 | ⟨b, o, sz, cs, ty, fr, rfl, h4, h5, h6⟩
  · rw [List.map_eq_nil_iff] at h3
    subst h3
    simp at h0
  · refine ⟨_, rfl, fun j hj => ?_⟩
    obtain ⟨a1, a2⟩ := h6.at j [CV.i .u8 (l.getD j 0)] (by simp [hj])
    simp only [List.length_cons, List.length_nil, Nat.zero_add] at a1
    subst a1
    simp only [RepP, RepC] at a2
    obtain ⟨u, us, a3, rfl, _⟩ := a2
    rw [Addr.add_mid, cell_of_row w b (o + j) cs ty fr h4]
    have := congrArg (fun q => q[0]?) a3
    simpa using this

theorem convert_ok {t u : Nat} {p : PV} (hk : aConvert E h t u p K) : Step E.P h (fun G w m => ∃ v, Reps G w p v ∧ m = convert t u v) K := by
  unfold aConvert at hk
  simp only [wrK_eq] at hk
  split at hk
  · rename_i i j hl hl2
    have h2 := (Env.fact hl).2.1
    have h3 := (Env.fact hl2).2.1
    split at hk
    · rename_i k1 k k3 n hik hjk
      rw [hik] at h2
      rw [hjk] at h3
      refine Step.pure hk fun G w m hi hm => ?_
      obtain ⟨v, hv, rfl⟩ := hm
      simp only [Reps, RepC] at hv
      subst hv
      exact ⟨.int k (k.wrap n), by simp [convert, run_underlying h2, run_underlying h3, Conv.intToInt], by simp [Reps, RepC, wr_eq]⟩
    · rename_i p1 p2 e hik hjk
      rw [hik] at h2
      rw [hjk] at h3
      cases hle : look E.T e with
      | none => rw [hle] at hk; exact hk.elim
      | some y =>
        rw [hle] at hk
        simp only at hk
        have hy := (Env.fact hle).2.1
        split at hk
        · rename_i hyk
          rw [hyk] at hy
          obtain ⟨els, rd, ⟨l, rfl, hk⟩, hs⟩ := rowOf_ok hk
          refine Step.reads hk fun G w m hi hm hr => ?_
          obtain ⟨v, hv, rfl⟩ := hm
          obtain ⟨A, n, c, rfl, hrd⟩ := reads_of (hs G w v hi hv (fun id hid => hr id hid))
          exact ⟨_, string_of_reads h2 hy h3 hrd, by simp [Reps, RepC]⟩
        · exact hk.elim
    · exact hk.elim
  · exact hk.elim

def OptRep (G : Gh) (w : World) : Option PV → Option Value → Prop
  | none, none => True
  | some p, some v => Reps G w p v
  | _, _ => False

theorem run_bounds {P : Program} {G : Gh} {w : World} {b : Bool} {n c : Nat} {lo hi : Option PV} {lo' hi' : Option Value} {l r : Int} (h1 : OptRep G w lo lo') (h2 : OptRep G w hi hi') (h3 : optI lo 0 = some l) (h4 : optI hi n = some r)
    (h0 : 0 ≤ l) (hlr : l ≤ r) (hr : r ≤ (n : Int)) (hc : n ≤ c) : (Instr.sliceBounds b n c lo' hi' none).run P w = .ok (l.toNat, r.toNat, c) w := by
  have hb : ∀ (k : IntKind) (x : Int) (y : Nat) (code : BoundsCode), 0 ≤ x → x ≤ (y : Int) → (Instr.sliceBound (.int k x) y code).run P w = .ok x.toNat w := fun k x y code a1 a2 => by
    simp [Instr.sliceBound, asIntOf, a1, a2]
  have hhi : ∀ code, (match hi', (none : Option Value) with | some v, some _ => Instr.sliceBound v c .slice3B | some v, none => Instr.sliceBound v c code | none, none => pure n | none, some _ => stuck "Slice: max without high" : Sem Nat).run P w = .ok r.toNat w := fun code => by
    cases hi with
    | none =>
      cases hi' with
      | some _ => exact h2.elim
      | none =>
        simp only [optI, Option.some.injEq] at h4
        subst h4
        simp
    | some p =>
      cases hi' with
      | none => exact h2.elim
      | some v =>
        simp only [OptRep] at h2
        cases p with
        | v cv =>
          cases cv with
          | i k x =>
            simp only [optI, Option.some.injEq] at h4
            subst h4
            simp only [Reps, RepC] at h2
            subst h2
            exact hb k x c code (by omega) (by omega)
          | _ => simp [optI] at h4
        | _ => simp [optI] at h4
  have hlo : (match lo' with | some v => Instr.sliceBound v r.toNat .sliceB | none => pure 0 : Sem Nat).run P w = .ok l.toNat w := by
    cases lo with
    | none =>
      cases lo' with
      | some _ => exact h1.elim
      | none =>
        simp only [optI, Option.some.injEq] at h3
        subst h3
        simp
    | some p =>
      cases lo' with
      | none => exact h1.elim
      | some v =>
        simp only [OptRep] at h1
        cases p with
        | v cv =>
          cases cv with
          | i k x =>
            simp only [optI, Option.some.injEq] at h3
            subst h3
            simp only [Reps, RepC] at h1
            subst h1
            exact hb k x r.toNat .sliceB h0 (by omega)
          | _ => simp [optI] at h3
        | _ => simp [optI] at h3
  cases hi' <;> cases lo' <;> simp_all [Instr.sliceBounds]

theorem row_cut {I : Nat → Prop} {w : World} {xs : List (List CV)} {A : Option Addr} {n c sz l r : Nat} {v : Value} (hn : n = xs.length) (hr : RepC I w (.row xs) (.slice A n c)) (hsz : ∀ x ∈ xs, x.length = sz) (hlr : l ≤ r) (hrn : r ≤ n)
    (hv : v = .slice (if c = l then A else A.map (·.add (l * sz))) (r - l) (c - l)) : RepC I w (.row ((xs.take r).drop l)) v := by
  subst hv
  simp only [RepC] at hr ⊢
  obtain ⟨A', c', h1, h2, h3, h4⟩ := hr
  injection h1 with e1 e2 e3
  subst e1 e3
  have hlen : ((xs.take r).drop l).length = r - l := by rw [List.length_drop, List.length_take]; omega
  refine ⟨_, c - l, by rw [hlen], by rw [hlen]; omega, by omega, ?_⟩
  by_cases he : r = l
  · left
    apply List.eq_nil_of_length_eq_zero
    omega
  · rcases h4 with h4 | ⟨b, o, sz', cs, ty, fr, h5, h6, h7, h8, h9⟩
    · subst h4
      simp at hn
      omega
    · subst h5
      right
      have hne : ¬ c = l := by omega
      have hx : ∃ y, y ∈ xs := List.exists_mem_of_ne_nil xs (fun e => by subst e; simp at hn; omega)
      obtain ⟨y, hy⟩ := hx
      have e1 : sz' = sz := (h9.size y hy).symm.trans (hsz y hy)
      subst e1
      refine ⟨b, o + l * sz', sz', cs, ty, fr, by simp [hne, Addr.add_mid], h6, h7, h8, ?_⟩
      have := (h9.take r).drop l
      rw [List.drop_drop] at this
      exact this

theorem slice_ok {t : Nat} {p : PV} {lo hi : Option PV} (hk : aSlice E h t p lo hi K) : Step E.P h (fun G w m => ∃ v lo' hi', Reps G w p v ∧ OptRep G w lo lo' ∧ OptRep G w hi hi' ∧ m = Instr.sliceAt t v lo' hi' none) K := by
  unfold aSlice at hk
  cases hl : look E.T t with
  | none => rw [hl] at hk; exact hk.elim
  | some i =>
    rw [hl] at hk
    simp only at hk
    have h2 := (Env.fact hl).2.1
    split at hk
    · rename_i x hik
      rw [hik] at h2
      split at hk
      · rename_i l r hlo hhi
        obtain ⟨k1, k2, k3, hk⟩ := hk
        refine Step.pure hk fun G w m hi hm => ?_
        obtain ⟨v, lo', hi', hv, q1, q2, rfl⟩ := hm
        simp only [Reps, RepC] at hv
        subst hv
        have hb := run_bounds (P := E.P) (b := false) (c := x.size) q1 q2 hlo hhi k1 k2 k3 (Nat.le_refl _)
        refine ⟨.string (x.extract l.toNat r.toNat), ?_, by simp [Reps, RepC]⟩
        simp [Instr.sliceAt, Instr.slice, run_underlying h2, hb]
      · exact hk.elim
    · rename_i e xs hik
      rw [hik] at h2
      split at hk
      · rename_i j l r hle hlo hhi
        obtain ⟨k0, k1, k2, k3, ys, rfl, hk⟩ := hk
        have hj := Env.fact hle
        refine Step.pure hk fun G w m hi hm => ?_
        obtain ⟨v, lo', hi', hv, q1, q2, rfl⟩ := hm
        simp only [Reps] at hv ⊢
        have hv' := hv
        simp only [RepC] at hv'
        obtain ⟨A, c, rfl, hc, _⟩ := hv'
        have hb := run_bounds (P := E.P) (b := true) (c := c) q1 q2 hlo hhi k1 k2 k3 hc
        refine ⟨.slice (if c = l.toNat then A else A.map (·.add (l.toNat * j.size))) (r.toNat - l.toNat) (c - l.toNat), ?_, row_cut rfl hv k0 (by omega) (by omega) rfl⟩
        simp [Instr.sliceAt, Instr.slice, run_underlying h2, hb, hj.sizeOf w]
      · exact hk.elim
    · rename_i e id n hik
      rw [hik] at h2
      split at hk
      · rename_i j l r sz ty fz els hle hlo hhi hb
        obtain ⟨k4, k5, k1, k2, k3, ys, rfl, hk⟩ := hk
        have hj := Env.fact hle
        have f1 : ∀ x ∈ [id], IsArr (nthB h x) := fun x hx => by
          simp only [List.mem_singleton] at hx
          subst hx
          rw [hb]
          trivial
        refine ⟨_, _, _, _, hk, fun x hx => by rw [nthB_frz, if_neg hx], by rw [len_frz]; exact Nat.le_refl _, fun G w m hi hm hr => ?_⟩
        obtain ⟨v, lo', hi', hv, q1, q2, rfl⟩ := hm
        have hrf : ∀ x ∈ [id], RelB G w x (nthB h x) := fun x hx => hr x (.inr hx)
        have r0 := hr id (by simp)
        rw [hb] at r0
        have X := ext_frz hi [id]
        have hrow : RepC (G.frz [id]).imm w (.row els) v := own_row (fun b o h1 h2 => (imm_old X hi b o h1 h2).1) (fun b hb' => .inr (.inr ⟨id, sz, els.length, hb', by simp [Gh.frz, r0.1]⟩)) r0 k4 hv
        have hv' := hrow
        simp only [RepC] at hv'
        obtain ⟨A, c, rfl, hc, _⟩ := hv'
        subst k4 k5
        have hbd := run_bounds (P := E.P) (b := true) (c := c) q1 q2 hlo hhi k1 k2 k3 hc
        refine ⟨.slice (if c = l.toNat then A else A.map (·.add (l.toNat * j.size))) (r.toNat - l.toNat) (c - l.toNat), w, G.frz [id], ?_, X, ?_, frz_rel hi hrf f1⟩
        · simp [Instr.sliceAt, Instr.slice, run_underlying h2, hbd, hj.sizeOf w]
        · simp only [Reps]
          refine row_cut rfl hrow (fun x hx => ?_) (by omega) (by omega) rfl
          rcases r0.2.2.2 with ⟨r5, _⟩ | ⟨b, cs, _, _, _, r8⟩
          · subst r5
            cases hx
          · exact r8.size x hx
      · exact hk.elim
    · exact hk.elim
end
end Go.Proofs.YthkepmicdpgbbaaGreatDoor.E

/- What a run of code comes to, told with values: operations in order, code, calls. -/
namespace Go.Proofs.YthkepmicdpgbbaaGreatDoor.E
open Go Go.RowKit Go.Proofs.YthkepmicdpgbbaaGreatDoorW.PrintWords
set_option linter.unusedVariables false
set_option linter.unusedSimpArgs false

/-! ### renaming the numbers -/
def idx : List Nat → Nat → Option Nat
  | [], _ => none
  | x :: r, i => cond (Nat.beq x i) (some 0) ((idx r i).map (· + 1))
mutual
def renP (m : Nat → Option Nat) : PV → PV
  | .v c => .v c
  | .nil => .nil
  | .own i n => match m i with
    | some j => .own j n
    | none => .un
  | .ptr i o => match m i with
    | some j => .ptr j o
    | none => .un
  | .eptr i n e o => match m i with
    | some j => .eptr j n e o
    | none => .un
  | .rptr cs => .rptr cs
  | .agg cs => .agg (renL m cs)
  | .tup cs => .tup (renL m cs)
  | .un => .un
def renL (m : Nat → Option Nat) : List PV → List PV
  | [] => []
  | p :: r => renP m p :: renL m r
end
def renB (m : Nat → Option Nat) : Blk → Blk
  | .arr sz ty fz els => .arr sz ty fz els
  | .box ty cs => .box ty (renL m cs)
def pickB (m : Nat → Option Nat) (h : List Blk) : List Nat → Option (List Blk)
  | [] => some []
  | i :: r => match nthB h i, pickB m h r with
    | some B, some l => some (renB m B :: l)
    | _, _ => none
def unfz : List Blk → Bool
  | [] => true
  | .arr _ _ true _ :: _ => false
  | _ :: r => unfz r
def nodup : List Nat → Bool
  | [] => true
  | x :: r => !(r.contains x) && nodup r

/-! ### a call -/
def noRow1 : PV → Bool
  | .v (.row _) => false
  | .v _ => true
  | _ => false
def noRow2 : PV → Bool
  | .agg cs => cs.all noRow1
  | p => noRow1 p
def hasNoRow : PV → Bool
  | .tup cs => cs.all noRow2
  | p => noRow2 p

/-- What the callee is handed: what lies behind an address by its number there, other rows by what they hold. -/
def passC (h : List Blk) (rf : List Nat) : PV → (PV → List Nat → Prop) → Prop
  | .v c, K => K (.v c) []
  | .nil, K => K (.v (.row [])) []
  | .own i n, K => match idx rf i with
    | some j => K (.own j n) []
    | none => match nthB h i with
      | some (.arr _ _ _ els) => Side (n = els.length) (K (.v (.row els)) [i])
      | _ => False
  | .ptr i o, K => match idx rf i with
    | some j => K (.ptr j o) []
    | none => False
  | _, _ => False
def passCs (h : List Blk) (rf : List Nat) : List PV → (List PV → List Nat → Prop) → Prop
  | [], K => K [] []
  | p :: r, K => passC h rf p fun q f => passCs h rf r fun qs fs => K (q :: qs) (f ++ fs)
def passA (h : List Blk) (rf : List Nat) : List PV → (List PV → List Nat → Prop) → Prop
  | [], K => K [] []
  | .agg cs :: r, K => passCs h rf cs fun q f => passA h rf r fun qs fs => K (.agg q :: qs) (f ++ fs)
  | p :: r, K => passC h rf p fun q f => passA h rf r fun qs fs => K (q :: qs) (f ++ fs)

def ownsIn : List PV → List Nat
  | [] => []
  | .own i _ :: r => i :: ownsIn r
  | _ :: r => ownsIn r
def refsOf (h : List Blk) : List PV → List Nat
  | [] => []
  | .ptr i _ :: r => i :: (match nthB h i with
    | some (.box _ cs) => ownsIn cs ++ refsOf h r
    | _ => refsOf h r)
  | _ :: r => refsOf h r

/-- What a call of f comes to. -/
def Spec (P : Program) (f : FuncId) (args : List PV) (bin : List Blk) (r : PV) (bl : List Blk) : Prop :=
  (∀ (as_ : Array Value) (w : World), (callFunc f as_).run P w = .ok (.enter f as_) w) ∧
  ∀ (G : Gh) (w : World) (vals : Array Value), Inv G w → RepsL G w args vals.toList → (∀ id, RelB G w id (nthB bin id)) →
    Calls P f vals w fun e w' => ∃ v G' ids, e = .returned v ∧ Ext ids G w G' w' ∧ Reps G' w' r v ∧ ∀ id, RelB G' w' id (nthB bl id)

inductive CallAt (P : Program) (f : FuncId) (as_ : List PV) (bin : List Blk) (K : PV → List Blk → Prop) : Prop where
  | mk (r : PV) (bl : List Blk) (h : Spec P f as_ bin r bl) (k : K r bl)

def backId (rf : List Nat) (m : Nat) (j : Nat) : Option Nat :=
  match rf[j]? with
  | some i => some i
  | none => some (m + (j - len rf))
def putBs (h : List Blk) (m : Nat → Option Nat) : List Nat → List Blk → List Blk
  | i :: r, B :: l => putBs (putB h i (renB m B)) m r l
  | _, l => h ++ l.map (renB m)
def range' (m : Nat) : Nat → List Nat
  | 0 => []
  | n + 1 => m :: range' (m + 1) n

def aGo (E : Env) (h : List Blk) (f : FuncId) (args : List PV) (K : Kont) : Prop :=
  match refsOf h args with
  | rf => match pickB (idx rf) h rf with
    | none => False
    | some bin => cond (nodup rf && unfz bin) (passA h rf args fun as_ fs => CallAt E.P f as_ bin fun r bl =>
        match cond (hasNoRow r && Nat.beq (len bl) 0) [] fs with
        | fz => cond ((fz.all fun x => !(rf.contains x)) && Nat.ble (len rf) (len bl)) (K (renP (backId rf (len h)) r) (putBs (frz fz h) (backId rf (len h)) rf bl) fs (rf ++ fz ++ range' (len h) (len bl - len rf))) False) False

def aCall (E : Env) (h : List Blk) (s : List PV) (c : Call) (K : Kont) : Prop :=
  match c.callee, c.args.toList, c.argTypes.toList with
  | .builtin .append, [x, y], [t, t2] => aAppend E h t t2 (ev s x) (ev s y) K
  | .builtin .len, [x], [t] => aLen E t h (ev s x) K
  | .value (.func f), as_, _ => aGo E h f (as_.map (ev s)) K
  | _, _, _ => False

def aOp (E : Env) (h : List Blk) (s : List PV) (o : Op) (K : Kont) : Prop :=
  match o with
  | .move x => K (ev s x) h [] []
  | .assign x => K (ev s x) h [] []
  | .pick c a b => aPick h (ev s c) (ev s a) (ev s b) K
  | .alloc t => aAlloc E h t K
  | .box t x => aBox h t (ev s x) K
  | .build t parts => aBuild E h t (parts.toList.map fun x => (x.1, ev s x.2)) K
  | .buildSlice t n parts => aBuildSlice E h t n (parts.toList.map fun x => (x.1, ev s x.2)) K
  | .load t a => aLoad E h t (ev s a) K
  | .store t a x => aStore E h t (ev s a) (ev s x) K
  | .nilCheck x => aNilCheck h (ev s x) K
  | .binOp op t x y _ => aBinT E h op t (ev s x) (ev s y) K
  | .unOp op _ x => aUn h op (ev s x) K
  | .convert a b x => aConvert E h a b (ev s x) K
  | .makeSlice t l c => aMakeSlice E h t (ev s l) (ev s c) K
  | .slice t x lo hi none => aSlice E h t (ev s x) (lo.map (ev s)) (hi.map (ev s)) K
  | .fieldAddr t x f => aFieldAddr E h t (ev s x) f K
  | .indexAddr t x i => aIndexAddr E h t (ev s x) (ev s i) K
  | .index t x i => aIndex E h t (ev s x) (ev s i) K
  | .extract x n => aExtract h (ev s x) n K
  | .call c => aCall E h s c K
  | _ => False

/-! ### operations in order -/
def putO (s : List PV) (d : Option Tmp) (q : PV) : List PV :=
  match d with
  | some t => put s t q
  | none => s
def nthO : List Oper → Nat → Option Oper
  | [], _ => none
  | o :: _, 0 => some o
  | _ :: r, n + 1 => nthO r n
def dstAt (all : List Oper) (j : Nat) : Option Tmp :=
  match nthO all j with
  | some o => o.dst
  | none => none

def aOps (E : Env) (all : List Oper) : List Oper → List PV → List Blk → (List PV → List Blk → List (List Nat × List Nat) → Prop) → Prop
  | [], s, h, K => K s h []
  | o :: r, s, h, K => match o.guard with
    | none => aOp E h s o.op fun q h' rd wr => aOps E all r (putO s o.dst q) h' fun s2 h2 acc => K s2 h2 ((rd, wr) :: acc)
    | some (j, want) => match dstAt all j with
      | none => False
      | some t => match nth s t with
        | .v (.b x) =>
          Br2 x want (aOp E h (put s t (.v (.b want))) o.op fun q h' rd wr => aOps E all r (putO (put s t (.v (.b want))) o.dst q) h' fun s2 h2 acc => K s2 h2 ((rd, wr) :: acc))
            (aOps E all r (putO (put s t (.v (.b (!want)))) o.dst (.tup [])) h fun s2 h2 acc => K s2 h2 (([], []) :: acc))
        | .tup [] => aOps E all r (putO s o.dst (.tup [])) h fun s2 h2 acc => K s2 h2 (([], []) :: acc)
        | _ => False

/-! ### may the operations go in another order? -/
def readsT (all : List Oper) (o : Oper) : List Tmp :=
  (o.op.operands.toList.filterMap fun | .tmp t => some t | _ => none) ++ (match o.guard with
    | some (j, _) => (dstAt all j).toList
    | none => [])
def meets (xs ys : List Nat) : Bool := xs.any fun x => ys.any fun y => Nat.beq x y
def clash (all : List Oper) (o o' : Oper) (x y : List Nat × List Nat) : Bool :=
  meets x.2 y.2 || meets x.2 y.1 || meets x.1 y.2 || meets o.dst.toList o'.dst.toList || meets o.dst.toList (readsT all o') || meets (readsT all o) o'.dst.toList
def dep (all : List Oper) : Nat → Nat → Nat → Bool
  | 0, _, _ => false
  | n + 1, i, k => match nthO all k with
    | some o => o.after.toList.any fun e => Region.binds .any e && (Nat.beq e.on i || dep all n i e.on)
    | none => false
def ordFrom (all : List Oper) (n i : Nat) (o : Oper) (x : List Nat × List Nat) : Nat → List Oper → List (List Nat × List Nat) → Bool
  | _, [], _ => true
  | _, _ :: _, [] => false
  | k, o' :: r, y :: ys => (!(clash all o o' x y) || dep all n i k) && ordFrom all n i o x (k + 1) r ys
def ordOk (all : List Oper) (n : Nat) : Nat → List Oper → List (List Nat × List Nat) → Bool
  | _, [], _ => true
  | _, _ :: _, [] => false
  | i, o :: r, x :: xs => ordFrom all n i o x (i + 1) r xs && ordOk all n (i + 1) r xs
def afterOk : Nat → List Oper → Bool
  | _, [] => true
  | i, o :: r => (o.after.toList.all fun e => !(Region.binds .any e) || Nat.blt e.on i) && afterOk (i + 1) r

/-! ### code -/
def gcT (keep : List Nat) (s : List PV) : List PV := renL (idx keep) s
abbrev KontC := Exit → List PV → List Blk → Prop
def Weak0 (s : List PV) (h : List Blk) (nref : Nat) (s' : List PV) (h' : List Blk) : Prop :=
  ∃ keep : List Nat, nodup keep = true ∧ (∀ i, i < nref → keep[i]? = some i) ∧ pickB (idx keep) h keep = some h' ∧ s' = gcT keep s
def mask : List Bool → List PV → List PV
  | true :: m, p :: r => p :: mask m r
  | false :: m, _ :: r => .un :: mask m r
  | _, l => l
/-! a row that is nil becomes one that may be written -/
def upT : List (Option Nat) → List PV → List PV
  | some i :: u, .nil :: r => .own i 0 :: upT u r
  | _ :: u, p :: r => p :: upT u r
  | _, l => l
def upBs : List (List (Option Nat)) → List Blk → List Blk
  | u :: us, .box ty cs :: r => .box ty (upT u cs) :: upBs us r
  | _ :: us, B :: r => B :: upBs us r
  | _, h => h
def upIn (m n : Nat) : List (Option Nat) → Bool
  | some i :: u => Nat.ble m i && Nat.blt i n && upIn m n u
  | none :: u => upIn m n u
  | [] => true
def upIns (m n : Nat) : List (List (Option Nat)) → Bool
  | u :: us => upIn m n u && upIns m n us
  | [] => true
def posL : List (Nat × Nat) → Bool
  | x :: r => Nat.blt 0 x.1 && posL r
  | [] => true
def nils : List (Nat × Nat) → List Blk
  | x :: r => .arr x.1 x.2 false [] :: nils r
  | [] => []
def Weak (s : List PV) (h : List Blk) (nref : Nat) (s' : List PV) (h' : List Blk) : Prop :=
  ∃ ex us bs, posL ex = true ∧ upIn (len h) (len h + len ex) us = true ∧ upIns (len h) (len h + len ex) bs = true ∧
    ∃ s1, Weak0 (upT us s) (upBs bs h ++ nils ex) nref s1 h' ∧ ∃ ms, s' = mask ms s1
/-! what is still named, in order -/
mutual
def refP : PV → List Nat
  | .own i _ => [i]
  | .ptr i _ => [i]
  | .eptr i _ _ _ => [i]
  | .agg cs => refL cs
  | .tup cs => refL cs
  | _ => []
def refL : List PV → List Nat
  | [] => []
  | p :: r => refP p ++ refL r
end
def has : List Nat → Nat → Bool
  | [], _ => false
  | x :: r, i => Nat.beq x i || has r i
def uniq : List Nat → List Nat → List Nat
  | acc, [] => acc
  | acc, i :: r => cond (has acc i) (uniq acc r) (uniq (acc ++ [i]) r)
def inBoxes (h : List Blk) : List Nat → List Nat
  | [] => []
  | i :: r => match nthB h i with
    | some (.box _ cs) => refL cs ++ inBoxes h r
    | _ => inBoxes h r
def upto : Nat → Nat → List Nat
  | _, 0 => []
  | m, n + 1 => m :: upto (m + 1) n
def keepOf (nref : Nat) (h : List Blk) (s : List PV) : List Nat :=
  match uniq (upto 0 nref) (refL s) with
  | k => match uniq k (inBoxes h k) with
    | k => uniq k (inBoxes h k)
def pre : Nat → Nat → List Nat → Bool
  | _, 0, _ => true
  | m, n + 1, i :: r => Nat.beq i m && pre (m + 1) n r
  | _, _, _ => false
theorem pre_ok : ∀ (n m : Nat) (l : List Nat), pre m n l = true → ∀ i, i < n → l[i]? = some (m + i)
  | 0, _, _, _, i, hi => by omega
  | n + 1, m, [], h, _, _ => by simp [pre] at h
  | n + 1, m, x :: r, h, i, hi => by
    simp only [pre, Bool.and_eq_true] at h
    obtain ⟨h1, h2⟩ := h
    have := Nat.eq_of_beq_eq_true h1
    subst this
    cases i with
    | zero => simp
    | succ i =>
      have := pre_ok n (x + 1) r h2 i (by omega)
      simp only [List.getElem?_cons_succ]
      rw [this]
      congr 1
      omega

inductive NextVC (nref : Nat) (I : Nat → List PV → List Blk → Prop) (n : Nat) (s : List PV) (h : List Blk) : Prop where
  | mk (m : Nat) (s2 : List PV) (h2 : List Blk) (lt : m < n) (w : Weak s h nref s2 h2) (i : I m s2 h2)
inductive LoopVC (nref : Nat) (s : List PV) (h : List Blk) (B : List PV → List Blk → (List PV → List Blk → Prop) → Prop) : Prop where
  | mk (I : Nat → List PV → List Blk → Prop) (n : Nat) (s' : List PV) (h' : List Blk) (w : Weak s h nref s' h') (i : I n s' h') (r : ∀ n s h, I n s h → B s h (NextVC nref I n))

inductive SeqVC (nref : Nat) (A : (List PV → List Blk → Prop) → Prop) (B : List PV → List Blk → Prop) : Prop where
  | go (k : A B)
  | cut (J : List PV → List Blk → Prop) (a : A fun s h => ∃ s' h', Weak s h nref s' h' ∧ J s' h') (b : ∀ s h, J s h → B s h)
def setC (s : List PV) (c : Operand) (x : Bool) : List PV :=
  match c with
  | .tmp t => put s t (.v (.b x))
  | _ => s
def aCode (E : Env) (nref : Nat) : Code → List PV → List Blk → KontC → Prop
  | .skip, s, h, K => K .normal s h
  | .region _ ops draw, s, h, K => aOps E ops.toList ops.toList s h fun s' h' acc => cond (!draw || (afterOk 0 ops.toList && ordOk ops.toList (len ops.toList) 0 ops.toList acc)) (K .normal s' h') False
  | .seq a b, s, h, K => SeqVC nref (fun B => aCode E nref a s h fun e s' h' => match e with
    | .normal => B s' h'
    | e => K e s' h') fun s' h' => aCode E nref b s' h' K
  | .cond c x y, s, h, K => match ev s c with
    | .v (.b v) => Br v (aCode E nref x (setC s c true) h K) (aCode E nref y (setC s c false) h K)
    | _ => False
  | .block id c, s, h, K => aCode E nref c s h fun e s' h' => match e with
    | .exit j => cond (Nat.beq j id) (K .normal s' h') (K (.exit j) s' h')
    | e => K e s' h'
  | .loop c, s, h, K => LoopVC nref s h fun s h K' => aCode E nref c s h fun e s' h' => match e with
        | .normal => K' s' h'
        | e => K e s' h'
  | .exit id, s, h, K => K (.exit id) s h
  | .ret, s, h, K => K .ret s h
  | _, _, _, _ => False

/-! ### a function -/
def aRes (E : Env) (s : List PV) (h : List Blk) : List ResultVar → (List PV → Prop) → Prop
  | [], K => K []
  | .tmp t :: r, K => aRes E s h r fun ps => K (nth s t :: ps)
  | .cell t ty :: r, K => aLoad E h ty (nth s t) fun q h' _ _ => aRes E s h r fun ps => K (q :: ps)
mutual
def upP (m : Nat) : PV → PV × Nat
  | .nil => (.own m 0, m + 1)
  | .agg cs => match upL m cs with
    | (l, n) => (.agg l, n)
  | .tup cs => match upL m cs with
    | (l, n) => (.tup l, n)
  | p => (p, m)
def upL (m : Nat) : List PV → List PV × Nat
  | [] => ([], m)
  | p :: r => match upP m p with
    | (q, n) => match upL n r with
      | (l, k) => (q :: l, k)
end
def retOf : List PV → PV
  | [p] => p
  | ps => .tup ps
inductive Fin0 (nref : Nat) (q : PV) (h : List Blk) (r : PV) (bl : List Blk) : Prop where
  | mk (ex : List (Nat × Nat)) (keep : List Nat) (h0 : ∀ x ∈ ex, 0 < x.1) (h1 : (upP (len h) q).2 = len h + len ex) (h2 : nodup keep = true) (h3 : ∀ i, i < nref → keep[i]? = some i)
    (h4 : pickB (idx keep) (h ++ ex.map fun x => .arr x.1 x.2 false []) keep = some bl) (h5 : renP (idx keep) (upP (len h) q).1 = r)
/-- A row that was made here may be handed out as one that is read only. -/
inductive FinVC (nref : Nat) (q : PV) (h : List Blk) (r : PV) (bl : List Blk) : Prop where
  | up (k : Fin0 nref q h r bl)
  | dn (id n sz : Nat) (ty : Nat) (fz : Bool) (els : List (List CV)) (hq : q = .own id n) (hb : nthB h id = some (.arr sz ty fz els)) (hn : n = els.length) (k : Fin0 nref (.v (.row els)) (frz [id] h) r bl)
def aFin (E : Env) (nref : Nat) (rs : List ResultVar) (r : PV) (bl : List Blk) : KontC := fun e s h =>
  match e with
  | .ret => aRes E s h rs fun ps => FinVC nref (retOf ps) h r bl
  | .normal => aRes E s h rs fun ps => FinVC nref (retOf ps) h r bl
  | _ => False
end Go.Proofs.YthkepmicdpgbbaaGreatDoor.E
