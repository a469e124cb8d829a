/-
  No cell of these rows narrows 'for every input' (looked for: loops, veiled, ifaces, maps, wideKeys, modest, calm, conditions, laid).
  DERIVED. THE GIVEN ROWS OF THIS SEAT. 7 by the template 'for every input the law returns true; each argument reads behind the call as it read before'; 0 by the template 'total and deterministic' (their statements: YtkpcieenikmbmaaTotals.lean).
  GIVEN WITH THE SEED: the statements are not yours to turn. If you find one false, say at which input.
  Laid BY PROGRAM, IN A SANDBOX (cutbox-rows.mjs): the forced cells as the released guide's own fill.sh prints them over the translation 1d6307617124f173… (all of the seat's roots in one cut). By AI agents, Wed Nov 11 2026. No macro, syntax, notation, axiom, sorry.
-/
import Derived.Test.YtkpcieenikmbmaaChecked
import GoSem.Claim
import GoSem.ClaimJoined
import GoSem.ClaimMapViews
import Derived.JoinedTies
import Derived.KernelRfl
namespace Go.Proofs.Ytkpcieenikmbmaa
/- THE CELL 'sum', in the pinned program and in every row, IS THE sha256 OF THE DUMP (.gsa) THAT YtkpcieenikmbmaaProg.lean LOADS. Nothing in Lean hashes anything: it is a label: what it is worth is what the hold of that sum in a sandbox is worth. -/
noncomputable def Try.pinned : Pinned := { name := "ytkpcieenikmbmaa", sum := "1d6307617124f173cd96ff483f88690cdad6616db98c1dfe0a1f89ff52f54345", checked := Try.checked }
namespace Rows
def none {H : Type} : Left H := { results := [], args := [] }

/-- 'laws.FnExactReadSec': WHATEVER THE INPUT: true; the input reads as it did. -/
def fnExactReadSecSpec : ChangeSpec := { name := "fnExactReadSec", fn := fun _ => fun
  | [d1, d2] => { results := [.lit (.bool true)], args := [d1, d2] }
  | _ => none }
def fnExactReadSecRow : OpenClaim := { program := "ytkpcieenikmbmaa", sum := "1d6307617124f173cd96ff483f88690cdad6616db98c1dfe0a1f89ff52f54345", func := "loop.example/g00482/laws.FnExactReadSec", spec := "fnExactReadSec", apart := false }
def FnExactReadSecSaid : Prop := fnExactReadSecRow.holds Try.pinned (OpenSpec.ofChange fnExactReadSecSpec)

/-- ITS FALSE NEIGHBOUR: 'it returns false'. Refute it at one input. -/
def fnExactReadSecWrong : ChangeSpec := { name := "fnExactReadSec", fn := fun _ => fun
  | [d1, d2] => { results := [.lit (.bool false)], args := [d1, d2] }
  | _ => none }
def FnExactReadSecWrongFalsely : Prop := fnExactReadSecRow.holds Try.pinned (OpenSpec.ofChange fnExactReadSecWrong)

/-- 'laws.FnDisks': WHATEVER THE INPUT: true; the input reads as it did. -/
def fnDisksSpec : ChangeSpec := { name := "fnDisks", fn := fun _ => fun
  | [d] => { results := [.lit (.bool true)], args := [d] }
  | _ => none }
def fnDisksRow : OpenClaim := { program := "ytkpcieenikmbmaa", sum := "1d6307617124f173cd96ff483f88690cdad6616db98c1dfe0a1f89ff52f54345", func := "loop.example/g00482/laws.FnDisks", spec := "fnDisks", apart := false }
def FnDisksSaid : Prop := fnDisksRow.holds Try.pinned (OpenSpec.ofChange fnDisksSpec)

/-- ITS FALSE NEIGHBOUR: 'it returns false'. Refute it at one input. -/
def fnDisksWrong : ChangeSpec := { name := "fnDisks", fn := fun _ => fun
  | [d] => { results := [.lit (.bool false)], args := [d] }
  | _ => none }
def FnDisksWrongFalsely : Prop := fnDisksRow.holds Try.pinned (OpenSpec.ofChange fnDisksWrong)

/-- 'laws.FnExactFallDisk': WHATEVER THE INPUT: true; the input reads as it did. -/
def fnExactFallDiskSpec : ChangeSpec := { name := "fnExactFallDisk", fn := fun _ => fun
  | [d1, d2] => { results := [.lit (.bool true)], args := [d1, d2] }
  | _ => none }
def fnExactFallDiskRow : OpenClaim := { program := "ytkpcieenikmbmaa", sum := "1d6307617124f173cd96ff483f88690cdad6616db98c1dfe0a1f89ff52f54345", func := "loop.example/g00482/laws.FnExactFallDisk", spec := "fnExactFallDisk", apart := false }
def FnExactFallDiskSaid : Prop := fnExactFallDiskRow.holds Try.pinned (OpenSpec.ofChange fnExactFallDiskSpec)

/-- ITS FALSE NEIGHBOUR: 'it returns false'. Refute it at one input. -/
def fnExactFallDiskWrong : ChangeSpec := { name := "fnExactFallDisk", fn := fun _ => fun
  | [d1, d2] => { results := [.lit (.bool false)], args := [d1, d2] }
  | _ => none }
def FnExactFallDiskWrongFalsely : Prop := fnExactFallDiskRow.holds Try.pinned (OpenSpec.ofChange fnExactFallDiskWrong)

/-- 'laws.FnExactWriteSec': WHATEVER THE INPUT: true; the input reads as it did. -/
def fnExactWriteSecSpec : ChangeSpec := { name := "fnExactWriteSec", fn := fun _ => fun
  | [d1, d2, d3] => { results := [.lit (.bool true)], args := [d1, d2, d3] }
  | _ => none }
def fnExactWriteSecRow : OpenClaim := { program := "ytkpcieenikmbmaa", sum := "1d6307617124f173cd96ff483f88690cdad6616db98c1dfe0a1f89ff52f54345", func := "loop.example/g00482/laws.FnExactWriteSec", spec := "fnExactWriteSec", apart := false }
def FnExactWriteSecSaid : Prop := fnExactWriteSecRow.holds Try.pinned (OpenSpec.ofChange fnExactWriteSecSpec)

/-- ITS FALSE NEIGHBOUR: 'it returns false'. Refute it at one input. -/
def fnExactWriteSecWrong : ChangeSpec := { name := "fnExactWriteSec", fn := fun _ => fun
  | [d1, d2, d3] => { results := [.lit (.bool false)], args := [d1, d2, d3] }
  | _ => none }
def FnExactWriteSecWrongFalsely : Prop := fnExactWriteSecRow.holds Try.pinned (OpenSpec.ofChange fnExactWriteSecWrong)

/-- 'laws.FnExactFormat': WHATEVER THE INPUT: true; the input reads as it did. -/
def fnExactFormatSpec : ChangeSpec := { name := "fnExactFormat", fn := fun _ => fun
  | [] => { results := [.lit (.bool true)], args := [] }
  | _ => none }
def fnExactFormatRow : OpenClaim := { program := "ytkpcieenikmbmaa", sum := "1d6307617124f173cd96ff483f88690cdad6616db98c1dfe0a1f89ff52f54345", func := "loop.example/g00482/laws.FnExactFormat", spec := "fnExactFormat", apart := false }
def FnExactFormatSaid : Prop := fnExactFormatRow.holds Try.pinned (OpenSpec.ofChange fnExactFormatSpec)

/-- ITS FALSE NEIGHBOUR: 'it returns false'. Refute it at one input. -/
def fnExactFormatWrong : ChangeSpec := { name := "fnExactFormat", fn := fun _ => fun
  | [] => { results := [.lit (.bool false)], args := [] }
  | _ => none }
def FnExactFormatWrongFalsely : Prop := fnExactFormatRow.holds Try.pinned (OpenSpec.ofChange fnExactFormatWrong)

/-- 'laws.FnExactSyncDisk': WHATEVER THE INPUT: true; the input reads as it did. -/
def fnExactSyncDiskSpec : ChangeSpec := { name := "fnExactSyncDisk", fn := fun _ => fun
  | [d] => { results := [.lit (.bool true)], args := [d] }
  | _ => none }
def fnExactSyncDiskRow : OpenClaim := { program := "ytkpcieenikmbmaa", sum := "1d6307617124f173cd96ff483f88690cdad6616db98c1dfe0a1f89ff52f54345", func := "loop.example/g00482/laws.FnExactSyncDisk", spec := "fnExactSyncDisk", apart := false }
def FnExactSyncDiskSaid : Prop := fnExactSyncDiskRow.holds Try.pinned (OpenSpec.ofChange fnExactSyncDiskSpec)

/-- ITS FALSE NEIGHBOUR: 'it returns false'. Refute it at one input. -/
def fnExactSyncDiskWrong : ChangeSpec := { name := "fnExactSyncDisk", fn := fun _ => fun
  | [d] => { results := [.lit (.bool false)], args := [d] }
  | _ => none }
def FnExactSyncDiskWrongFalsely : Prop := fnExactSyncDiskRow.holds Try.pinned (OpenSpec.ofChange fnExactSyncDiskWrong)

/-- 'laws.FnFalls': WHATEVER THE INPUT: true; the input reads as it did. -/
def fnFallsSpec : ChangeSpec := { name := "fnFalls", fn := fun _ => fun
  | [d] => { results := [.lit (.bool true)], args := [d] }
  | _ => none }
def fnFallsRow : OpenClaim := { program := "ytkpcieenikmbmaa", sum := "1d6307617124f173cd96ff483f88690cdad6616db98c1dfe0a1f89ff52f54345", func := "loop.example/g00482/laws.FnFalls", spec := "fnFalls", apart := false }
def FnFallsSaid : Prop := fnFallsRow.holds Try.pinned (OpenSpec.ofChange fnFallsSpec)

/-- ITS FALSE NEIGHBOUR: 'it returns false'. Refute it at one input. -/
def fnFallsWrong : ChangeSpec := { name := "fnFalls", fn := fun _ => fun
  | [d] => { results := [.lit (.bool false)], args := [d] }
  | _ => none }
def FnFallsWrongFalsely : Prop := fnFallsRow.holds Try.pinned (OpenSpec.ofChange fnFallsWrong)

/- THE SECOND FORM. 'bulk': how many values and letters a reading holds, each counted each time it is reached (what is shared counts as often as it is met; a slice's spare places count too). A statement '..UptoSaid' is the law's where the arguments, and the package variables that the reading takes, are together of bulk at most 1048576: NARROWER than '..Said'. Prove '..Said' where nothing that the law and all that it calls make is longer than what came in: it says more and counts as full. Else prove '..UptoSaid'. A law counts once. -/
mutual
def uptoBulk {H : Type} : DataW H → Nat
  | .lit (.string bytes) => bytes.length + 1
  | .lit _ => 1
  | .nil => 1
  | .ptr d => uptoBulk d + 1
  | .slice elems spare => uptoBulkAll elems + uptoBulkAll spare + 1
  | .agg parts => uptoBulkAll parts + 1
  | .iface _ d => uptoBulk d + 1
  | .map entries => uptoBulkEntries entries + 1
  | .held _ => 1
def uptoBulkAll {H : Type} : List (DataW H) → Nat
  | [] => 0
  | d :: r => uptoBulk d + uptoBulkAll r
def uptoBulkEntries {H : Type} : List (Lit × DataW H) → Nat
  | [] => 0
  | x :: r => uptoBulkEntry x + uptoBulkEntries r
def uptoBulkEntry {H : Type} : Lit × DataW H → Nat
  | (.string bytes, d) => bytes.length + uptoBulk d + 1
  | (_, d) => uptoBulk d + 1
 end
def uptoSmall : (H : Type) → List (DataW H) → Bool := fun _ ds => decide (uptoBulkAll ds ≤ 1048576)
def OpenSpec.upto (s : _root_.Go.ChangeSpec) : _root_.Go.OpenSpec := { _root_.Go.OpenSpec.ofChange s with cond := some uptoSmall }

/-- 'laws.FnExactReadSec', WHERE WHAT IT READS IS OF BULK AT MOST 1048576: true; the input reads as it did. -/
def fnExactReadSecUptoRow : OpenClaim := { program := "ytkpcieenikmbmaa", sum := "1d6307617124f173cd96ff483f88690cdad6616db98c1dfe0a1f89ff52f54345", func := "loop.example/g00482/laws.FnExactReadSec", spec := "fnExactReadSec", apart := false, narrowed := true }
def FnExactReadSecUptoSaid : Prop := fnExactReadSecUptoRow.holds Try.pinned (OpenSpec.upto fnExactReadSecSpec)

/-- 'laws.FnDisks', WHERE WHAT IT READS IS OF BULK AT MOST 1048576: true; the input reads as it did. -/
def fnDisksUptoRow : OpenClaim := { program := "ytkpcieenikmbmaa", sum := "1d6307617124f173cd96ff483f88690cdad6616db98c1dfe0a1f89ff52f54345", func := "loop.example/g00482/laws.FnDisks", spec := "fnDisks", apart := false, narrowed := true }
def FnDisksUptoSaid : Prop := fnDisksUptoRow.holds Try.pinned (OpenSpec.upto fnDisksSpec)

/-- 'laws.FnExactFallDisk', WHERE WHAT IT READS IS OF BULK AT MOST 1048576: true; the input reads as it did. -/
def fnExactFallDiskUptoRow : OpenClaim := { program := "ytkpcieenikmbmaa", sum := "1d6307617124f173cd96ff483f88690cdad6616db98c1dfe0a1f89ff52f54345", func := "loop.example/g00482/laws.FnExactFallDisk", spec := "fnExactFallDisk", apart := false, narrowed := true }
def FnExactFallDiskUptoSaid : Prop := fnExactFallDiskUptoRow.holds Try.pinned (OpenSpec.upto fnExactFallDiskSpec)

/-- 'laws.FnExactWriteSec', WHERE WHAT IT READS IS OF BULK AT MOST 1048576: true; the input reads as it did. -/
def fnExactWriteSecUptoRow : OpenClaim := { program := "ytkpcieenikmbmaa", sum := "1d6307617124f173cd96ff483f88690cdad6616db98c1dfe0a1f89ff52f54345", func := "loop.example/g00482/laws.FnExactWriteSec", spec := "fnExactWriteSec", apart := false, narrowed := true }
def FnExactWriteSecUptoSaid : Prop := fnExactWriteSecUptoRow.holds Try.pinned (OpenSpec.upto fnExactWriteSecSpec)

/-- 'laws.FnExactFormat', WHERE WHAT IT READS IS OF BULK AT MOST 1048576: true; the input reads as it did. -/
def fnExactFormatUptoRow : OpenClaim := { program := "ytkpcieenikmbmaa", sum := "1d6307617124f173cd96ff483f88690cdad6616db98c1dfe0a1f89ff52f54345", func := "loop.example/g00482/laws.FnExactFormat", spec := "fnExactFormat", apart := false, narrowed := true }
def FnExactFormatUptoSaid : Prop := fnExactFormatUptoRow.holds Try.pinned (OpenSpec.upto fnExactFormatSpec)

/-- 'laws.FnExactSyncDisk', WHERE WHAT IT READS IS OF BULK AT MOST 1048576: true; the input reads as it did. -/
def fnExactSyncDiskUptoRow : OpenClaim := { program := "ytkpcieenikmbmaa", sum := "1d6307617124f173cd96ff483f88690cdad6616db98c1dfe0a1f89ff52f54345", func := "loop.example/g00482/laws.FnExactSyncDisk", spec := "fnExactSyncDisk", apart := false, narrowed := true }
def FnExactSyncDiskUptoSaid : Prop := fnExactSyncDiskUptoRow.holds Try.pinned (OpenSpec.upto fnExactSyncDiskSpec)

/-- 'laws.FnFalls', WHERE WHAT IT READS IS OF BULK AT MOST 1048576: true; the input reads as it did. -/
def fnFallsUptoRow : OpenClaim := { program := "ytkpcieenikmbmaa", sum := "1d6307617124f173cd96ff483f88690cdad6616db98c1dfe0a1f89ff52f54345", func := "loop.example/g00482/laws.FnFalls", spec := "fnFalls", apart := false, narrowed := true }
def FnFallsUptoSaid : Prop := fnFallsUptoRow.holds Try.pinned (OpenSpec.upto fnFallsSpec)

end Rows
end Go.Proofs.Ytkpcieenikmbmaa
