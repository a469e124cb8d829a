/-
  No cell of these rows narrows 'for every input' (looked for: loops, veiled, ifaces, maps, wideKeys, modest, calm, conditions, laid).
  DERIVED. THE GIVEN ROWS OF THIS SEAT. 11 by the template 'for every input the law returns true; each argument reads behind the call as it read before'; 0 by the template 'total and deterministic' (their statements: YtdanfcjaamcaiaaTotals.lean).
  GIVEN WITH THE SEED: the statements are not yours to turn. If you find one false, say at which input.
  Laid BY PROGRAM, IN A SANDBOX (cutbox-rows.mjs): the forced cells as the released guide's own fill.sh prints them over the translation 90b6c7927d1adde6… (all of the seat's roots in one cut). By AI agents, Wed Nov 11 2026. No macro, syntax, notation, axiom, sorry.
-/
import Derived.Test.YtdanfcjaamcaiaaChecked
import GoSem.Claim
import GoSem.ClaimJoined
import GoSem.ClaimMapViews
import Derived.JoinedTies
import Derived.KernelRfl
namespace Go.Proofs.Ytdanfcjaamcaiaa
/- THE CELL 'sum', in the pinned program and in every row, IS THE sha256 OF THE DUMP (.gsa) THAT YtdanfcjaamcaiaaProg.lean LOADS. Nothing in Lean hashes anything: it is a label: what it is worth is what the hold of that sum in a sandbox is worth. -/
noncomputable def Try.pinned : Pinned := { name := "ytdanfcjaamcaiaa", sum := "90b6c7927d1adde63cd0ea6471071849320f4a8a7c5e0c21dde711649dae29da", checked := Try.checked }
namespace Rows
def none {H : Type} : Left H := { results := [], args := [] }

/-- 'laws.FnExactDbAt': WHATEVER THE INPUT: true; the input reads as it did. -/
def fnExactDbAtSpec : ChangeSpec := { name := "fnExactDbAt", fn := fun _ => fun
  | [d1, d2] => { results := [.lit (.bool true)], args := [d1, d2] }
  | _ => none }
def fnExactDbAtRow : OpenClaim := { program := "ytdanfcjaamcaiaa", sum := "90b6c7927d1adde63cd0ea6471071849320f4a8a7c5e0c21dde711649dae29da", func := "loop.example/g00482/laws.FnExactDbAt", spec := "fnExactDbAt", unfollowed := true, recurses := true, apart := false }
def FnExactDbAtSaid : Prop := fnExactDbAtRow.holds Try.pinned (OpenSpec.ofChange fnExactDbAtSpec)

/-- ITS FALSE NEIGHBOUR: 'it returns false'. Refute it at one input. -/
def fnExactDbAtWrong : ChangeSpec := { name := "fnExactDbAt", fn := fun _ => fun
  | [d1, d2] => { results := [.lit (.bool false)], args := [d1, d2] }
  | _ => none }
def FnExactDbAtWrongFalsely : Prop := fnExactDbAtRow.holds Try.pinned (OpenSpec.ofChange fnExactDbAtWrong)

/-- 'laws.FnExactGetHead': WHATEVER THE INPUT: true; the input reads as it did. -/
def fnExactGetHeadSpec : ChangeSpec := { name := "fnExactGetHead", fn := fun _ => fun
  | [d] => { results := [.lit (.bool true)], args := [d] }
  | _ => none }
def fnExactGetHeadRow : OpenClaim := { program := "ytdanfcjaamcaiaa", sum := "90b6c7927d1adde63cd0ea6471071849320f4a8a7c5e0c21dde711649dae29da", func := "loop.example/g00482/laws.FnExactGetHead", spec := "fnExactGetHead", apart := false }
def FnExactGetHeadSaid : Prop := fnExactGetHeadRow.holds Try.pinned (OpenSpec.ofChange fnExactGetHeadSpec)

/-- ITS FALSE NEIGHBOUR: 'it returns false'. Refute it at one input. -/
def fnExactGetHeadWrong : ChangeSpec := { name := "fnExactGetHead", fn := fun _ => fun
  | [d] => { results := [.lit (.bool false)], args := [d] }
  | _ => none }
def FnExactGetHeadWrongFalsely : Prop := fnExactGetHeadRow.holds Try.pinned (OpenSpec.ofChange fnExactGetHeadWrong)

/-- 'laws.FnExactRecsOf': WHATEVER THE INPUT: true; the input reads as it did. -/
def fnExactRecsOfSpec : ChangeSpec := { name := "fnExactRecsOf", fn := fun _ => fun
  | [d] => { results := [.lit (.bool true)], args := [d] }
  | _ => none }
def fnExactRecsOfRow : OpenClaim := { program := "ytdanfcjaamcaiaa", sum := "90b6c7927d1adde63cd0ea6471071849320f4a8a7c5e0c21dde711649dae29da", func := "loop.example/g00482/laws.FnExactRecsOf", spec := "fnExactRecsOf", apart := false }
def FnExactRecsOfSaid : Prop := fnExactRecsOfRow.holds Try.pinned (OpenSpec.ofChange fnExactRecsOfSpec)

/-- ITS FALSE NEIGHBOUR: 'it returns false'. Refute it at one input. -/
def fnExactRecsOfWrong : ChangeSpec := { name := "fnExactRecsOf", fn := fun _ => fun
  | [d] => { results := [.lit (.bool false)], args := [d] }
  | _ => none }
def FnExactRecsOfWrongFalsely : Prop := fnExactRecsOfRow.holds Try.pinned (OpenSpec.ofChange fnExactRecsOfWrong)

/-- 'laws.FnExactConfOk': WHATEVER THE INPUT: true; the input reads as it did. -/
def fnExactConfOkSpec : ChangeSpec := { name := "fnExactConfOk", fn := fun _ => fun
  | [d] => { results := [.lit (.bool true)], args := [d] }
  | _ => none }
def fnExactConfOkRow : OpenClaim := { program := "ytdanfcjaamcaiaa", sum := "90b6c7927d1adde63cd0ea6471071849320f4a8a7c5e0c21dde711649dae29da", func := "loop.example/g00482/laws.FnExactConfOk", spec := "fnExactConfOk", unfollowed := true, recurses := true, apart := false }
def FnExactConfOkSaid : Prop := fnExactConfOkRow.holds Try.pinned (OpenSpec.ofChange fnExactConfOkSpec)

/-- ITS FALSE NEIGHBOUR: 'it returns false'. Refute it at one input. -/
def fnExactConfOkWrong : ChangeSpec := { name := "fnExactConfOk", fn := fun _ => fun
  | [d] => { results := [.lit (.bool false)], args := [d] }
  | _ => none }
def FnExactConfOkWrongFalsely : Prop := fnExactConfOkRow.holds Try.pinned (OpenSpec.ofChange fnExactConfOkWrong)

/-- 'laws.FnExactDiskNew': WHATEVER THE INPUT: true; the input reads as it did. -/
def fnExactDiskNewSpec : ChangeSpec := { name := "fnExactDiskNew", fn := fun _ => fun
  | [d] => { results := [.lit (.bool true)], args := [d] }
  | _ => none }
def fnExactDiskNewRow : OpenClaim := { program := "ytdanfcjaamcaiaa", sum := "90b6c7927d1adde63cd0ea6471071849320f4a8a7c5e0c21dde711649dae29da", func := "loop.example/g00482/laws.FnExactDiskNew", spec := "fnExactDiskNew", apart := false }
def FnExactDiskNewSaid : Prop := fnExactDiskNewRow.holds Try.pinned (OpenSpec.ofChange fnExactDiskNewSpec)

/-- ITS FALSE NEIGHBOUR: 'it returns false'. Refute it at one input. -/
def fnExactDiskNewWrong : ChangeSpec := { name := "fnExactDiskNew", fn := fun _ => fun
  | [d] => { results := [.lit (.bool false)], args := [d] }
  | _ => none }
def FnExactDiskNewWrongFalsely : Prop := fnExactDiskNewRow.holds Try.pinned (OpenSpec.ofChange fnExactDiskNewWrong)

/-- 'laws.FnExactGetFrame': WHATEVER THE INPUT: true; the input reads as it did. -/
def fnExactGetFrameSpec : ChangeSpec := { name := "fnExactGetFrame", fn := fun _ => fun
  | [d] => { results := [.lit (.bool true)], args := [d] }
  | _ => none }
def fnExactGetFrameRow : OpenClaim := { program := "ytdanfcjaamcaiaa", sum := "90b6c7927d1adde63cd0ea6471071849320f4a8a7c5e0c21dde711649dae29da", func := "loop.example/g00482/laws.FnExactGetFrame", spec := "fnExactGetFrame", apart := false }
def FnExactGetFrameSaid : Prop := fnExactGetFrameRow.holds Try.pinned (OpenSpec.ofChange fnExactGetFrameSpec)

/-- ITS FALSE NEIGHBOUR: 'it returns false'. Refute it at one input. -/
def fnExactGetFrameWrong : ChangeSpec := { name := "fnExactGetFrame", fn := fun _ => fun
  | [d] => { results := [.lit (.bool false)], args := [d] }
  | _ => none }
def FnExactGetFrameWrongFalsely : Prop := fnExactGetFrameRow.holds Try.pinned (OpenSpec.ofChange fnExactGetFrameWrong)

/-- 'laws.FnExactPutFrame': WHATEVER THE INPUT: true; the input reads as it did. -/
def fnExactPutFrameSpec : ChangeSpec := { name := "fnExactPutFrame", fn := fun _ => fun
  | [d] => { results := [.lit (.bool true)], args := [d] }
  | _ => none }
def fnExactPutFrameRow : OpenClaim := { program := "ytdanfcjaamcaiaa", sum := "90b6c7927d1adde63cd0ea6471071849320f4a8a7c5e0c21dde711649dae29da", func := "loop.example/g00482/laws.FnExactPutFrame", spec := "fnExactPutFrame", apart := false }
def FnExactPutFrameSaid : Prop := fnExactPutFrameRow.holds Try.pinned (OpenSpec.ofChange fnExactPutFrameSpec)

/-- ITS FALSE NEIGHBOUR: 'it returns false'. Refute it at one input. -/
def fnExactPutFrameWrong : ChangeSpec := { name := "fnExactPutFrame", fn := fun _ => fun
  | [d] => { results := [.lit (.bool false)], args := [d] }
  | _ => none }
def FnExactPutFrameWrongFalsely : Prop := fnExactPutFrameRow.holds Try.pinned (OpenSpec.ofChange fnExactPutFrameWrong)

/-- 'laws.FnHeads': WHATEVER THE INPUT: true; the input reads as it did. -/
def fnHeadsSpec : ChangeSpec := { name := "fnHeads", fn := fun _ => fun
  | [d] => { results := [.lit (.bool true)], args := [d] }
  | _ => none }
def fnHeadsRow : OpenClaim := { program := "ytdanfcjaamcaiaa", sum := "90b6c7927d1adde63cd0ea6471071849320f4a8a7c5e0c21dde711649dae29da", func := "loop.example/g00482/laws.FnHeads", spec := "fnHeads", apart := false }
def FnHeadsSaid : Prop := fnHeadsRow.holds Try.pinned (OpenSpec.ofChange fnHeadsSpec)

/-- ITS FALSE NEIGHBOUR: 'it returns false'. Refute it at one input. -/
def fnHeadsWrong : ChangeSpec := { name := "fnHeads", fn := fun _ => fun
  | [d] => { results := [.lit (.bool false)], args := [d] }
  | _ => none }
def FnHeadsWrongFalsely : Prop := fnHeadsRow.holds Try.pinned (OpenSpec.ofChange fnHeadsWrong)

/-- 'laws.FnExactDiskOk': WHATEVER THE INPUT: true; the input reads as it did. -/
def fnExactDiskOkSpec : ChangeSpec := { name := "fnExactDiskOk", fn := fun _ => fun
  | [d] => { results := [.lit (.bool true)], args := [d] }
  | _ => none }
def fnExactDiskOkRow : OpenClaim := { program := "ytdanfcjaamcaiaa", sum := "90b6c7927d1adde63cd0ea6471071849320f4a8a7c5e0c21dde711649dae29da", func := "loop.example/g00482/laws.FnExactDiskOk", spec := "fnExactDiskOk", apart := false }
def FnExactDiskOkSaid : Prop := fnExactDiskOkRow.holds Try.pinned (OpenSpec.ofChange fnExactDiskOkSpec)

/-- ITS FALSE NEIGHBOUR: 'it returns false'. Refute it at one input. -/
def fnExactDiskOkWrong : ChangeSpec := { name := "fnExactDiskOk", fn := fun _ => fun
  | [d] => { results := [.lit (.bool false)], args := [d] }
  | _ => none }
def FnExactDiskOkWrongFalsely : Prop := fnExactDiskOkRow.holds Try.pinned (OpenSpec.ofChange fnExactDiskOkWrong)

/-- 'laws.FnExactFrames': WHATEVER THE INPUT: true; the input reads as it did. -/
def fnExactFramesSpec : ChangeSpec := { name := "fnExactFrames", fn := fun _ => fun
  | [d] => { results := [.lit (.bool true)], args := [d] }
  | _ => none }
def fnExactFramesRow : OpenClaim := { program := "ytdanfcjaamcaiaa", sum := "90b6c7927d1adde63cd0ea6471071849320f4a8a7c5e0c21dde711649dae29da", func := "loop.example/g00482/laws.FnExactFrames", spec := "fnExactFrames", apart := false }
def FnExactFramesSaid : Prop := fnExactFramesRow.holds Try.pinned (OpenSpec.ofChange fnExactFramesSpec)

/-- ITS FALSE NEIGHBOUR: 'it returns false'. Refute it at one input. -/
def fnExactFramesWrong : ChangeSpec := { name := "fnExactFrames", fn := fun _ => fun
  | [d] => { results := [.lit (.bool false)], args := [d] }
  | _ => none }
def FnExactFramesWrongFalsely : Prop := fnExactFramesRow.holds Try.pinned (OpenSpec.ofChange fnExactFramesWrong)

/-- 'laws.FnFalls': WHATEVER THE INPUT: true; the input reads as it did. -/
def fnFallsSpec : ChangeSpec := { name := "fnFalls", fn := fun _ => fun
  | [d] => { results := [.lit (.bool true)], args := [d] }
  | _ => none }
def fnFallsRow : OpenClaim := { program := "ytdanfcjaamcaiaa", sum := "90b6c7927d1adde63cd0ea6471071849320f4a8a7c5e0c21dde711649dae29da", func := "loop.example/g00482/laws.FnFalls", spec := "fnFalls", apart := false }
def FnFallsSaid : Prop := fnFallsRow.holds Try.pinned (OpenSpec.ofChange fnFallsSpec)

/-- ITS FALSE NEIGHBOUR: 'it returns false'. Refute it at one input. -/
def fnFallsWrong : ChangeSpec := { name := "fnFalls", fn := fun _ => fun
  | [d] => { results := [.lit (.bool false)], args := [d] }
  | _ => none }
def FnFallsWrongFalsely : Prop := fnFallsRow.holds Try.pinned (OpenSpec.ofChange fnFallsWrong)

/- THE SECOND FORM. 'bulk': how many values and letters a reading holds, each counted each time it is reached (what is shared counts as often as it is met; a slice's spare places count too). A statement '..UptoSaid' is the law's where the arguments, and the package variables that the reading takes, are together of bulk at most 1048576: NARROWER than '..Said'. Prove '..Said' where nothing that the law and all that it calls make is longer than what came in: it says more and counts as full. Else prove '..UptoSaid'. A law counts once. -/
mutual
def uptoBulk {H : Type} : DataW H → Nat
  | .lit (.string bytes) => bytes.length + 1
  | .lit _ => 1
  | .nil => 1
  | .ptr d => uptoBulk d + 1
  | .slice elems spare => uptoBulkAll elems + uptoBulkAll spare + 1
  | .agg parts => uptoBulkAll parts + 1
  | .iface _ d => uptoBulk d + 1
  | .map entries => uptoBulkEntries entries + 1
  | .held _ => 1
def uptoBulkAll {H : Type} : List (DataW H) → Nat
  | [] => 0
  | d :: r => uptoBulk d + uptoBulkAll r
def uptoBulkEntries {H : Type} : List (Lit × DataW H) → Nat
  | [] => 0
  | x :: r => uptoBulkEntry x + uptoBulkEntries r
def uptoBulkEntry {H : Type} : Lit × DataW H → Nat
  | (.string bytes, d) => bytes.length + uptoBulk d + 1
  | (_, d) => uptoBulk d + 1
 end
def uptoSmall : (H : Type) → List (DataW H) → Bool := fun _ ds => decide (uptoBulkAll ds ≤ 1048576)
def OpenSpec.upto (s : _root_.Go.ChangeSpec) : _root_.Go.OpenSpec := { _root_.Go.OpenSpec.ofChange s with cond := some uptoSmall }

/-- 'laws.FnExactDbAt', WHERE WHAT IT READS IS OF BULK AT MOST 1048576: true; the input reads as it did. -/
def fnExactDbAtUptoRow : OpenClaim := { program := "ytdanfcjaamcaiaa", sum := "90b6c7927d1adde63cd0ea6471071849320f4a8a7c5e0c21dde711649dae29da", func := "loop.example/g00482/laws.FnExactDbAt", spec := "fnExactDbAt", unfollowed := true, recurses := true, apart := false, narrowed := true }
def FnExactDbAtUptoSaid : Prop := fnExactDbAtUptoRow.holds Try.pinned (OpenSpec.upto fnExactDbAtSpec)

/-- 'laws.FnExactGetHead', WHERE WHAT IT READS IS OF BULK AT MOST 1048576: true; the input reads as it did. -/
def fnExactGetHeadUptoRow : OpenClaim := { program := "ytdanfcjaamcaiaa", sum := "90b6c7927d1adde63cd0ea6471071849320f4a8a7c5e0c21dde711649dae29da", func := "loop.example/g00482/laws.FnExactGetHead", spec := "fnExactGetHead", apart := false, narrowed := true }
def FnExactGetHeadUptoSaid : Prop := fnExactGetHeadUptoRow.holds Try.pinned (OpenSpec.upto fnExactGetHeadSpec)

/-- 'laws.FnExactRecsOf', WHERE WHAT IT READS IS OF BULK AT MOST 1048576: true; the input reads as it did. -/
def fnExactRecsOfUptoRow : OpenClaim := { program := "ytdanfcjaamcaiaa", sum := "90b6c7927d1adde63cd0ea6471071849320f4a8a7c5e0c21dde711649dae29da", func := "loop.example/g00482/laws.FnExactRecsOf", spec := "fnExactRecsOf", apart := false, narrowed := true }
def FnExactRecsOfUptoSaid : Prop := fnExactRecsOfUptoRow.holds Try.pinned (OpenSpec.upto fnExactRecsOfSpec)

/-- 'laws.FnExactConfOk', WHERE WHAT IT READS IS OF BULK AT MOST 1048576: true; the input reads as it did. -/
def fnExactConfOkUptoRow : OpenClaim := { program := "ytdanfcjaamcaiaa", sum := "90b6c7927d1adde63cd0ea6471071849320f4a8a7c5e0c21dde711649dae29da", func := "loop.example/g00482/laws.FnExactConfOk", spec := "fnExactConfOk", unfollowed := true, recurses := true, apart := false, narrowed := true }
def FnExactConfOkUptoSaid : Prop := fnExactConfOkUptoRow.holds Try.pinned (OpenSpec.upto fnExactConfOkSpec)

/-- 'laws.FnExactDiskNew', WHERE WHAT IT READS IS OF BULK AT MOST 1048576: true; the input reads as it did. -/
def fnExactDiskNewUptoRow : OpenClaim := { program := "ytdanfcjaamcaiaa", sum := "90b6c7927d1adde63cd0ea6471071849320f4a8a7c5e0c21dde711649dae29da", func := "loop.example/g00482/laws.FnExactDiskNew", spec := "fnExactDiskNew", apart := false, narrowed := true }
def FnExactDiskNewUptoSaid : Prop := fnExactDiskNewUptoRow.holds Try.pinned (OpenSpec.upto fnExactDiskNewSpec)

/-- 'laws.FnExactGetFrame', WHERE WHAT IT READS IS OF BULK AT MOST 1048576: true; the input reads as it did. -/
def fnExactGetFrameUptoRow : OpenClaim := { program := "ytdanfcjaamcaiaa", sum := "90b6c7927d1adde63cd0ea6471071849320f4a8a7c5e0c21dde711649dae29da", func := "loop.example/g00482/laws.FnExactGetFrame", spec := "fnExactGetFrame", apart := false, narrowed := true }
def FnExactGetFrameUptoSaid : Prop := fnExactGetFrameUptoRow.holds Try.pinned (OpenSpec.upto fnExactGetFrameSpec)

/-- 'laws.FnExactPutFrame', WHERE WHAT IT READS IS OF BULK AT MOST 1048576: true; the input reads as it did. -/
def fnExactPutFrameUptoRow : OpenClaim := { program := "ytdanfcjaamcaiaa", sum := "90b6c7927d1adde63cd0ea6471071849320f4a8a7c5e0c21dde711649dae29da", func := "loop.example/g00482/laws.FnExactPutFrame", spec := "fnExactPutFrame", apart := false, narrowed := true }
def FnExactPutFrameUptoSaid : Prop := fnExactPutFrameUptoRow.holds Try.pinned (OpenSpec.upto fnExactPutFrameSpec)

/-- 'laws.FnHeads', WHERE WHAT IT READS IS OF BULK AT MOST 1048576: true; the input reads as it did. -/
def fnHeadsUptoRow : OpenClaim := { program := "ytdanfcjaamcaiaa", sum := "90b6c7927d1adde63cd0ea6471071849320f4a8a7c5e0c21dde711649dae29da", func := "loop.example/g00482/laws.FnHeads", spec := "fnHeads", apart := false, narrowed := true }
def FnHeadsUptoSaid : Prop := fnHeadsUptoRow.holds Try.pinned (OpenSpec.upto fnHeadsSpec)

/-- 'laws.FnExactDiskOk', WHERE WHAT IT READS IS OF BULK AT MOST 1048576: true; the input reads as it did. -/
def fnExactDiskOkUptoRow : OpenClaim := { program := "ytdanfcjaamcaiaa", sum := "90b6c7927d1adde63cd0ea6471071849320f4a8a7c5e0c21dde711649dae29da", func := "loop.example/g00482/laws.FnExactDiskOk", spec := "fnExactDiskOk", apart := false, narrowed := true }
def FnExactDiskOkUptoSaid : Prop := fnExactDiskOkUptoRow.holds Try.pinned (OpenSpec.upto fnExactDiskOkSpec)

/-- 'laws.FnExactFrames', WHERE WHAT IT READS IS OF BULK AT MOST 1048576: true; the input reads as it did. -/
def fnExactFramesUptoRow : OpenClaim := { program := "ytdanfcjaamcaiaa", sum := "90b6c7927d1adde63cd0ea6471071849320f4a8a7c5e0c21dde711649dae29da", func := "loop.example/g00482/laws.FnExactFrames", spec := "fnExactFrames", apart := false, narrowed := true }
def FnExactFramesUptoSaid : Prop := fnExactFramesUptoRow.holds Try.pinned (OpenSpec.upto fnExactFramesSpec)

/-- 'laws.FnFalls', WHERE WHAT IT READS IS OF BULK AT MOST 1048576: true; the input reads as it did. -/
def fnFallsUptoRow : OpenClaim := { program := "ytdanfcjaamcaiaa", sum := "90b6c7927d1adde63cd0ea6471071849320f4a8a7c5e0c21dde711649dae29da", func := "loop.example/g00482/laws.FnFalls", spec := "fnFalls", apart := false, narrowed := true }
def FnFallsUptoSaid : Prop := fnFallsUptoRow.holds Try.pinned (OpenSpec.upto fnFallsSpec)

end Rows
end Go.Proofs.Ytdanfcjaamcaiaa
