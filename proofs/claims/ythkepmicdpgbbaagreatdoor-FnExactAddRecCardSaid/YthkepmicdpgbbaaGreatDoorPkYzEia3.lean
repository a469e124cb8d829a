/- Texts of this seat's claims, put together: PkYEia3 -/
import Derived.Test.YthkepmicdpgbbaaGreatDoorPkYzEia2
/- What the functions' codes come to. -/
namespace Go.Proofs.YthkepmicdpgbbaaGreatDoor.E
open Go Go.RowKit Go.Proofs.YthkepmicdpgbbaaGreatDoorW.PrintWords Go.Proofs.YthkepmicdpgbbaaGreatDoor.P
set_option linter.unusedVariables false
set_option linter.unusedSimpArgs false
set_option maxHeartbeats 0
set_option maxRecDepth 100000
theorem impl_SyncDisk_evt {kf : Nat} {l0_0 : List (List Int)} {l0_1 : List (S109)} {a0_2 : Int} {a0_3 : Bool} {r : (List (List Int)) × (List (S109)) × Int × Bool} (H : impl_SyncDisk.f kf l0_0 l0_1 a0_2 a0_3 = some r) : Spec Tryz.prog 85 [.agg [.v (.row (List.map e22 l0_0)), .v (.row (List.map e109 l0_1)), .v (.i .i64 a0_2), .v (.b a0_3)]] [] (.agg [.own 0 (List.map e22 r.1).length, .own 1 (List.map e109 r.2.1).length, .v (.i .i64 r.2.2.1), .v (.b r.2.2.2)]) [.tree 1 22 5 (List.map e22 r.1), .tree 2 109 5 (List.map e109 r.2.1)] := by
  rcases impl_SyncDisk_split H with h | h
  · exact impl_SyncDiskA_evt h
  · exact impl_SyncDiskB_evt h
end Go.Proofs.YthkepmicdpgbbaaGreatDoor.E
