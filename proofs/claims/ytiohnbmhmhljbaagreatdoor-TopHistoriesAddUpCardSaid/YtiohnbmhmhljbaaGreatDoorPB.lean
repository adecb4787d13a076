/-
  What the laws of a seat share:the closed facts of the program.
-/
import Derived.Test.YtiohnbmhmhljbaaGreatDoorM3
import Derived.Test.YtiohnbmhmhljbaaGreatDoorProg
import Derived.Test.YtiohnbmhmhljbaaGreatDoorChecked
import Derived.WalkKit
import Derived.ProofKit
import Derived.OpenShut
namespace Go.Proofs.YtiohnbmhmhljbaaGreatDoor
open Go Go.Abs Go.ChangeShapes Go.WideShapes Go.ChangeAt Go.RowKit
set_option maxRecDepth 100000
namespace Base
theorem own:ownKnob Tryz.prog.godebug=none:=by kernel_rfl
theorem laidOut:laidOutB Tryz.prog=true:=by kernel_rfl
theorem mapsRow:mapsRowed Tryz.prog=true:=by kernel_rfl
theorem kids:Kids Tryz.prog (· < Tryz.prog.types.size):=kids_rows laidOut mapsRow
theorem sized:sizedB Tryz.prog (List.range Tryz.prog.types.size)=true:=by kernel_rfl
theorem sized' {t e:TypeId} (ht:t< Tryz.prog.types.size) (hu: Tryz.prog.underlying t=some (.slice e)):0< Tryz.prog.cellsOf e:=by
 have:=List.all_eq_true.1 sized t (by simpa using ht)
 rw[hu] at this
 simpa using this
theorem wf64 {z:Int} (h:(Lit.int .i64 z).wf=true): -9223372036854775808≤z∧z≤9223372036854775807:=by
 simpa [Lit.wf,IntKind.min,IntKind.max,IntKind.signed,IntKind.bits] using h
theorem strLim {s:ByteArray} (h:s.size≤maxLen):s.size≤top:=Nat.le_trans h (by decide)
end Base
end Go.Proofs.YtiohnbmhmhljbaaGreatDoor
