/-
  The kit's contract for slices.Insert at []int,laid at this seat's program.
-/
import Derived.Test.YtjjhmldeammecaaM4
import Derived.Test.YtjjhmldeammecaaProg
namespace Go.Abs
open Go Go.Abs Go.Proofs Go.Shelf
def insR:Ren:=⟨fun x=>match x with | 21=>54 | 27=>110 | 28=>111 | 35=>141 | 39=>153 | _=>x,fun x=>x,fun x=>x⟩
theorem insL:Lays2.n21 Try.prog insR where
 mixed:=by kernel_rfl
 f21:=by kernel_rfl
 f27:=by kernel_rfl
 f28:=by kernel_rfl
 f35:=by kernel_rfl
 f39:=by kernel_rfl
 t0:=by kernel_rfl
 a0:=fun w=>by kernel_rfl
 z0:=fun w=>by kernel_rfl
 v0:=fun w=>by kernel_rfl
 t3:=by kernel_rfl
 a3:=fun w=>by kernel_rfl
 z3:=fun w=>by kernel_rfl
 v3:=fun w=>by kernel_rfl
 t4:=by kernel_rfl
 a4:=fun w=>by kernel_rfl
 z4:=fun w=>by kernel_rfl
 v4:=fun w=>by kernel_rfl
 t22:=by kernel_rfl
 a22:=fun w=>by kernel_rfl
 z22:=fun w=>by kernel_rfl
 v22:=fun w=>by kernel_rfl
 i3:=by kernel_rfl
end Go.Abs
