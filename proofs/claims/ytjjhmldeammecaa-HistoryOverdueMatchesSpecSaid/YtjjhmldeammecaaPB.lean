/-
  What all laws of this seat share:the closed facts of the program,and how a calendar is read.
-/
import Derived.Test.YtjjhmldeammecaaW2
import Derived.Test.YtjjhmldeammecaaM3
import Derived.WalkKit
import Derived.ProofKit
import Derived.OpenShut
namespace Go.Proofs.Ytjjhmldeammecaa
open Go Go.Abs Go.ChangeShapes Go.WideShapes Go.ChangeAt Go.RowKit
set_option maxRecDepth 100000
namespace Base
theorem own:ownKnob Try.prog.godebug=none:=by kernel_rfl
theorem laidOut:laidOutB Try.prog=true:=by kernel_rfl
theorem mapsRow:mapsRowed Try.prog=true:=by kernel_rfl
theorem kids:Kids Try.prog (· < Try.prog.types.size):=kids_rows laidOut mapsRow
theorem sized:sizedB Try.prog (List.range Try.prog.types.size)=true:=by kernel_rfl
theorem sized' {t e:TypeId} (ht:t< Try.prog.types.size) (hu: Try.prog.underlying t=some (.slice e)):0< Try.prog.cellsOf e:=by
 have:=List.all_eq_true.1 sized t (by simpa using ht)
 rw[hu] at this
 simpa using this
theorem wf64 {z:Int} (h:(Lit.int .i64 z).wf=true): -9223372036854775808≤z∧z≤9223372036854775807:=by
 simpa [Lit.wf,IntKind.min,IntKind.max,IntKind.signed,IntKind.bits] using h
theorem strLim {s:ByteArray} (h:s.size≤maxLen):s.size≤top:=Nat.le_trans h (by decide)
theorem shp_ints {n:Nat} {pv:List PV} (h:Shp Try.prog n 22 pv):∃l:List Int,pv= [ints l]∧l.length≤top∧∀z∈l,(Lit.int .i64 z).wf=true :=
 ZfY (f:=fun x=> [vi x]) Try.underlying22 (fun _ _ h=>Zgj Try.underlying3 h) h
theorem shp_cal {n:Nat} {pv:List PV} (h:Shp Try.prog n 24 pv):∃fr hol:List Int,pv= [ints fr,ints hol]:=by
 obtain⟨m,h⟩:=ZeO Try.underlying24 h
 simp only[List.map_cons,List.map_nil,ShpAll] at h
 obtain⟨a,b,rfl,h1,c,d,rfl,h2,rfl⟩:=h
 obtain⟨fr,rfl,_,_⟩:=shp_ints h1
 obtain⟨hol,rfl,_,_⟩:=shp_ints h2
 exact⟨fr,hol,rfl⟩
theorem calTypes:plainB Try.prog [24,22,3]=true:=by kernel_rfl
theorem arg_cal {H:Type} {enc:TypeId × Value→H} {W:World} {base:Nat} {v:Value} {d:DataW H} {ps:List MemPlace} (hv:Value.okWide Try.prog W .any base 24 v) (h:DataW.Trod enc Try.prog W 0 (fun _=>true) true 24 v d ps) :
  ∃fr hol,PRep (ofW W) (calP fr hol) v:=by
 obtain⟨n,pv,h1,h2⟩:=ZhT kids calTypes (by simp) Try.underlying24 hv h
 obtain⟨fr,hol,rfl⟩:=shp_cal h1
 exact⟨fr,hol,h2⟩
end Base
end Go.Proofs.Ytjjhmldeammecaa
