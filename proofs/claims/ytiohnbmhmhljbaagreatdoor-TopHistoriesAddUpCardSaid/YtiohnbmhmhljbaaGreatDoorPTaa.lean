/-
  The law TopHistoriesAddUp:for every input it answers true and leaves its arguments as they were. No condition.
-/
import Derived.Test.YtiohnbmhmhljbaaGreatDoorGTac
import Derived.Test.YtiohnbmhmhljbaaGreatDoorSTa
import Derived.Test.YtiohnbmhmhljbaaGreatDoorXTb
import Derived.Test.YtiohnbmhmhljbaaGreatDoorPB
import Derived.Test.YtiohnbmhmhljbaaGreatDoorRows
namespace Go.Proofs.YtiohnbmhmhljbaaGreatDoor
open Go Go.Abs Go.ChangeShapes Go.WideShapes Go.ChangeAt Go.RowKit
set_option maxRecDepth 100000
namespace topx
theorem contract (H:Type) (enc:TypeId × Value→H) (W:World) (base:Nat) (args:Array Value) (ds gs:List (DataW H)) (before:List MemPlace)
  (hval:∀(j:Nat) t v,Tryz.f3.params[j]? =some t→args[j]? =some v→Value.okWide Tryz.prog W .any base t v)
  (hW:DataW.Whole enc Tryz.prog Tryz.f3.params.toList Rows.topHistoriesAddUpSpec.vars false W args.toList ds gs before) :
  Calls Tryz.prog 3 args W fun e W'=>∃v,e= .returned v∧Rows.topHistoriesAddUpSpec.post enc Tryz.prog Tryz.f3 false true false false W args v W':=by
 have hW':=hW
 obtain⟨p,q,hA0,hV,rfl,hfz,hnd⟩:=hW
 have hA:DataW.TrodAll enc Tryz.prog W 0 (fun _=>true) true Tryz.f3.params.toList args.toList ds p:=hA0
 rw[Tryz.params3] at hA hval
 obtain⟨v0,vs0,d0,ds0,p0,q0,hargs,rfl,rfl,h0,r0⟩:=trodAll_cons hA
 obtain⟨v1,vs1,d1,ds1,p1,q1,rfl,rfl,rfl,h1,r1⟩:=trodAll_cons r0
 obtain⟨v2,vs2,d2,ds2,p2,q2,rfl,rfl,rfl,h2,r2⟩:=trodAll_cons r1
 obtain⟨rfl,rfl,rfl⟩:=trodAll_nil r2
 obtain rfl:args= #[v0,v1,v2]:=by cases args;simp_all
 obtain⟨x0,hp0⟩:=Base.arg_25 (hval 0 25 v0 rfl rfl) h0
 obtain⟨a1,rfl,_,_,w1⟩:=open_int Tryz.underlying3 (hval 1 3 v1 rfl rfl) h1
 obtain⟨a2,rfl,_,_,w2⟩:=open_int Tryz.underlying3 (hval 2 3 v2 rfl rfl) h2
 refine law_post Base.kids Base.sized' hW' (by decide +kernel) rfl rfl (rt:=4) (by kernel_rfl) Tryz.underlying4 (xs:= [.p (Base.P_25 x0),.p (vi a1),.p (vi a2)]) ?_ (Zhe (law_Top x0 a1 a2))
 simp only[ARepL,ARep]
 exact⟨v0,_,rfl,hp0,_,_,rfl,by simp[PRep],_,_,rfl,by simp[PRep],rfl⟩
end topx
end Go.Proofs.YtiohnbmhmhljbaaGreatDoor
