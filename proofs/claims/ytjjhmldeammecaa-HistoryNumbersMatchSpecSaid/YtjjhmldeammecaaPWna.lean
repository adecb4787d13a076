/-
  The law HistoryNumbersMatchSpec:for every input it answers true and leaves its arguments as they were. No condition.
-/
import Derived.Test.YtjjhmldeammecaaGHnd
import Derived.Test.YtjjhmldeammecaaSHn
import Derived.Test.YtjjhmldeammecaaXNe
import Derived.Test.YtjjhmldeammecaaPB
import Derived.Test.YtjjhmldeammecaaRows
namespace Go.Proofs.Ytjjhmldeammecaa
open Go Go.Abs Go.ChangeShapes Go.WideShapes Go.ChangeAt Go.RowKit
set_option maxRecDepth 100000
namespace numx
theorem contract (H:Type) (enc:TypeId × Value→H) (W:World) (base:Nat) (args:Array Value) (ds gs:List (DataW H)) (before:List MemPlace)
  (hval:∀(j:Nat) t v,Try.f14.params[j]? =some t→args[j]? =some v→Value.okWide Try.prog W .any base t v)
  (hW:DataW.Whole enc Try.prog Try.f14.params.toList Rows.historyNumbersMatchSpecSpec.vars false W args.toList ds gs before) :
  Calls Try.prog 14 args W fun e W'=>∃v,e= .returned v∧Rows.historyNumbersMatchSpecSpec.post enc Try.prog Try.f14 false true false false W args v W':=by
 have hW':=hW
 obtain⟨p,q,hA0,hV,rfl,hfz,hnd⟩:=hW
 have hA:DataW.TrodAll enc Try.prog W 0 (fun _=>true) true Try.f14.params.toList args.toList ds p:=hA0
 rw[Try.params14] at hA hval
 obtain⟨v0,vs0,d0,ds0,p0,q0,hargs,rfl,rfl,h0,r0⟩:=trodAll_cons hA
 obtain⟨v1,vs1,d1,ds1,p1,q1,rfl,rfl,rfl,h1,r1⟩:=trodAll_cons r0
 obtain⟨v2,vs2,d2,ds2,p2,q2,rfl,rfl,rfl,h2,r2⟩:=trodAll_cons r1
 obtain⟨v3,vs3,d3,ds3,p3,q3,rfl,rfl,rfl,h3,r3⟩:=trodAll_cons r2
 obtain⟨v4,vs4,d4,ds4,p4,q4,rfl,rfl,rfl,h4,r4⟩:=trodAll_cons r3
 obtain⟨v5,vs5,d5,ds5,p5,q5,rfl,rfl,rfl,h5,r5⟩:=trodAll_cons r4
 obtain⟨rfl,rfl,rfl⟩:=trodAll_nil r5
 obtain rfl:args= #[v0,v1,v2,v3,v4,v5]:=by cases args;simp_all
 obtain⟨x0,hp0⟩:=Base.arg_52 (hval 0 52 v0 rfl rfl) h0
 obtain⟨a1,rfl,_,_,w1⟩:=open_int Try.underlying3 (hval 1 3 v1 rfl rfl) h1
 obtain⟨a2,rfl,_,_,w2⟩:=open_int Try.underlying3 (hval 2 3 v2 rfl rfl) h2
 obtain⟨a3,rfl,_,_,w3⟩:=open_int Try.underlying3 (hval 3 3 v3 rfl rfl) h3
 obtain⟨a4,rfl,_,_,w4⟩:=open_int Try.underlying3 (hval 4 3 v4 rfl rfl) h4
 obtain⟨a5,rfl,_,_,w5⟩:=open_int Try.underlying3 (hval 5 3 v5 rfl rfl) h5
 refine law_post Base.kids Base.sized' hW' (by decide +kernel) rfl rfl (rt:=4) (by kernel_rfl) Try.underlying4 (xs:= [.p (Base.P_52 x0),.p (vi a1),.p (vi a2),.p (vi a3),.p (vi a4),.p (vi a5)]) ?_ (ZdF (law_Numbers x0 a1 a2 a3 a4 a5))
 simp only[ARepL,ARep]
 exact⟨v0,_,rfl,hp0,_,_,rfl,by simp[PRep],_,_,rfl,by simp[PRep],_,_,rfl,by simp[PRep],_,_,rfl,by simp[PRep],_,_,rfl,by simp[PRep],rfl⟩
end numx
end Go.Proofs.Ytjjhmldeammecaa
