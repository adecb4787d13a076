/-
  The law HistoryOverdueMatchesSpec:for every input it answers true and leaves its arguments as they were. No condition.
-/
import Derived.Test.YtjjhmldeammecaaGHoa
import Derived.Test.YtjjhmldeammecaaSHo
import Derived.Test.YtjjhmldeammecaaXHo
import Derived.Test.YtjjhmldeammecaaPB
import Derived.Test.YtjjhmldeammecaaRows
namespace Go.Proofs.Ytjjhmldeammecaa
open Go Go.Abs Go.ChangeShapes Go.WideShapes Go.ChangeAt Go.RowKit
set_option maxRecDepth 100000
namespace overx
theorem contract (H:Type) (enc:TypeId × Value→H) (W:World) (base:Nat) (args:Array Value) (ds gs:List (DataW H)) (before:List MemPlace)
  (hval:∀(j:Nat) t v,Try.f13.params[j]? =some t→args[j]? =some v→Value.okWide Try.prog W .any base t v)
  (hW:DataW.Whole enc Try.prog Try.f13.params.toList Rows.historyOverdueMatchesSpecSpec.vars false W args.toList ds gs before) :
  Calls Try.prog 13 args W fun e W'=>∃v,e= .returned v∧Rows.historyOverdueMatchesSpecSpec.post enc Try.prog Try.f13 false true false false W args v W':=by
 have hW':=hW
 obtain⟨p,q,hA0,hV,rfl,hfz,hnd⟩:=hW
 have hA:DataW.TrodAll enc Try.prog W 0 (fun _=>true) true Try.f13.params.toList args.toList ds p:=hA0
 rw[Try.params13] at hA hval
 obtain⟨v0,vs0,d0,ds0,p0,q0,hargs,rfl,rfl,h0,r0⟩:=trodAll_cons hA
 obtain⟨v1,vs1,d1,ds1,p1,q1,rfl,rfl,rfl,h1,r1⟩:=trodAll_cons r0
 obtain⟨v2,vs2,d2,ds2,p2,q2,rfl,rfl,rfl,h2,r2⟩:=trodAll_cons r1
 obtain⟨v3,vs3,d3,ds3,p3,q3,rfl,rfl,rfl,h3,r3⟩:=trodAll_cons r2
 obtain⟨rfl,rfl,rfl⟩:=trodAll_nil r3
 obtain rfl:args= #[v0,v1,v2,v3]:=by cases args;simp_all
 obtain⟨x0,hp0⟩:=Base.arg_24 (hval 0 24 v0 rfl rfl) h0
 obtain⟨x1,hp1⟩:=Base.arg_33 (hval 1 33 v1 rfl rfl) h1
 obtain⟨x2,hp2⟩:=Base.arg_52 (hval 2 52 v2 rfl rfl) h2
 obtain⟨a3,rfl,_,_,w3⟩:=open_int Try.underlying3 (hval 3 3 v3 rfl rfl) h3
 have hb0:x0.Holidays.length≤top:=by
  have h:=hp0
  simp only[Base.P_24,ZaN.c,PRep,PRepL] at h
  obtain⟨vs,_,v1,r1,_,_,v2,r2,_,⟨h2,_⟩,_⟩:=h
  simpa using h2
 refine law_post Base.kids Base.sized' hW' (by decide +kernel) rfl rfl (rt:=4) (by kernel_rfl) Try.underlying4 (xs:= [.p (Base.P_24 x0),.p (Base.P_33 x1),.p (Base.P_52 x2),.p (vi a3)]) ?_ (Zhl (law_Overdue x0 x1 x2 a3 hb0))
 simp only[ARepL,ARep]
 exact⟨v0,_,rfl,hp0,_,_,rfl,hp1,_,_,rfl,hp2,_,_,rfl,by simp[PRep],rfl⟩
end overx
end Go.Proofs.Ytjjhmldeammecaa
