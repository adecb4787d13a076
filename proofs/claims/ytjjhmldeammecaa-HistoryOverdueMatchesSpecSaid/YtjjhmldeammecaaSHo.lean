/- How the arguments of these laws are read (printed by a program of this repo). -/
import Derived.Test.YtjjhmldeammecaaFHo
import Derived.Test.YtjjhmldeammecaaPB
namespace Go.Proofs.Ytjjhmldeammecaa
open Go Go.Abs Go.ChangeShapes Go.WideShapes Go.ChangeAt Go.RowKit
set_option maxRecDepth 100000
namespace Base
theorem shp_24 {n:Nat} {pv:List PV} (h:Shp Try.prog n 24 pv):∃x:ZaN,pv=ZaN.c x:=by
 obtain⟨m,h⟩:=ZeO Try.underlying24 h
 simp only[List.map_cons,List.map_nil,ShpAll] at h
 obtain⟨q0,r0,rfl,h0,q1,r1,rfl,h1,rfl⟩:=h
 obtain⟨x0,rfl,_,_⟩:=ZfY (f:=cI) (Q:=fun _=>True) Try.underlying22 (fun _ _ h=>let ⟨z,_,e⟩:=Zgj Try.underlying3 h;⟨z,trivial,e⟩) h0
 obtain⟨x1,rfl,_,_⟩:=ZfY (f:=cI) (Q:=fun _=>True) Try.underlying22 (fun _ _ h=>let ⟨z,_,e⟩:=Zgj Try.underlying3 h;⟨z,trivial,e⟩) h1
 exact⟨⟨x0,x1⟩,rfl⟩
theorem types_24:plainB Try.prog [24,3,22]=true:=by kernel_rfl
abbrev P_24 (x:ZaN):PV:= .agg (ZaN.c x)
theorem arg_24 {H:Type} {enc:TypeId × Value→H} {W:World} {base:Nat} {v:Value} {d:DataW H} {ps:List MemPlace} (hv:Value.okWide Try.prog W .any base 24 v) (h:DataW.Trod enc Try.prog W 0 (fun _=>true) true 24 v d ps):∃x:ZaN,PRep (ofW W) (P_24 x) v:=by
 obtain⟨n,pv,h1,h2⟩:=ZhT kids types_24 (by simp) Try.underlying24 hv h
 obtain⟨x,rfl⟩:=shp_24 h1
 exact⟨x,h2⟩
theorem shp_112 {n:Nat} {pv:List PV} (h:Shp Try.prog n 112 pv):∃x:Za6,pv=Za6.c x:=by
 obtain⟨m,h⟩:=ZeO Try.underlying112 h
 simp only[List.map_cons,List.map_nil,ShpAll] at h
 obtain⟨q0,r0,rfl,h0,q1,r1,rfl,h1,rfl⟩:=h
 obtain⟨x0,_,rfl⟩:=Zgj Try.underlying3 h0
 obtain⟨x1,_,rfl⟩:=Zgj Try.underlying3 h1
 exact⟨⟨x0,x1⟩,rfl⟩
theorem types_33:plainB Try.prog [33,3,112]=true:=by kernel_rfl
abbrev P_33 (x:List Za6):PV:= .sl (x.map Za6.c)
theorem arg_33 {H:Type} {enc:TypeId × Value→H} {W:World} {base:Nat} {v:Value} {d:DataW H} {ps:List MemPlace} (hv:Value.okWide Try.prog W .any base 33 v) (h:DataW.Trod enc Try.prog W 0 (fun _=>true) true 33 v d ps):∃x:List Za6,PRep (ofW W) (P_33 x) v:=by
 obtain⟨n,y,h1,h2⟩:=arg_slice kids types_33 (by simp) Try.underlying33 hv h
 obtain⟨x,e,_,_⟩:=ZfY (f:=Za6.c) (Q:=fun _=>True) Try.underlying33 (fun _ _ h=>let ⟨z,e⟩:=shp_112 h;⟨z,trivial,e⟩) h1
 cases e
 exact⟨x,h2⟩
theorem shp_47 {n:Nat} {pv:List PV} (h:Shp Try.prog n 47 pv):∃x:Zad,pv=Zad.c x:=by
 obtain⟨m,h⟩:=ZeO Try.underlying47 h
 simp only[List.map_cons,List.map_nil,ShpAll] at h
 obtain⟨q0,r0,rfl,h0,q1,r1,rfl,h1,q2,r2,rfl,h2,rfl⟩:=h
 obtain⟨x0,s0,rfl⟩:=shp_str Try.underlying9 h0
 obtain⟨x1,s1,rfl⟩:=shp_str Try.underlying9 h1
 obtain⟨x2,_,rfl⟩:=Zgj Try.underlying3 h2
 exact⟨⟨⟨x0,strLim s0⟩,⟨x1,strLim s1⟩,x2⟩,rfl⟩
theorem shp_42 {n:Nat} {pv:List PV} (h:Shp Try.prog n 42 pv):∃x:Zag,pv=Zag.c x:=by
 obtain⟨m,h⟩:=ZeO Try.underlying42 h
 simp only[List.map_cons,List.map_nil,ShpAll] at h
 obtain⟨q0,r0,rfl,h0,q1,r1,rfl,h1,q2,r2,rfl,h2,rfl⟩:=h
 obtain⟨x0,s0,rfl⟩:=shp_str Try.underlying9 h0
 obtain⟨x1,_,rfl⟩:=Zgj Try.underlying3 h1
 obtain⟨x2,rfl,_,_⟩:=ZfY (f:=Zad.c) (Q:=fun _=>True) Try.underlying40 (fun _ _ h=>let ⟨z,e⟩:=shp_47 h;⟨z,trivial,e⟩) h2
 exact⟨⟨⟨x0,strLim s0⟩,x1,x2⟩,rfl⟩
theorem shp_139 {n:Nat} {pv:List PV} (h:Shp Try.prog n 139 pv):∃x:Zac,pv=Zac.c x:=by
 obtain⟨m,h⟩:=ZeO Try.underlying139 h
 simp only[List.map_cons,List.map_nil,ShpAll] at h
 obtain⟨q0,r0,rfl,h0,q1,r1,rfl,h1,q2,r2,rfl,h2,rfl⟩:=h
 obtain⟨x0,s0,rfl⟩:=shp_str Try.underlying9 h0
 obtain⟨x1,_,rfl⟩:=Zgj Try.underlying3 h1
 obtain⟨x2,_,rfl⟩:=Zgj Try.underlying3 h2
 exact⟨⟨⟨x0,strLim s0⟩,x1,x2⟩,rfl⟩
theorem shp_52 {n:Nat} {pv:List PV} (h:Shp Try.prog n 52 pv):∃x:Zam,pv=Zam.c x:=by
 obtain⟨m,h⟩:=ZeO Try.underlying52 h
 simp only[List.map_cons,List.map_nil,ShpAll] at h
 obtain⟨q0,r0,rfl,h0,q1,r1,rfl,h1,q2,r2,rfl,h2,q3,r3,rfl,h3,rfl⟩:=h
 obtain⟨x0,s0,rfl⟩:=shp_str Try.underlying9 h0
 obtain⟨x1,rfl,_,_⟩:=ZfY (f:=Zag.c) (Q:=fun _=>True) Try.underlying49 (fun _ _ h=>let ⟨z,e⟩:=shp_42 h;⟨z,trivial,e⟩) h1
 obtain⟨x2,rfl,_,_⟩:=ZfY (f:=Zac.c) (Q:=fun _=>True) Try.underlying50 (fun _ _ h=>let ⟨z,e⟩:=shp_139 h;⟨z,trivial,e⟩) h2
 obtain⟨x3,_,rfl⟩:=Zgj Try.underlying3 h3
 exact⟨⟨⟨x0,strLim s0⟩,x1,x2,x3⟩,rfl⟩
theorem types_52:plainB Try.prog [52,3,9,40,42,47,49,50,139]=true:=by kernel_rfl
abbrev P_52 (x:Zam):PV:= .agg (Zam.c x)
theorem arg_52 {H:Type} {enc:TypeId × Value→H} {W:World} {base:Nat} {v:Value} {d:DataW H} {ps:List MemPlace} (hv:Value.okWide Try.prog W .any base 52 v) (h:DataW.Trod enc Try.prog W 0 (fun _=>true) true 52 v d ps):∃x:Zam,PRep (ofW W) (P_52 x) v:=by
 obtain⟨n,pv,h1,h2⟩:=ZhT kids types_52 (by simp) Try.underlying52 hv h
 obtain⟨x,rfl⟩:=shp_52 h1
 exact⟨x,h2⟩
end Base
end Go.Proofs.Ytjjhmldeammecaa
