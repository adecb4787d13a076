/- How the arguments of these laws are read (printed by a program of this repo). -/
import Derived.Test.YtiohnbmhmhljbaaGreatDoorFTa
import Derived.Test.YtiohnbmhmhljbaaGreatDoorPB
namespace Go.Proofs.YtiohnbmhmhljbaaGreatDoor
open Go Go.Abs Go.ChangeShapes Go.WideShapes Go.ChangeAt Go.RowKit
set_option maxRecDepth 100000
namespace Base
theorem shp_47 {n:Nat} {pv:List PV} (h:Shp Tryz.prog n 47 pv):∃x:Zad,pv=Zad.c x:=by
 obtain⟨m,h⟩:=ZeO Tryz.underlying47 h
 simp only[List.map_cons,List.map_nil,ShpAll] at h
 obtain⟨q0,r0,rfl,h0,q1,r1,rfl,h1,q2,r2,rfl,h2,rfl⟩:=h
 obtain⟨x0,s0,rfl⟩:=shp_str Tryz.underlying9 h0
 obtain⟨x1,s1,rfl⟩:=shp_str Tryz.underlying9 h1
 obtain⟨x2,_,rfl⟩:=shp_int Tryz.underlying3 h2
 exact⟨⟨⟨x0,strLim s0⟩,⟨x1,strLim s1⟩,x2⟩,rfl⟩
theorem shp_42 {n:Nat} {pv:List PV} (h:Shp Tryz.prog n 42 pv):∃x:Zag,pv=Zag.c x:=by
 obtain⟨m,h⟩:=ZeO Tryz.underlying42 h
 simp only[List.map_cons,List.map_nil,ShpAll] at h
 obtain⟨q0,r0,rfl,h0,q1,r1,rfl,h1,q2,r2,rfl,h2,rfl⟩:=h
 obtain⟨x0,s0,rfl⟩:=shp_str Tryz.underlying9 h0
 obtain⟨x1,_,rfl⟩:=shp_int Tryz.underlying3 h1
 obtain⟨x2,rfl,_,_⟩:=shp_slice (f:=Zad.c) (Q:=fun _=>True) Tryz.underlying40 (fun _ _ h=>let ⟨z,e⟩:=shp_47 h;⟨z,trivial,e⟩) h2
 exact⟨⟨⟨x0,strLim s0⟩,x1,x2⟩,rfl⟩
theorem shp_55 {n:Nat} {pv:List PV} (h:Shp Tryz.prog n 55 pv):∃x:Zac,pv=Zac.c x:=by
 obtain⟨m,h⟩:=ZeO Tryz.underlying55 h
 simp only[List.map_cons,List.map_nil,ShpAll] at h
 obtain⟨q0,r0,rfl,h0,q1,r1,rfl,h1,q2,r2,rfl,h2,rfl⟩:=h
 obtain⟨x0,s0,rfl⟩:=shp_str Tryz.underlying9 h0
 obtain⟨x1,_,rfl⟩:=shp_int Tryz.underlying3 h1
 obtain⟨x2,_,rfl⟩:=shp_int Tryz.underlying3 h2
 exact⟨⟨⟨x0,strLim s0⟩,x1,x2⟩,rfl⟩
theorem shp_25 {n:Nat} {pv:List PV} (h:Shp Tryz.prog n 25 pv):∃x:Zam,pv=Zam.c x:=by
 obtain⟨m,h⟩:=ZeO Tryz.underlying25 h
 simp only[List.map_cons,List.map_nil,ShpAll] at h
 obtain⟨q0,r0,rfl,h0,q1,r1,rfl,h1,q2,r2,rfl,h2,q3,r3,rfl,h3,rfl⟩:=h
 obtain⟨x0,s0,rfl⟩:=shp_str Tryz.underlying9 h0
 obtain⟨x1,rfl,_,_⟩:=shp_slice (f:=Zag.c) (Q:=fun _=>True) Tryz.underlying22 (fun _ _ h=>let ⟨z,e⟩:=shp_42 h;⟨z,trivial,e⟩) h1
 obtain⟨x2,rfl,_,_⟩:=shp_slice (f:=Zac.c) (Q:=fun _=>True) Tryz.underlying23 (fun _ _ h=>let ⟨z,e⟩:=shp_55 h;⟨z,trivial,e⟩) h2
 obtain⟨x3,_,rfl⟩:=shp_int Tryz.underlying3 h3
 exact⟨⟨⟨x0,strLim s0⟩,x1,x2,x3⟩,rfl⟩
theorem types_25:plainB Tryz.prog [25,3,9,22,23,40,42,47,55]=true:=by kernel_rfl
abbrev P_25 (x:Zam):PV:= .agg (Zam.c x)
theorem arg_25 {H:Type} {enc:TypeId × Value→H} {W:World} {base:Nat} {v:Value} {d:DataW H} {ps:List MemPlace} (hv:Value.okWide Tryz.prog W .any base 25 v) (h:DataW.Trod enc Tryz.prog W 0 (fun _=>true) true 25 v d ps):∃x:Zam,PRep (ofW W) (P_25 x) v:=by
 obtain⟨n,pv,h1,h2⟩:=arg_struct kids types_25 (by simp) Tryz.underlying25 hv h
 obtain⟨x,rfl⟩:=shp_25 h1
 exact⟨x,h2⟩
end Base
end Go.Proofs.YtiohnbmhmhljbaaGreatDoor
