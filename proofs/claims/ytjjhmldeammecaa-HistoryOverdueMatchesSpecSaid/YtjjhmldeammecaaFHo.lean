/- Plain functions (printed by a program of this repo out of the loaded Go functions). -/
import Derived.Test.YtjjhmldeammecaaFHw
import Derived.Test.YtjjhmldeammecaaFHd
import Derived.Test.YtjjhmldeammecaaM4
namespace Go.Abs
open Go
set_option maxRecDepth 8000
structure ZgT where
 Window:Zab
 Due:Int
 WorkDays:Int
def ZgT.c (x:ZgT):List PV:= [vs x.Window.Advisory.b,vs x.Window.Component.b,vi x.Window.Severity,vi x.Window.From,vi x.Window.To,vb x.Window.Open,vi x.Due,vi x.WorkDays]
theorem ZgT.w:Wide 8 ZgT.c:=⟨fun _=>rfl,fun _=>rfl,fun x=>by simp only[ZgT.c,nzPs,nzP]⟩
theorem ZgT.r (l:List ZgT):(∀r∈l.map ZgT.c,r.length=8∧r.all PV.single=true)=True:=ZgT.w.rows l
theorem ZgT.r1 (l:List ZgT):(∀r∈l.map ZgT.c,r.length=8)=True:=ZgT.w.rowl l
theorem ZgT.n (l:List ZgT):nzPss (l.map ZgT.c)=l.map ZgT.c:=ZgT.w.nzs l
attribute [go_sem] ZgT.c ZgT.r ZgT.r1 ZgT.n
def Zg3 (v0:ZaA) (v1 v2:Int):Option Int:=if 0≤v1∧v2≤1000001 then some (cw v0.fr v0.hol v1 (v2 - v1).toNat) else none
noncomputable def Zhb (fuel:Nat) (v0:ZaN) (v1:List Za6) (v2:Zam):Option ((List ZgT) × Int) :=
 Option.bind (Zg9 v0) fun y1=>if (y1 != 0)=true then (some (([]:List ZgT),y1)) else (Option.bind (Zhd v1) fun y3=>if (y3 != 0)=true then (some (([]:List ZgT),y3)) else (Option.bind (ZbS v2) fun y5=>if (y5 != 0)=true then (some (([]:List ZgT),y5)) else (Option.bind (Zhh v0) fun y7=>Option.bind (Zb4 fuel v2) fun y9=>seqK (forL (σ:=(List ZgT)) (τ:=(List ZgT)) y9 (fun _ x14 l35=>Option.bind (Zhs v1 x14.Severity) fun (y48,y49)=>if (!y49)=true then (some (.next l35)) else (Option.bind (Zg8 y7 x14.From y48.Days) fun (y51,y52)=>if (!y52)=true then (some (.ret (([]:List ZgT),3))) else (if (decide (x14.To>y51))=true then (Option.bind (Zg3 y7 y51 x14.To) fun y54=>Option.bind (app 80 l35 [(ZgT.mk x14 y51 y54)]) fun l56=>some (.next l56)) else (some (.next l35))))) (fun l35=>l35) ([]:List ZgT)) fun l46=>some (l46,0))))
noncomputable def ZaP (v0:Int) (v1:Int):Option Bool :=
 Option.bind (Zcm v0) fun y1=>Option.bind (gAnd y1 (Option.bind (Zcm v1) fun y3=>some (!y3))) fun b5=>some (b5 || (decide (v0<v1)))
noncomputable def Zhe (v0:Int):Option Bool :=
 some (v0 != v0)
noncomputable def ZgW (v0:List Int) (v1:Int):Option (Int × Bool) :=
 seqK (loopW (σ:=Int × Int) (τ:=Int) (fun (n8,n9)=>if (decide (n8<n9))=true then (Option.bind (idx v0 (w64 (((IntKind.u64.wrap) (w64 (n8+n9))).fdiv 2))) fun x22=>Option.bind (ZaP x22 v1) fun y24=>if y24=true then (some (.next (w64 ((w64 (((IntKind.u64.wrap) (w64 (n8+n9))).fdiv 2))+1),n9))) else (some (.next (n8,w64 (((IntKind.u64.wrap) (w64 (n8+n9))).fdiv 2))))) else (some (.brk n8))) (0,(v0.length:Int))) fun n17=>Option.bind (gAnd (decide (n17<(v0.length:Int))) (Option.bind (idx v0 n17) fun x26=>Option.bind (gOr (x26 == v1) (Option.bind (Zhe x26) fun y28=>Option.bind (gAnd y28 (Option.bind (Zhe v1) fun y30=>some y30)) fun b32=>some b32)) fun b34=>some b34)) fun b36=>some (n17,b36)
def ZgY (v0:ZaD) (v1:Int):Option Int:=if calFault v0.fr v0.hol=0∧0≤v1∧v1≤1000001 then some (wcount v0.fr v0.hol v1) else none
noncomputable def Zg6 (fuel:Nat) (v0:ZaN) (v1:List Za6) (v2:Zam):Option ((List ZgT) × Int) :=
 Option.bind (ZgZ v0) fun y1=>if (y1 != 0)=true then (some (([]:List ZgT),y1)) else (Option.bind (Zhf v1) fun y3=>if (y3 != 0)=true then (some (([]:List ZgT),y3)) else (Option.bind (ZbW v2) fun y5=>if (y5 != 0)=true then (some (([]:List ZgT),y5)) else (Option.bind (Zho v0) fun y7=>Option.bind (ZbJ fuel v2) fun y9=>seqK (forL (σ:=(List ZgT)) (τ:=(List ZgT)) y9 (fun _ x14 l35=>Option.bind (Zg7 y7 v1 x14) fun (y48,y49,y50)=>if (y50 != 0)=true then (some (.ret (([]:List ZgT),y50))) else (if (y49 && (decide (x14.To>y48)))=true then (Option.bind (ZgY y7 x14.To) fun y53=>Option.bind (ZgY y7 y48) fun y55=>Option.bind (app 80 l35 [(ZgT.mk x14 y48 (w64 (y53 - y55)))]) fun l57=>some (.next l57)) else (some (.next l35)))) (fun l35=>l35) ([]:List ZgT)) fun l46=>some (l46,0))))
noncomputable def Zg1 (v0:List ZgT) (v1:List ZgT):Option Bool :=
 if ((v0.length:Int) != (v1.length:Int))=true then (some false) else (seqK (forL (σ:=Unit) (τ:=Unit) v0 (fun i1 x4 _=>Option.bind (idx v1 (i1:Int)) fun x8=>if (!(sEq x4.Window.Advisory.b x8.Window.Advisory.b && (sEq x4.Window.Component.b x8.Window.Component.b && ((x4.Window.Severity == x8.Window.Severity) && ((x4.Window.From == x8.Window.From) && ((x4.Window.To == x8.Window.To) && ((x4.Window.Open == x8.Window.Open) && ((x4.Due == x8.Due) && (x4.WorkDays == x8.WorkDays)))))))))=true then (some (.ret false)) else (some (.next ()))) (fun _=>()) ()) fun _=>some true)
noncomputable def Zg2 (v0:List Int):Option (List Int):=app 8 [] v0
def ins8 (l:List Int) (i x:Int):Option (List Int):=if 0≤i∧i≤l.length∧(l.length+1)*8≤lim then some (insI l i.toNat x) else none
theorem ins8_some {l r:List Int} {i x:Int} (h:ins8 l i x=some r):0≤i∧i≤l.length∧(l.length+1)*8≤lim∧insI l i.toNat x=r:=by
 unfold ins8 at h
 split at h
 ·rename_i hc
  cases h
  exact⟨hc.1,hc.2.1,hc.2.2,rfl⟩
 ·cases h
noncomputable def ZgU (v0:ZgT) (v1:ZgT):Option Bool :=
 some ((sEq v0.Window.Advisory.b v1.Window.Advisory.b && (sEq v0.Window.Component.b v1.Window.Component.b && ((v0.Window.Severity == v1.Window.Severity) && ((v0.Window.From == v1.Window.From) && ((v0.Window.To == v1.Window.To) && (v0.Window.Open == v1.Window.Open)))))) && (decide (v0.Due≤v1.Due)))
noncomputable def Zg0 (v0:List ZgT) (g1:ZgT→Option Bool):Option Int :=
 seqK (forL (σ:=Unit) (τ:=Unit) v0 (fun i1 x4 _=>Option.bind (g1 x4) fun y8=>if y8=true then (some (.ret (i1:Int))) else (some (.next ()))) (fun _=>()) ()) fun _=>some (-1)
noncomputable def ZgV (v0:List ZgT) (g1:ZgT→Option Bool):Option Bool :=
 Option.bind (Zg0 v0 g1) fun y1=>some (decide (y1≥0))
noncomputable def ZgX (fuel:Nat) (v0:ZaN) (v1:List Za6) (v2:Zam) (v3:Int):Option Bool :=
 Option.bind (Zhb fuel v0 v1 v2) fun (y1,y2)=>Option.bind (Zg6 fuel v0 v1 v2) fun (y4,y5)=>Option.bind (Zg1 y4 y1) fun y7=>if ((!y7) || (y5 != y2))=true then (some false) else (Option.bind (ZgW v0.Holidays v3) fun (y10,y11)=>Option.bind (gOr ((y5 != 0) || y11) (Option.bind (ZgZ v0) fun y13=>some (y13 != 0))) fun b15=>if b15=true then (Option.bind (ZdH) fun y21=>some y21) else (Option.bind (Zg2 v0.Holidays) fun l23=>Option.bind (ins8 l23 y10 v3) fun l25=>Option.bind (Zg6 fuel (ZaN.mk v0.Free l25) v1 v2) fun (y27,y28)=>if (y28 != 0)=true then (Option.bind (Zhb fuel (ZaN.mk v0.Free l25) v1 v2) fun (y30,y31)=>Option.bind (gAnd (y28 == y31) (Option.bind (ZdH) fun y33=>some y33)) fun b35=>some b35) else (seqK (forL (σ:=Unit) (τ:=Unit) y27 (fun _ x43 _=>Option.bind (ZgV y4 (fun a0=>ZgU a0 x43)) fun y47=>if (!y47)=true then (some (.ret false)) else (some (.next ()))) (fun _=>()) ()) fun _=>Option.bind (ZdH) fun y49=>some y49)))
end Go.Abs
