/- Plain functions (printed by a program of this repo out of the loaded Go functions). -/
import Derived.Test.YtjjhmldeammecaaFHc
import Derived.Test.YtjjhmldeammecaaM3
namespace Go.Abs
open Go
set_option maxRecDepth 8000
structure Za6 where
 Severity:Int
 Days:Int
def Za6.c (x:Za6):List PV:= [vi x.Severity,vi x.Days]
theorem Za6.w:Wide 2 Za6.c:=⟨fun _=>rfl,fun _=>rfl,fun x=>by simp only[Za6.c,nzPs,nzP]⟩
theorem Za6.r (l:List Za6):(∀r∈l.map Za6.c,r.length=2∧r.all PV.single=true)=True:=Za6.w.rows l
theorem Za6.r1 (l:List Za6):(∀r∈l.map Za6.c,r.length=2)=True:=Za6.w.rowl l
theorem Za6.n (l:List Za6):nzPss (l.map Za6.c)=l.map Za6.c:=Za6.w.nzs l
attribute [go_sem] Za6.c Za6.r Za6.r1 Za6.n
structure ZaN where
 Free:List Int
 Holidays:List Int
def ZaN.c (x:ZaN):List PV:= [.sl (x.Free.map cI),.sl (x.Holidays.map cI)]
theorem ZaN.w:Wide 2 ZaN.c:=⟨fun _=>rfl,fun _=>rfl,fun x=>by simp only[ZaN.c,nzPs,nzP,wI.nzs]⟩
theorem ZaN.r (l:List ZaN):(∀r∈l.map ZaN.c,r.length=2∧r.all PV.single=true)=True:=ZaN.w.rows l
theorem ZaN.r1 (l:List ZaN):(∀r∈l.map ZaN.c,r.length=2)=True:=ZaN.w.rowl l
theorem ZaN.n (l:List ZaN):nzPss (l.map ZaN.c)=l.map ZaN.c:=ZaN.w.nzs l
attribute [go_sem] ZaN.c ZaN.r ZaN.r1 ZaN.n
structure Zab where
 Advisory:Str
 Component:Str
 Severity:Int
 From:Int
 To:Int
 Open:Bool
def Zab.c (x:Zab):List PV:= [vs x.Advisory.b,vs x.Component.b,vi x.Severity,vi x.From,vi x.To,vb x.Open]
theorem Zab.w:Wide 6 Zab.c:=⟨fun _=>rfl,fun _=>rfl,fun x=>by simp only[Zab.c,nzPs,nzP]⟩
theorem Zab.r (l:List Zab):(∀r∈l.map Zab.c,r.length=6∧r.all PV.single=true)=True:=Zab.w.rows l
theorem Zab.r1 (l:List Zab):(∀r∈l.map Zab.c,r.length=6)=True:=Zab.w.rowl l
theorem Zab.n (l:List Zab):nzPss (l.map Zab.c)=l.map Zab.c:=Zab.w.nzs l
attribute [go_sem] Zab.c Zab.r Zab.r1 Zab.n
structure ZaA where
 fr:List Int
 hol:List Int
def ZaA.c (w:ZaA):List PV:=((List.range 7).map fun (i:Nat)=>decide ((i:Int)∈w.fr)).map vb++ [.mp (w.hol.map fun d=>(vi d,vb true))]
theorem ZaA.m:∀(l:List Int),nzPm (l.map fun d=>(vi d,vb true))=l.map fun d=>(vi d,vb true)
 | []=>rfl
 | x :: l=>by simp only[List.map_cons,nzPm,nzP,ZaA.m l]
theorem ZaA.w:Wide 8 ZaA.c:=⟨fun _=>by simp[ZaA.c],fun _=>by simp[ZaA.c,PV.single,flat],fun x=>by simp[ZaA.c,List.range,List.range.loop,nzPs,nzP,ZaA.m]⟩
theorem ZaA.l (w:ZaA):(ZaA.c w).length=8:=ZaA.w.len w
theorem ZaA.o (w:ZaA):(ZaA.c w).all PV.single=true:=ZaA.w.one w
theorem ZaA.t (w:ZaA):List.take 8 ((ZaA.c w).map AV.p)=(ZaA.c w).map AV.p:=List.take_of_length_le (by simp[ZaA.l])
theorem ZaA.z (w:ZaA):nzPs (ZaA.c w)=ZaA.c w:=ZaA.w.nz w
attribute [go_sem] ZaA.l ZaA.o ZaA.t ZaA.z
structure ZaD where
 fr:List Int
 hol:List Int
def ZaD.c (w:ZaD):List PV:=((List.range 7).map fun (i:Nat)=>decide ((i:Int)∈w.fr)).map vb++ [vi (7 - w.fr.length),.sl ((w.hol.filter (fun d=> !decide (d.tmod 7∈w.fr))).map cI)]
theorem ZaD.w:Wide 9 ZaD.c:=⟨fun _=>by simp[ZaD.c],fun _=>by simp[ZaD.c,PV.single,flat],fun x=>by simp[ZaD.c,List.range,List.range.loop,nzPs,nzP,nI]⟩
theorem ZaD.l (w:ZaD):(ZaD.c w).length=9:=ZaD.w.len w
theorem ZaD.o (w:ZaD):(ZaD.c w).all PV.single=true:=ZaD.w.one w
theorem ZaD.t (w:ZaD):List.take 9 ((ZaD.c w).map AV.p)=(ZaD.c w).map AV.p:=List.take_of_length_le (by simp[ZaD.l])
theorem ZaD.z (w:ZaD):nzPs (ZaD.c w)=ZaD.c w:=ZaD.w.nz w
attribute [go_sem] ZaD.l ZaD.o ZaD.t ZaD.z
def Zg9 (v0:ZaN):Option Int:=some (calFault v0.Free v0.Holidays)
noncomputable def Zhd (v0:List Za6):Option Int :=
 if ((v0.length:Int) == 0)=true then (some 13) else (if (decide ((v0.length:Int)>10))=true then (some 3) else (seqK (forL (σ:=Unit) (τ:=Unit) v0 (fun i1 x4 _=>if ((((decide (x4.Severity<0)) || (decide (x4.Severity>100))) || (decide (x4.Days<0))) || (decide (x4.Days>10000)))=true then (some (.ret 9)) else (Option.bind (gAnd (decide ((i1:Int)>0)) (Option.bind (idx v0 (w64 ((i1:Int) - 1))) fun x13=>some (decide (x4.Severity≤x13.Severity)))) fun b15=>if b15=true then (some (.ret 10)) else (some (.next ())))) (fun _=>()) ()) fun _=>some 0))
noncomputable def Zhs (v0:List Za6) (v1:Int):Option (Za6 × Bool) :=
 seqK (forL (σ:=Bool × Int × Int) (τ:=Bool × Int × Int) v0 (fun _ x4 (b5,n6,n7)=>if (decide (x4.Severity≤v1))=true then (some (.next (true,x4.Severity,x4.Days))) else (some (.next (b5,n6,n7)))) (fun (b5,n6,n7)=>(b5,n6,n7)) (false,0,0)) fun (b8,n9,n10)=>some ((Za6.mk n9 n10),b8)
def Zhh (v0:ZaN):Option ZaA:=if calFault v0.Free v0.Holidays=0 then some (ZaA.mk v0.Free v0.Holidays) else none
def Zg8 (v0:ZaA) (v1 v2:Int):Option (Int × Bool):=if 0≤v1∧v1≤1000000∧0≤v2∧v2≤1000000 then some (v1+addK v0.fr v0.hol v1 v2,decide (v2≤(cw v0.fr v0.hol v1 (addK v0.fr v0.hol v1 v2):Int)∧v1+addK v0.fr v0.hol v1 v2≤1000000)) else none
def ZgZ (v0:ZaN):Option Int:=some (calFault v0.Free v0.Holidays)
noncomputable def Zhf (v0:List Za6):Option Int :=
 if ((v0.length:Int) == 0)=true then (some 13) else (if (decide ((v0.length:Int)>10))=true then (some 3) else (seqK (forL (σ:=Unit) (τ:=Unit) v0 (fun i1 x4 _=>if ((((decide (x4.Severity<0)) || (decide (x4.Severity>100))) || (decide (x4.Days<0))) || (decide (x4.Days>10000)))=true then (some (.ret 9)) else (Option.bind (gAnd (decide ((i1:Int)>0)) (Option.bind (idx v0 (w64 ((i1:Int) - 1))) fun x13=>some (decide (x4.Severity≤x13.Severity)))) fun b15=>if b15=true then (some (.ret 10)) else (some (.next ())))) (fun _=>()) ()) fun _=>some 0))
def Zho (v0:ZaN):Option ZaD:=if calFault v0.Free v0.Holidays=0 then some (ZaD.mk v0.Free v0.Holidays) else none
def Zhc (v0:ZaD) (v1 v2:Int):Option (Int × Bool):=if calFault v0.fr v0.hol=0∧0≤v1∧v1≤1000000∧0≤v2∧v2≤1000000 then some (v1+addK v0.fr v0.hol v1 v2,decide (v1+addK v0.fr v0.hol v1 v2≤1000000)) else none
noncomputable def Zg7 (v0:ZaD) (v1:List Za6) (v2:Zab):Option (Int × Bool × Int) :=
 seqK (forL (σ:=Int) (τ:=Int) v1 (fun _ x4 n5=>if (decide (x4.Severity≤v2.Severity))=true then (some (.next x4.Days)) else (some (.next n5))) (fun n5=>n5) (-1)) fun n6=>if (decide (n6<0))=true then (some (0,false,0)) else (Option.bind (Zhc v0 v2.From n6) fun (y8,y9)=>if (!y9)=true then (some (0,false,3)) else (some (y8,true,0)))
end Go.Abs
