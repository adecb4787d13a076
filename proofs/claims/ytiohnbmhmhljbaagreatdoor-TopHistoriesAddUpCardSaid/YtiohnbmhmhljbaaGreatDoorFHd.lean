/- Plain functions (printed by a program of this repo out of the loaded Go functions). -/
import Derived.Test.YtiohnbmhmhljbaaGreatDoorFHc
import Derived.Test.YtiohnbmhmhljbaaGreatDoorM3
namespace Go.Abs
open Go
set_option maxRecDepth 8000
structure Za6 where
 Severity:Int
 Days:Int
def Za6.c (x:Za6):List PV:= [vi x.Severity,vi x.Days]
theorem Za6.w:Wide 2 Za6.c:=⟨fun _=>rfl,fun _=>rfl,fun x=>by simp only[Za6.c,nzPs,nzP]⟩
theorem Za6.r (l:List Za6):(∀r∈l.map Za6.c,r.length=2∧r.all PV.single=true)=True:=Za6.w.rows l
theorem Za6.r1 (l:List Za6):(∀r∈l.map Za6.c,r.length=2)=True:=Za6.w.rowl l
theorem Za6.n (l:List Za6):nzPss (l.map Za6.c)=l.map Za6.c:=Za6.w.nzs l
attribute [go_sem] Za6.c Za6.r Za6.r1 Za6.n
structure ZaN where
 Free:List Int
 Holidays:List Int
def ZaN.c (x:ZaN):List PV:= [.sl (x.Free.map cI),.sl (x.Holidays.map cI)]
theorem ZaN.w:Wide 2 ZaN.c:=⟨fun _=>rfl,fun _=>rfl,fun x=>by simp only[ZaN.c,nzPs,nzP,wI.nzs]⟩
theorem ZaN.r (l:List ZaN):(∀r∈l.map ZaN.c,r.length=2∧r.all PV.single=true)=True:=ZaN.w.rows l
theorem ZaN.r1 (l:List ZaN):(∀r∈l.map ZaN.c,r.length=2)=True:=ZaN.w.rowl l
theorem ZaN.n (l:List ZaN):nzPss (l.map ZaN.c)=l.map ZaN.c:=ZaN.w.nzs l
attribute [go_sem] ZaN.c ZaN.r ZaN.r1 ZaN.n
structure Zab where
 Advisory:Str
 Component:Str
 Severity:Int
 From:Int
 To:Int
 Open:Bool
def Zab.c (x:Zab):List PV:= [vs x.Advisory.b,vs x.Component.b,vi x.Severity,vi x.From,vi x.To,vb x.Open]
theorem Zab.w:Wide 6 Zab.c:=⟨fun _=>rfl,fun _=>rfl,fun x=>by simp only[Zab.c,nzPs,nzP]⟩
theorem Zab.r (l:List Zab):(∀r∈l.map Zab.c,r.length=6∧r.all PV.single=true)=True:=Zab.w.rows l
theorem Zab.r1 (l:List Zab):(∀r∈l.map Zab.c,r.length=6)=True:=Zab.w.rowl l
theorem Zab.n (l:List Zab):nzPss (l.map Zab.c)=l.map Zab.c:=Zab.w.nzs l
attribute [go_sem] Zab.c Zab.r Zab.r1 Zab.n
structure ZaA where
 fr:List Int
 hol:List Int
def ZaA.c (w:ZaA):List PV:=((List.range 7).map fun (i:Nat)=>decide ((i:Int)∈w.fr)).map vb++ [.mp (w.hol.map fun d=>(vi d,vb true))]
theorem ZaA.m:∀(l:List Int),nzPm (l.map fun d=>(vi d,vb true))=l.map fun d=>(vi d,vb true)
 | []=>rfl
 | x :: l=>by simp only[List.map_cons,nzPm,nzP,ZaA.m l]
theorem ZaA.w:Wide 8 ZaA.c:=⟨fun _=>by simp[ZaA.c],fun _=>by simp[ZaA.c,PV.single,flat],fun x=>by simp[ZaA.c,List.range,List.range.loop,nzPs,nzP,ZaA.m]⟩
theorem ZaA.l (w:ZaA):(ZaA.c w).length=8:=ZaA.w.len w
theorem ZaA.o (w:ZaA):(ZaA.c w).all PV.single=true:=ZaA.w.one w
theorem ZaA.t (w:ZaA):List.take 8 ((ZaA.c w).map AV.p)=(ZaA.c w).map AV.p:=List.take_of_length_le (by simp[ZaA.l])
theorem ZaA.z (w:ZaA):nzPs (ZaA.c w)=ZaA.c w:=ZaA.w.nz w
attribute [go_sem] ZaA.l ZaA.o ZaA.t ZaA.z
structure ZaD where
 fr:List Int
 hol:List Int
def ZaD.c (w:ZaD):List PV:=((List.range 7).map fun (i:Nat)=>decide ((i:Int)∈w.fr)).map vb++ [vi (7 - w.fr.length),.sl ((w.hol.filter (fun d=> !decide (d.tmod 7∈w.fr))).map cI)]
theorem ZaD.w:Wide 9 ZaD.c:=⟨fun _=>by simp[ZaD.c],fun _=>by simp[ZaD.c,PV.single,flat],fun x=>by simp[ZaD.c,List.range,List.range.loop,nzPs,nzP,nI]⟩
theorem ZaD.l (w:ZaD):(ZaD.c w).length=9:=ZaD.w.len w
theorem ZaD.o (w:ZaD):(ZaD.c w).all PV.single=true:=ZaD.w.one w
theorem ZaD.t (w:ZaD):List.take 9 ((ZaD.c w).map AV.p)=(ZaD.c w).map AV.p:=List.take_of_length_le (by simp[ZaD.l])
theorem ZaD.z (w:ZaD):nzPs (ZaD.c w)=ZaD.c w:=ZaD.w.nz w
attribute [go_sem] ZaD.l ZaD.o ZaD.t ZaD.z
end Go.Abs
