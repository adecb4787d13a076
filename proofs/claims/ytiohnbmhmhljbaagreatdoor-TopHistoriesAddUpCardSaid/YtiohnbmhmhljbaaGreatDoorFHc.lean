/- Plain functions (printed by a program of this repo out of the loaded Go functions). -/
import Derived.Test.YtiohnbmhmhljbaaGreatDoorM3
namespace Go.Abs
open Go
set_option maxRecDepth 8000
def str_:Str:=Str.lit [] (by decide)
theorem str__b:str_.b=⟨#[]⟩:=rfl
attribute [go_sem] str__b
structure Zad where
 Advisory:Str
 Component:Str
 Severity:Int
def Zad.c (x:Zad):List PV:= [vs x.Advisory.b,vs x.Component.b,vi x.Severity]
theorem Zad.w:Wide 3 Zad.c:=⟨fun _=>rfl,fun _=>rfl,fun x=>by simp only[Zad.c,nzPs,nzP]⟩
theorem Zad.r (l:List Zad):(∀r∈l.map Zad.c,r.length=3∧r.all PV.single=true)=True:=Zad.w.rows l
theorem Zad.r1 (l:List Zad):(∀r∈l.map Zad.c,r.length=3)=True:=Zad.w.rowl l
theorem Zad.n (l:List Zad):nzPss (l.map Zad.c)=l.map Zad.c:=Zad.w.nzs l
attribute [go_sem] Zad.c Zad.r Zad.r1 Zad.n
structure Zag where
 Version:Str
 Day:Int
 Exposures:List Zad
def Zag.c (x:Zag):List PV:= [vs x.Version.b,vi x.Day,.sl (x.Exposures.map Zad.c)]
theorem Zag.w:Wide 3 Zag.c:=⟨fun _=>rfl,fun _=>rfl,fun x=>by simp only[Zag.c,nzPs,nzP,Zad.w.nzs]⟩
theorem Zag.r (l:List Zag):(∀r∈l.map Zag.c,r.length=3∧r.all PV.single=true)=True:=Zag.w.rows l
theorem Zag.r1 (l:List Zag):(∀r∈l.map Zag.c,r.length=3)=True:=Zag.w.rowl l
theorem Zag.n (l:List Zag):nzPss (l.map Zag.c)=l.map Zag.c:=Zag.w.nzs l
attribute [go_sem] Zag.c Zag.r Zag.r1 Zag.n
structure Zal where
 advisory:Str
 component:Str
def Zal.c (x:Zal):List PV:= [vs x.advisory.b,vs x.component.b]
theorem Zal.w:Wide 2 Zal.c:=⟨fun _=>rfl,fun _=>rfl,fun x=>by simp only[Zal.c,nzPs,nzP]⟩
theorem Zal.r (l:List Zal):(∀r∈l.map Zal.c,r.length=2∧r.all PV.single=true)=True:=Zal.w.rows l
theorem Zal.r1 (l:List Zal):(∀r∈l.map Zal.c,r.length=2)=True:=Zal.w.rowl l
theorem Zal.n (l:List Zal):nzPss (l.map Zal.c)=l.map Zal.c:=Zal.w.nzs l
attribute [go_sem] Zal.c Zal.r Zal.r1 Zal.n
noncomputable def Zcg (v0:Str):Option Bool :=
 seqK (loopW (σ:=Int) (τ:=Unit) (fun n4=>if (decide (n4<(v0.b.size:Int)))=true then (Option.bind (sidx v0.b n4) fun c9=>if ((decide (c9<33)) || (decide (c9>126)))=true then (some (.ret false)) else (some (.next (w64 (n4+1))))) else (some (.brk ()))) 0) fun _=>some ((decide ((v0.b.size:Int)≥1)) && (decide ((v0.b.size:Int)≤100)))
noncomputable def ZcN (v0:Int):Option Bool :=
 some ((decide (v0≥0)) && (decide (v0≤1000000)))
noncomputable def ZdS (v0:Zad) (v1:Zad):Option Bool :=
 some ((sLt v0.Advisory.b v1.Advisory.b) || ((sEq v0.Advisory.b v1.Advisory.b) && (sLt v0.Component.b v1.Component.b)))
noncomputable def ZbK (v0:List Zad):Option Int :=
 if (decide ((v0.length:Int)>500))=true then (some 3) else (seqK (forL (σ:=Unit) (τ:=Unit) v0 (fun i1 x4 _=>Option.bind (Zcg x4.Advisory) fun y18=>Option.bind (gOr (!y18) (Option.bind (Zcg x4.Component) fun y20=>some (!y20))) fun b22=>if b22=true then (some (.ret 8)) else (if ((decide (x4.Severity<0)) || (decide (x4.Severity>100)))=true then (some (.ret 9)) else (Option.bind (gAnd (decide ((i1:Int)>0)) (Option.bind (idx v0 (w64 ((i1:Int) - 1))) fun x28=>Option.bind (ZdS x28 x4) fun y30=>some (!y30))) fun b32=>if b32=true then (some (.ret 10)) else (some (.next ()))))) (fun _=>()) ()) fun _=>some 0)
noncomputable def ZdB (v0:Str):Option Bool :=
 seqK (forN (σ:=Unit) (τ:=Unit) (fun i1 _=>Option.bind (sidx v0.b (i1:Int)) fun c8=>if ((decide (c8<33)) || (decide (c8>126)))=true then (some (.ret false)) else (some (.next ()))) (fun _=>()) v0.b.size 0 ()) fun _=>some (!(sEq v0.b str_.b))
noncomputable def ZbX (v0:Str):Option Bool :=
 Option.bind (ZdB v0) fun y1=>some (y1 && (decide ((v0.b.size:Int)≤100)))
noncomputable def Zcl (v0:Int):Option Bool :=
 some ((decide (v0≥0)) && (decide (v0≤1000000)))
noncomputable def Zcf (v0:Zad):Option Zal :=
 some (Zal.mk v0.Advisory v0.Component)
noncomputable def ZcD (v0:Str):Option Bool :=
 some (!(sEq v0.b v0.b))
noncomputable def Zbm (v0:Str) (v1:Str):Option Int :=
 Option.bind (ZcD v0) fun y1=>Option.bind (ZcD v1) fun y3=>if y1=true then (if y3=true then (some 0) else (some (-1))) else (if y3=true then (some 1) else (if (sLt v0.b v1.b)=true then (some (-1)) else (if (!(sLt v0.b v1.b || sEq v0.b v1.b))=true then (some 1) else (some 0))))
noncomputable def Zdg (v0:List Int):Option Int :=
 seqK (forL (σ:=Unit) (τ:=Unit) v0 (fun _ x4 _=>if (x4 != 0)=true then (some (.ret x4)) else (some (.next ()))) (fun _=>()) ()) fun _=>some 0
noncomputable def Zcu (v0:Zal) (v1:Zal):Option Int :=
 Option.bind (Zbm v0.advisory v1.advisory) fun y1=>Option.bind (Zbm v0.component v1.component) fun y3=>Option.bind (Zdg [y1,y3]) fun y5=>some y5
noncomputable def ZbQ (v0:List Zad):Option Int :=
 if (decide ((v0.length:Int)>500))=true then (some 3) else (seqK (forL (σ:=Unit) (τ:=Unit) v0 (fun i1 x4 _=>Option.bind (ZbX x4.Advisory) fun y22=>Option.bind (gOr (!y22) (Option.bind (ZbX x4.Component) fun y24=>some (!y24))) fun b26=>if b26=true then (some (.ret 8)) else (if ((decide (x4.Severity<0)) || (decide (x4.Severity>100)))=true then (some (.ret 9)) else (Option.bind (gAnd (decide ((i1:Int)>0)) (Option.bind (idx v0 (w64 ((i1:Int) - 1))) fun x32=>Option.bind (Zcf x32) fun y34=>Option.bind (Zcf x4) fun y36=>Option.bind (Zcu y34 y36) fun y38=>some (decide (y38≥0)))) fun b40=>if b40=true then (some (.ret 10)) else (some (.next ()))))) (fun _=>()) ()) fun _=>some 0)
noncomputable def Zdn (v0:List Zad) (g1:Zad→Option Bool):Option Int :=
 seqK (forL (σ:=Unit) (τ:=Unit) v0 (fun i1 x4 _=>Option.bind (g1 x4) fun y8=>if y8=true then (some (.ret (i1:Int))) else (some (.next ()))) (fun _=>()) ()) fun _=>some (-1)
noncomputable def ZcY (v0:List Zad) (g1:Zad→Option Bool):Option Bool :=
 Option.bind (Zdn v0 g1) fun y1=>some (decide (y1≥0))
noncomputable def Zcx (v0:List Zad) (v1:List Zad):Option Bool :=
 if ((v0.length:Int) != (v1.length:Int))=true then (some false) else (seqK (forL (σ:=Unit) (τ:=Unit) v0 (fun i1 x4 _=>Option.bind (idx v1 (i1:Int)) fun x8=>if (!(sEq x4.Advisory.b x8.Advisory.b && (sEq x4.Component.b x8.Component.b && (x4.Severity == x8.Severity))))=true then (some (.ret false)) else (some (.next ()))) (fun _=>()) ()) fun _=>some true)
noncomputable def ZdH:Option Bool:=some true
end Go.Abs
