/- Plain functions (printed by a program of this repo out of the loaded Go functions). -/
import Derived.Test.YtiohnbmhmhljbaaGreatDoorFHc
namespace Go.Abs
open Go
set_option maxRecDepth 8000
structure Zac where
 Advisory:Str
 Day:Int
 Ended:Int
def Zac.c (x:Zac):List PV:= [vs x.Advisory.b,vi x.Day,vi x.Ended]
theorem Zac.w:Wide 3 Zac.c:=⟨fun _=>rfl,fun _=>rfl,fun x=>by simp only[Zac.c,nzPs,nzP]⟩
theorem Zac.r (l:List Zac):(∀r∈l.map Zac.c,r.length=3∧r.all PV.single=true)=True:=Zac.w.rows l
theorem Zac.r1 (l:List Zac):(∀r∈l.map Zac.c,r.length=3)=True:=Zac.w.rowl l
theorem Zac.n (l:List Zac):nzPss (l.map Zac.c)=l.map Zac.c:=Zac.w.nzs l
attribute [go_sem] Zac.c Zac.r Zac.r1 Zac.n
structure Zam where
 Product:Str
 Releases:List Zag
 Known:List Zac
 Until:Int
def Zam.c (x:Zam):List PV:= [vs x.Product.b,.sl (x.Releases.map Zag.c),.sl (x.Known.map Zac.c),vi x.Until]
theorem Zam.w:Wide 4 Zam.c:=⟨fun _=>rfl,fun _=>rfl,fun x=>by simp only[Zam.c,nzPs,nzP,Zac.w.nzs,Zag.w.nzs]⟩
theorem Zam.r (l:List Zam):(∀r∈l.map Zam.c,r.length=4∧r.all PV.single=true)=True:=Zam.w.rows l
theorem Zam.r1 (l:List Zam):(∀r∈l.map Zam.c,r.length=4)=True:=Zam.w.rowl l
theorem Zam.n (l:List Zam):nzPss (l.map Zam.c)=l.map Zam.c:=Zam.w.nzs l
attribute [go_sem] Zam.c Zam.r Zam.r1 Zam.n
structure Zau where
 s:Zam
 known:List (Str × Zac)
def Zau.c (x:Zau):List PV:= [vs x.s.Product.b,.sl (x.s.Releases.map Zag.c),.sl (x.s.Known.map Zac.c),vi x.s.Until,.mp (x.known.map (cM kS (pA Zac.c)))]
theorem Zau.w:Wide 5 Zau.c:=⟨fun _=>rfl,fun _=>rfl,fun x=>by simp only[Zau.c,nzPs,nzP,Zac.w.nzs,Zag.w.nzs,nzM nkS (npA Zac.w)]⟩
theorem Zau.r (l:List Zau):(∀r∈l.map Zau.c,r.length=5∧r.all PV.single=true)=True:=Zau.w.rows l
theorem Zau.r1 (l:List Zau):(∀r∈l.map Zau.c,r.length=5)=True:=Zau.w.rowl l
theorem Zau.n (l:List Zau):nzPss (l.map Zau.c)=l.map Zau.c:=Zau.w.nzs l
attribute [go_sem] Zau.c Zau.r Zau.r1 Zau.n
structure Zaa where
 x:Zad
 from':Int
 to':Int
def Zaa.c (x:Zaa):List PV:= [vs x.x.Advisory.b,vs x.x.Component.b,vi x.x.Severity,vi x.from',vi x.to']
theorem Zaa.w:Wide 5 Zaa.c:=⟨fun _=>rfl,fun _=>rfl,fun x=>by simp only[Zaa.c,nzPs,nzP]⟩
theorem Zaa.r (l:List Zaa):(∀r∈l.map Zaa.c,r.length=5∧r.all PV.single=true)=True:=Zaa.w.rows l
theorem Zaa.r1 (l:List Zaa):(∀r∈l.map Zaa.c,r.length=5)=True:=Zaa.w.rowl l
theorem Zaa.n (l:List Zaa):nzPss (l.map Zaa.c)=l.map Zaa.c:=Zaa.w.nzs l
attribute [go_sem] Zaa.c Zaa.r Zaa.r1 Zaa.n
theorem ZdU (k:Str) (a0:Str) (a1:Int) (a2:Int) (m:List (Str × Zac)):mput (.one .str) (.c (.string k.b)) (.agg [vs a0.b,vi a1,vi a2]) (m.map (cM kS (pA Zac.c)))=some ((mset kEqS k (Zac.mk a0 a1 a2) m).map (cM kS (pA Zac.c))):=putS (g:=(pA Zac.c)) k (Zac.mk a0 a1 a2) m
theorem ZdL (o:Option Zac):(o.map (pA Zac.c)).getD (.agg [.c (.string ⟨#[]⟩),vi 0,vi 0])= .agg (Zac.c (o.getD (Zac.mk str_ 0 0))):=getD_map (pA Zac.c) o (Zac.mk str_ 0 0)
theorem Zd4 (m:List (Str × Zac)):nzPm (m.map (cM kS (pA Zac.c)))=m.map (cM kS (pA Zac.c)):=nzM nkS (npA Zac.w) m
attribute [go_sem] ZdU ZdL Zd4
noncomputable def ZcB (v0:List Zac):Option Int :=
 seqK (forL (σ:=Unit) (τ:=Unit) v0 (fun i1 x4 _=>Option.bind (Zcg x4.Advisory) fun y14=>if (!y14)=true then (some (.ret 8)) else (Option.bind (gAnd (decide ((i1:Int)>0)) (Option.bind (idx v0 (w64 ((i1:Int) - 1))) fun x16=>some (sLt x4.Advisory.b x16.Advisory.b || sEq x4.Advisory.b x16.Advisory.b))) fun b18=>if b18=true then (some (.ret 10)) else (Option.bind (ZcN x4.Day) fun y23=>if ((!y23) || ((x4.Ended != (-1)) && ((decide (x4.Ended<x4.Day)) || (decide (x4.Ended>1000000)))))=true then (some (.ret 9)) else (some (.next ()))))) (fun _=>()) ()) fun _=>some 0
noncomputable def ZbS (v0:Zam):Option Int :=
 Option.bind (Zcg v0.Product) fun y1=>if (!y1)=true then (some 8) else (Option.bind (ZcN v0.Until) fun y3=>if (!y3)=true then (some 9) else (if ((decide ((v0.Releases.length:Int)>500)) || (decide ((v0.Known.length:Int)>2000)))=true then (some 3) else (seqK (forL (σ:=(List (Str × Bool))) (τ:=Unit) v0.Releases (fun i6 x9 m18=>Option.bind (Zcg x9.Version) fun y28=>if (!y28)=true then (some (.ret 8)) else (if ((mget kEqS x9.Version m18).getD false)=true then (some (.ret 5)) else (if ((decide (x9.Day<0)) || (decide (x9.Day>v0.Until)))=true then (some (.ret 9)) else (Option.bind (gAnd (decide ((i6:Int)>0)) (Option.bind (idx v0.Releases (w64 ((i6:Int) - 1))) fun x31=>some (decide (x9.Day≤x31.Day)))) fun b33=>if b33=true then (some (.ret 10)) else (Option.bind (ZbK x9.Exposures) fun y38=>if (y38 != 0)=true then (some (.ret y38)) else (some (.next (mset kEqS x9.Version true m18)))))))) (fun m18=>()) []) fun _=>Option.bind (ZcB v0.Known) fun y40=>if (y40 != 0)=true then (some y40) else (seqK (forL (σ:=(List (Str × Bool))) (τ:=(List (Str × Bool))) v0.Known (fun _ x45 m46=>some (.next (mset kEqS x45.Advisory true m46))) (fun m46=>m46) []) fun m47=>seqK (forL (σ:=Unit) (τ:=Unit) v0.Releases (fun _ x52 _=>seqK (forL (σ:=Unit) (τ:=Unit) x52.Exposures (fun _ x62 _=>if (!((mget kEqS x62.Advisory m47).getD false))=true then (some (.ret (.ret 4))) else (some (.next ()))) (fun _=>()) ()) fun _=>some (.next ())) (fun _=>()) ()) fun _=>some 0))))
noncomputable def ref11_used (v0:Zam) (v1:Int):Option (Zag × Bool) :=
 seqK (forL (σ:=Bool × Str × Int × (List Zad)) (τ:=Bool × Str × Int × (List Zad)) v0.Releases (fun _ x4 (b5,s6,n7,l8)=>if (decide (x4.Day≤v1))=true then (some (.next (true,x4.Version,x4.Day,x4.Exposures))) else (some (.next (b5,s6,n7,l8)))) (fun (b5,s6,n7,l8)=>(b5,s6,n7,l8)) (false,str_,0,([]:List Zad))) fun (b9,s10,n11,l12)=>if ((!b9) || (decide (v1≥v0.Until)))=true then (some ((Zag.mk str_ 0 ([]:List Zad)),false)) else (some ((Zag.mk s10 n11 l12),true))
noncomputable def ref11_Used (v0:Zam) (v1:Int):Option (Zag × Bool × Int) :=
 Option.bind (ZbS v0) fun y1=>if (y1 != 0)=true then (some ((Zag.mk str_ 0 ([]:List Zad)),false,y1)) else (Option.bind (ZcN v1) fun y3=>if (!y3)=true then (some ((Zag.mk str_ 0 ([]:List Zad)),false,9)) else (Option.bind (ref11_used v0 v1) fun (y5,y6)=>some (y5,y6,0)))
noncomputable def ZbY (v0:Zam):Option Int :=
 seqK (forL (σ:=(List (Str × Bool))) (τ:=Unit) v0.Releases (fun i1 x4 m13=>Option.bind (ZbX x4.Version) fun y23=>if (!y23)=true then (some (.ret 8)) else (if ((mget kEqS x4.Version m13).getD false)=true then (some (.ret 5)) else (if ((decide (x4.Day<0)) || (decide (x4.Day>v0.Until)))=true then (some (.ret 9)) else (Option.bind (gAnd (decide ((i1:Int)>0)) (Option.bind (idx v0.Releases (w64 ((i1:Int) - 1))) fun x26=>some (decide (x4.Day≤x26.Day)))) fun b28=>if b28=true then (some (.ret 10)) else (Option.bind (ZbQ x4.Exposures) fun y33=>if (y33 != 0)=true then (some (.ret y33)) else (some (.next (mset kEqS x4.Version true m13)))))))) (fun m13=>()) []) fun _=>some 0
noncomputable def ZbW (v0:Zam):Option Int :=
 Option.bind (ZbX v0.Product) fun y1=>if (!y1)=true then (some 8) else (Option.bind (Zcl v0.Until) fun y3=>if (!y3)=true then (some 9) else (if ((decide ((v0.Releases.length:Int)>500)) || (decide ((v0.Known.length:Int)>2000)))=true then (some 3) else (Option.bind (ZbY v0) fun y6=>if (y6 != 0)=true then (some y6) else (seqK (forL (σ:=(List (Str × Bool))) (τ:=(List (Str × Bool))) v0.Known (fun i8 x11 m20=>Option.bind (ZbX x11.Advisory) fun y31=>if (!y31)=true then (some (.ret 8)) else (Option.bind (gAnd (decide ((i8:Int)>0)) (Option.bind (idx v0.Known (w64 ((i8:Int) - 1))) fun x33=>some (sLt x11.Advisory.b x33.Advisory.b || sEq x11.Advisory.b x33.Advisory.b))) fun b35=>if b35=true then (some (.ret 10)) else (Option.bind (Zcl x11.Day) fun y40=>if ((!y40) || ((x11.Ended != (-1)) && ((decide (x11.Ended<x11.Day)) || (decide (x11.Ended>1000000)))))=true then (some (.ret 9)) else (some (.next (mset kEqS x11.Advisory true m20)))))) (fun m20=>m20) []) fun m29=>seqK (forL (σ:=Unit) (τ:=Unit) v0.Releases (fun _ x48 _=>seqK (forL (σ:=Unit) (τ:=Unit) x48.Exposures (fun _ x58 _=>if (!((mget kEqS x58.Advisory m29).getD false))=true then (some (.ret (.ret 4))) else (some (.next ()))) (fun _=>()) ()) fun _=>some (.next ())) (fun _=>()) ()) fun _=>some 0))))
noncomputable def Zhk (v0:Zam) (v1:Int):Option Int :=
 if (decide (v1≥v0.Until))=true then (some (-1)) else (seqK (forL (σ:=Int) (τ:=Int) v0.Releases (fun i1 x4 n5=>if (decide (x4.Day≤v1))=true then (some (.next (i1:Int))) else (some (.next n5))) (fun n5=>n5) (-1)) fun n6=>some n6)
noncomputable def ZdV (v0:List Zad):Option (List Zad):=app 40 [] v0
noncomputable def Zg1 (v0:Zag):Option Zag :=
 Option.bind (ZdV v0.Exposures) fun y1=>some (Zag.mk v0.Version v0.Day y1)
noncomputable def Zg4 (v0:Zam) (v1:Int):Option (Zag × Bool × Int) :=
 Option.bind (ZbW v0) fun y1=>if (y1 != 0)=true then (some ((Zag.mk str_ 0 ([]:List Zad)),false,y1)) else (Option.bind (Zcl v1) fun y3=>if (!y3)=true then (some ((Zag.mk str_ 0 ([]:List Zad)),false,9)) else (Option.bind (Zhk v0 v1) fun y5=>if (decide (y5<0))=true then (some ((Zag.mk str_ 0 ([]:List Zad)),false,0)) else (Option.bind (idx v0.Releases y5) fun x7=>Option.bind (Zg1 x7) fun y9=>some (y9,true,0))))
noncomputable def Zcj (v0:Zam):Option Zau :=
 seqK (forL (σ:=(List (Str × Zac))) (τ:=(List (Str × Zac))) v0.Known (fun _ x4 m5=>some (.next (mset kEqS x4.Advisory x4 m5))) (fun m5=>m5) []) fun m6=>some (Zau.mk v0 m6)
noncomputable def ZcQ (v0:Zau) (v1:Zad) (v2:Int):Option Bool :=
 some ((decide (((mget kEqS v1.Advisory v0.known).getD (Zac.mk str_ 0 0)).Day≤v2)) && ((((mget kEqS v1.Advisory v0.known).getD (Zac.mk str_ 0 0)).Ended == (-1)) || (decide (((mget kEqS v1.Advisory v0.known).getD (Zac.mk str_ 0 0)).Ended>v2))))
noncomputable def ref11_view_open (v0:Zau) (v1:Int):Option (List Zad) :=
 Option.bind (ref11_used v0.s v1) fun (y1,y2)=>seqK (forL (σ:=(List Zad)) (τ:=(List Zad)) y1.Exposures (fun _ x7 l16=>Option.bind (ZcQ v0 x7 v1) fun y23=>if y23=true then (Option.bind (app 40 l16 [x7]) fun l25=>some (.next l25)) else (some (.next l16))) (fun l16=>l16) ([]:List Zad)) fun l21=>some l21
noncomputable def ZgD (v0:Zam) (v1:Int):Option ((List Zad) × Int) :=
 Option.bind (ZbS v0) fun y1=>if (y1 != 0)=true then (some (([]:List Zad),y1)) else (Option.bind (ZcN v1) fun y3=>if (!y3)=true then (some (([]:List Zad),9)) else (Option.bind (Zcj v0) fun y5=>Option.bind (ref11_view_open y5 v1) fun y7=>some (y7,0)))
noncomputable def ZbV (v0:Zam):Option (List Zaa) :=
 seqK (forL (σ:=(List (Str × Zac))) (τ:=(List (Str × Zac))) v0.Known (fun _ x4 m5=>some (.next (mset kEqS x4.Advisory x4 m5))) (fun m5=>m5) []) fun m6=>seqK (forL (σ:=(List Zaa)) (τ:=(List Zaa)) v0.Releases (fun i8 x11 l66=>seqK (τ:=Int) (if (decide (((i8+1:Nat):Int)<(v0.Releases.length:Int)))=true then (Option.bind (idx v0.Releases ((i8+1:Nat):Int)) fun x98=>some (.inl x98.Day)) else (some (.inl v0.Until))) fun n96=>seqK (forL (σ:=(List Zaa)) (τ:=(List Zaa)) x11.Exposures (fun _ x103 l108=>seqK (τ:=Int) (if (decide (((mget kEqS x103.Advisory m6).getD (Zac.mk str_ 0 0)).Ended≥0))=true then (some (.inl (if ((mget kEqS x103.Advisory m6).getD (Zac.mk str_ 0 0)).Ended<n96 then ((mget kEqS x103.Advisory m6).getD (Zac.mk str_ 0 0)).Ended else n96))) else (some (.inl n96))) fun n115=>if (decide ((if x11.Day<((mget kEqS x103.Advisory m6).getD (Zac.mk str_ 0 0)).Day then ((mget kEqS x103.Advisory m6).getD (Zac.mk str_ 0 0)).Day else x11.Day)<n115))=true then (Option.bind (app 56 l108 [(Zaa.mk x103 (if x11.Day<((mget kEqS x103.Advisory m6).getD (Zac.mk str_ 0 0)).Day then ((mget kEqS x103.Advisory m6).getD (Zac.mk str_ 0 0)).Day else x11.Day) n115)]) fun l117=>some (.next l117)) else (some (.next l108))) (fun l108=>l108) l66) fun l113=>some (.next l113)) (fun l66=>l66) ([]:List Zaa)) fun l92=>some l92
noncomputable def ZfJ (v0:Zam) (v1:Int):Option ((List Zad) × Int) :=
 Option.bind (ZbW v0) fun y1=>if (y1 != 0)=true then (some (([]:List Zad),y1)) else (Option.bind (Zcl v1) fun y3=>if (!y3)=true then (some (([]:List Zad),9)) else (Option.bind (ZbV v0) fun y5=>seqK (forL (σ:=(List Zad)) (τ:=(List Zad)) y5 (fun _ x10 l15=>if ((decide (x10.from'≤v1)) && (decide (v1<x10.to')))=true then (Option.bind (app 40 l15 [x10.x]) fun l21=>some (.next l21)) else (some (.next l15))) (fun l15=>l15) ([]:List Zad)) fun l18=>some (l18,0)))
noncomputable def Zgl (v0:Zag) (v1:Zag):Option Bool :=
 Option.bind (gAnd ((sEq v0.Version.b v1.Version.b) && (v0.Day == v1.Day)) (Option.bind (Zcx v0.Exposures v1.Exposures) fun y1=>some y1)) fun b3=>some b3
noncomputable def ZgL (v0:Zam) (v1:Int):Option Bool :=
 Option.bind (ref11_Used v0 v1) fun (y1,y2,y3)=>Option.bind (Zg4 v0 v1) fun (y5,y6,y7)=>Option.bind (ZgD v0 v1) fun (y9,y10)=>Option.bind (ZfJ v0 v1) fun (y12,y13)=>Option.bind (ZbS v0) fun y15=>Option.bind (ZbW v0) fun y17=>Option.bind (gAnd (y15 == y17) (Option.bind (Zgl y5 y1) fun y19=>some y19)) fun b21=>Option.bind (gAnd ((b21 && (y6 == y2)) && (y7 == y3)) (Option.bind (Zcx y12 y9) fun y23=>some y23)) fun b25=>Option.bind (gAnd (b25 && (y13 == y10)) (Option.bind (ZdH) fun y27=>some y27)) fun b29=>some b29
end Go.Abs
