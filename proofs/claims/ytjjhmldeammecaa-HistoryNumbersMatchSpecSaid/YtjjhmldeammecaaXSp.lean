/-
  Sorting,the plain law:pdqsort yields the same elements in order (no program is in sight).
-/
import Derived.Test.YtjjhmldeammecaaM4
import Derived.Test.YtjjhmldeammecaaXSo
namespace Go.Abs
open Go
set_option maxRecDepth 8000
noncomputable def Zdc {α:Type} (less:α→α→Option Bool) (v0:List α) (v1:Int) (v2:Int):Option (List α) :=
 seqK (loopW (σ:=Int × (List α)) (τ:=(List α)) (fun (n47,l48)=>if (decide (n47<v2))=true then (seqK (loopW (σ:=Int × (List α)) (τ:=(List α)) (fun (n111,l112)=>Option.bind (gAnd (decide (n111>v1)) (Option.bind (idx l112 n111) fun x129=>Option.bind (idx l112 (w64 (n111 - 1))) fun x131=>Option.bind (less x129 x131) fun y133=>some y133)) fun b135=>if b135=true then (Option.bind (idx l112 (w64 (n111 - 1))) fun x144=>Option.bind (idx l112 n111) fun x146=>Option.bind (idx (l112.set n111.toNat x144) (w64 (n111 - 1))) fun x148=>some (.next (w64 (n111 - 1),((l112.set n111.toNat x144).set ((w64 (n111 - 1)).toNat) x146)))) else (some (.brk l112))) (n47,l48)) fun l127=>some (.next (w64 (n47+1),l127))) else (some (.brk l48))) (w64 (v1+1),v0)) fun l95=>some l95
noncomputable def ZeX {α:Type} (less:α→α→Option Bool) (v0:List α) (v1:Int) (v2:Int) (v3:Int):Option (List α) :=
 seqK (loopW (σ:=Int × (List α)) (τ:=(List α)) (fun (n27,l28)=>if (decide (w64 ((w64 (2*n27))+1)≥v2))=true then (some (.brk l28)) else (seqK (τ:=Int) (Option.bind (gAnd (decide (w64 ((w64 ((w64 (2*n27))+1))+1)<v2)) (Option.bind (idx l28 (w64 (v3+(w64 ((w64 (2*n27))+1))))) fun x67=>Option.bind (idx l28 (w64 ((w64 (v3+(w64 ((w64 (2*n27))+1))))+1))) fun x69=>Option.bind (less x67 x69) fun y71=>some y71)) fun b73=>if b73=true then (some (.inl (w64 ((w64 ((w64 (2*n27))+1))+1)))) else (some (.inl (w64 ((w64 (2*n27))+1))))) fun n65=>Option.bind (idx l28 (w64 (v3+n27))) fun x82=>Option.bind (idx l28 (w64 (v3+n65))) fun x84=>Option.bind (less x82 x84) fun y86=>if (!y86)=true then (some (.ret l28)) else (Option.bind (idx (l28.set ((w64 (v3+n27)).toNat) x84) (w64 (v3+n65))) fun x88=>some (.next (n65,((l28.set ((w64 (v3+n27)).toNat) x84).set ((w64 (v3+n65)).toNat) x82)))))) (v1,v0)) fun l55=>some l55
noncomputable def ZeZ {α:Type} (less:α→α→Option Bool) (v0:List α) (v1:Int) (v2:Int):Option (List α) :=
 seqK (loopW (σ:=Int × (List α)) (τ:=(List α)) (fun (n5,l6)=>if (decide (n5≥0))=true then (Option.bind (ZeX less l6 n5 (w64 (v2 - v1)) v1) fun l12=>Option.bind (chk (l12.length == l6.length)) fun _=>some (.next (w64 (n5 - 1),l12))) else (some (.brk l6))) (w64 ((w64 ((w64 (v2 - v1)) - 1)).tdiv 2),v0)) fun l10=>seqK (loopW (σ:=Int × (List α)) (τ:=(List α)) (fun (n24,l25)=>if (decide (n24≥0))=true then (Option.bind (idx l25 (w64 (v1+n24))) fun x37=>Option.bind (idx l25 v1) fun x39=>Option.bind (idx (l25.set v1.toNat x37) (w64 (v1+n24))) fun x41=>Option.bind (ZeX less ((l25.set v1.toNat x37).set ((w64 (v1+n24)).toNat) x39) 0 n24 v1) fun l43=>Option.bind (chk (l43.length == ((l25.set v1.toNat x37).set ((w64 (v1+n24)).toNat) x39).length)) fun _=>some (.next (w64 (n24 - 1),l43))) else (some (.brk l25))) (w64 ((w64 (v2 - v1)) - 1),l10)) fun l35=>some l35
noncomputable def Zdd {α:Type} (np:Int→Option Int) (nx:Int→Option (Int × Int)) (v0:List α) (v1:Int) (v2:Int):Option (List α) :=
 if (decide (w64 (v2 - v1)≥8))=true then (Option.bind (np (w64 (v2 - v1))) fun y1=>seqK (loopW (σ:=Int × (List α) × Int) (τ:=(List α)) (fun (n16,l17,n18)=>if (decide (n16≤w64 ((w64 (v1+(w64 ((w64 ((w64 (v2 - v1)).tdiv 4))*2))))+1)))=true then (Option.bind (nx n18) fun (y34,p35)=>seqK (τ:=Int) (if (decide (w64 (bAnd .u64 y34 ((IntKind.u64.wrap) (y1 - 1)))≥w64 (v2 - v1)))=true then (some (.inl (w64 ((w64 (bAnd .u64 y34 ((IntKind.u64.wrap) (y1 - 1)))) - (w64 (v2 - v1)))))) else (some (.inl (w64 (bAnd .u64 y34 ((IntKind.u64.wrap) (y1 - 1))))))) fun n37=>Option.bind (idx l17 (w64 (v1+n37))) fun x39=>Option.bind (idx l17 n16) fun x41=>Option.bind (idx (l17.set n16.toNat x39) (w64 (v1+n37))) fun x43=>some (.next (w64 (n16+1),((l17.set n16.toNat x39).set ((w64 (v1+n37)).toNat) x41),p35))) else (some (.brk l17))) (w64 ((w64 (v1+(w64 ((w64 ((w64 (v2 - v1)).tdiv 4))*2)))) - 1),v0,(IntKind.u64.wrap) (w64 (v2 - v1)))) fun l31=>some l31) else (some v0)
noncomputable def Zfu {α:Type} (less:α→α→Option Bool) (v0:List α) (v1:Int) (v2:Int) (v3:Int):Option (Int × Int × Int) :=
 Option.bind (idx v0 v2) fun x1=>Option.bind (idx v0 v1) fun x3=>Option.bind (less x1 x3) fun y5=>if y5=true then (some (v2,v1,w64 (v3+1))) else (some (v1,v2,v3))
noncomputable def Zfh {α:Type} (less:α→α→Option Bool) (v0:List α) (v1:Int) (v2:Int) (v3:Int) (v4:Int):Option (Int × Int) :=
 Option.bind (Zfu less v0 v1 v2 v4) fun (y1,y2,p3)=>Option.bind (Zfu less v0 y2 v3 p3) fun (y5,y6,p7)=>Option.bind (Zfu less v0 y1 y5 p7) fun (y9,y10,p11)=>some (y10,p11)
noncomputable def Zcw {α:Type} (less:α→α→Option Bool) (v0:List α) (v1:Int) (v2:Int):Option (Int × Int) :=
 Option.bind (Zfh less v0 (w64 (v1 - 1)) v1 (w64 (v1+1)) v2) fun (y1,p2)=>some (y1,p2)
noncomputable def ZdM {α:Type} (less:α→α→Option Bool) (v0:List α) (v1:Int) (v2:Int):Option (Int × Int) :=
 seqK (τ:=Int × Int) (if (decide (w64 (v2 - v1)≥8))=true then (if (decide (w64 (v2 - v1)≥50))=true then (Option.bind (Zcw less v0 (w64 (v1+(w64 ((w64 ((w64 (v2 - v1)).tdiv 4))*1)))) 0) fun (y22,p23)=>Option.bind (Zcw less v0 (w64 (v1+(w64 ((w64 ((w64 (v2 - v1)).tdiv 4))*2)))) p23) fun (y25,p26)=>Option.bind (Zcw less v0 (w64 (v1+(w64 ((w64 ((w64 (v2 - v1)).tdiv 4))*3)))) p26) fun (y28,p29)=>Option.bind (Zfh less v0 y22 y25 y28 p29) fun (y31,p32)=>some (.inl (y31,p32))) else (Option.bind (Zfh less v0 (w64 (v1+(w64 ((w64 ((w64 (v2 - v1)).tdiv 4))*1)))) (w64 (v1+(w64 ((w64 ((w64 (v2 - v1)).tdiv 4))*2)))) (w64 (v1+(w64 ((w64 ((w64 (v2 - v1)).tdiv 4))*3)))) 0) fun (y34,p35)=>some (.inl (y34,p35)))) else (some (.inl (w64 (v1+(w64 ((w64 ((w64 (v2 - v1)).tdiv 4))*2))),0)))) fun (n19,n20)=>if (n20 == 0)=true then (some (n19,1)) else (if (n20 == 12)=true then (some (n19,2)) else (some (n19,0)))
noncomputable def Zds {α:Type} (v0:List α) (v1:Int) (v2:Int):Option (List α) :=
 seqK (loopW (σ:=Int × Int × (List α)) (τ:=(List α)) (fun (n7,n8,l9)=>if (decide (n7<n8))=true then (Option.bind (idx l9 n8) fun x18=>Option.bind (idx l9 n7) fun x20=>Option.bind (idx (l9.set n7.toNat x18) n8) fun x22=>some (.next (w64 (n7+1),w64 (n8 - 1),((l9.set n7.toNat x18).set n8.toNat x20)))) else (some (.brk l9))) (v1,w64 (v2 - 1),v0)) fun l16=>some l16
noncomputable def Zb3 {α:Type} (less:α→α→Option Bool) (v0:List α) (v1:Int) (v2:Int):Option (Bool × List α) :=
 seqK (loopW (σ:=Int × Int × (List α)) (τ:=(List α)) (fun (n120,n121,l122)=>if (decide (n121<5))=true then (seqK (loopW (σ:=Int) (τ:=Int) (fun n252=>Option.bind (gAnd (decide (n252<v2)) (Option.bind (idx l122 n252) fun x263=>Option.bind (idx l122 (w64 (n252 - 1))) fun x265=>Option.bind (less x263 x265) fun y267=>some (!y267))) fun b269=>if b269=true then (some (.next (w64 (n252+1)))) else (some (.brk n252))) n120) fun n261=>if (n261 == v2)=true then (some (.ret (true,l122))) else (if (decide (w64 (v2 - v1)<50))=true then (some (.ret (false,l122))) else (Option.bind (idx l122 (w64 (n261 - 1))) fun x278=>Option.bind (idx l122 n261) fun x280=>Option.bind (idx (l122.set n261.toNat x278) (w64 (n261 - 1))) fun x282=>seqK (τ:=(List α)) (if (decide (w64 (n261 - v1)≥2))=true then (seqK (loopW (σ:=Int × (List α)) (τ:=(List α)) (fun (n322,l323)=>if (decide (n322≥1))=true then (Option.bind (idx l323 n322) fun x334=>Option.bind (idx l323 (w64 (n322 - 1))) fun x336=>Option.bind (less x334 x336) fun y338=>if (!y338)=true then (some (.brk l323)) else (Option.bind (idx (l323.set n322.toNat x336) (w64 (n322 - 1))) fun x340=>some (.next (w64 (n322 - 1),((l323.set n322.toNat x336).set ((w64 (n322 - 1)).toNat) x334))))) else (some (.brk l323))) (w64 (n261 - 1),((l122.set n261.toNat x278).set ((w64 (n261 - 1)).toNat) x280))) fun l332=>some (.inl l332)) else (some (.inl ((l122.set n261.toNat x278).set ((w64 (n261 - 1)).toNat) x280)))) fun l312=>if (decide (w64 (v2 - n261)≥2))=true then (seqK (loopW (σ:=Int × (List α)) (τ:=(List α)) (fun (n350,l351)=>if (decide (n350<v2))=true then (Option.bind (idx l351 n350) fun x362=>Option.bind (idx l351 (w64 (n350 - 1))) fun x364=>Option.bind (less x362 x364) fun y366=>if (!y366)=true then (some (.brk l351)) else (Option.bind (idx (l351.set n350.toNat x364) (w64 (n350 - 1))) fun x368=>some (.next (w64 (n350+1),((l351.set n350.toNat x364).set ((w64 (n350 - 1)).toNat) x362))))) else (some (.brk l351))) (w64 (n261+1),l312)) fun l360=>some (.next (n261,w64 (n121+1),l360))) else (some (.next (n261,w64 (n121+1),l312)))))) else (some (.brk l122))) (w64 (v1+1),0,v0)) fun l242=>some (false,l242)
noncomputable def ZcV {α:Type} (less:α→α→Option Bool) (v0:List α) (v1:Int) (v2:Int) (v3:Int):Option (Int × List α) :=
 Option.bind (idx v0 v3) fun x1=>Option.bind (idx v0 v1) fun x3=>Option.bind (idx (v0.set v1.toNat x1) v3) fun x5=>seqK (loopW (σ:=Int × Int × (List α)) (τ:=Int × (List α)) (fun (n67,n68,l69)=>seqK (loopW (σ:=Int) (τ:=Int) (fun n141=>Option.bind (gAnd (decide (n141≤n68)) (Option.bind (idx l69 v1) fun x152=>Option.bind (idx l69 n141) fun x154=>Option.bind (less x152 x154) fun y156=>some (!y156))) fun b158=>if b158=true then (some (.next (w64 (n141+1)))) else (some (.brk n141))) n67) fun n150=>seqK (loopW (σ:=Int) (τ:=Int) (fun n175=>Option.bind (gAnd (decide (n150≤n175)) (Option.bind (idx l69 v1) fun x186=>Option.bind (idx l69 n175) fun x188=>Option.bind (less x186 x188) fun y190=>some y190)) fun b192=>if b192=true then (some (.next (w64 (n175 - 1)))) else (some (.brk n175))) n68) fun n184=>if (decide (n150>n184))=true then (some (.brk (n150,l69))) else (Option.bind (idx l69 n184) fun x201=>Option.bind (idx l69 n150) fun x203=>Option.bind (idx (l69.set n150.toNat x201) n184) fun x205=>some (.next (w64 (n150+1),w64 (n184 - 1),((l69.set n150.toNat x201).set n184.toNat x203))))) (w64 (v1+1),w64 (v2 - 1),((v0.set v1.toNat x1).set v3.toNat x3))) fun (n130,l131)=>some (n130,l131)
noncomputable def ZdR {α:Type} (less:α→α→Option Bool) (v0:List α) (v1:Int) (v2:Int) (v3:Int):Option (Int × Bool × List α) :=
 Option.bind (idx v0 v3) fun x1=>Option.bind (idx v0 v1) fun x3=>Option.bind (idx (v0.set v1.toNat x1) v3) fun x5=>seqK (loopW (σ:=Int) (τ:=Int) (fun n15=>Option.bind (gAnd (decide (n15≤w64 (v2 - 1))) (Option.bind (idx ((v0.set v1.toNat x1).set v3.toNat x3) n15) fun x26=>Option.bind (idx ((v0.set v1.toNat x1).set v3.toNat x3) v1) fun x28=>Option.bind (less x26 x28) fun y30=>some y30)) fun b32=>if b32=true then (some (.next (w64 (n15+1)))) else (some (.brk n15))) (w64 (v1+1))) fun n24=>seqK (loopW (σ:=Int) (τ:=Int) (fun n49=>Option.bind (gAnd (decide (n24≤n49)) (Option.bind (idx ((v0.set v1.toNat x1).set v3.toNat x3) n49) fun x60=>Option.bind (idx ((v0.set v1.toNat x1).set v3.toNat x3) v1) fun x62=>Option.bind (less x60 x62) fun y64=>some (!y64))) fun b66=>if b66=true then (some (.next (w64 (n49 - 1)))) else (some (.brk n49))) (w64 (v2 - 1))) fun n58=>if (decide (n24>n58))=true then (Option.bind (idx ((v0.set v1.toNat x1).set v3.toNat x3) v1) fun x75=>Option.bind (idx ((v0.set v1.toNat x1).set v3.toNat x3) n58) fun x77=>Option.bind (idx (((v0.set v1.toNat x1).set v3.toNat x3).set n58.toNat x75) v1) fun x79=>some (n58,true,((((v0.set v1.toNat x1).set v3.toNat x3).set n58.toNat x75).set v1.toNat x77))) else (Option.bind (idx ((v0.set v1.toNat x1).set v3.toNat x3) n58) fun x81=>Option.bind (idx ((v0.set v1.toNat x1).set v3.toNat x3) n24) fun x83=>Option.bind (idx (((v0.set v1.toNat x1).set v3.toNat x3).set n24.toNat x81) n58) fun x85=>seqK (loopW (σ:=Int × Int × (List α)) (τ:=Int × (List α)) (fun (n147,n148,l149)=>seqK (loopW (σ:=Int) (τ:=Int) (fun n221=>Option.bind (gAnd (decide (n221≤n148)) (Option.bind (idx l149 n221) fun x232=>Option.bind (idx l149 v1) fun x234=>Option.bind (less x232 x234) fun y236=>some y236)) fun b238=>if b238=true then (some (.next (w64 (n221+1)))) else (some (.brk n221))) n147) fun n230=>seqK (loopW (σ:=Int) (τ:=Int) (fun n255=>Option.bind (gAnd (decide (n230≤n255)) (Option.bind (idx l149 n255) fun x266=>Option.bind (idx l149 v1) fun x268=>Option.bind (less x266 x268) fun y270=>some (!y270))) fun b272=>if b272=true then (some (.next (w64 (n255 - 1)))) else (some (.brk n255))) n148) fun n264=>if (decide (n230>n264))=true then (some (.brk (n264,l149))) else (Option.bind (idx l149 n264) fun x281=>Option.bind (idx l149 n230) fun x283=>Option.bind (idx (l149.set n230.toNat x281) n264) fun x285=>some (.next (w64 (n230+1),w64 (n264 - 1),((l149.set n230.toNat x281).set n264.toNat x283))))) (w64 (n24+1),w64 (n58 - 1),((((v0.set v1.toNat x1).set v3.toNat x3).set n24.toNat x81).set n58.toNat x83))) fun (n210,l211)=>Option.bind (idx l211 v1) fun x287=>Option.bind (idx l211 n210) fun x289=>Option.bind (idx (l211.set n210.toNat x287) v1) fun x291=>some (n210,false,((l211.set n210.toNat x287).set v1.toNat x289)))
noncomputable def Zdj {α:Type} (less:α→α→Option Bool) (np:Int→Option Int) (nx:Int→Option (Int × Int)):Nat→(List α)→Int→Int→Int→Option (List α)
 | 0,_,_,_,_=>none
 | fuel+1,v0,v1,v2,v3 =>
 seqK (loopW (σ:=Int × Int × Bool × Bool × (List α) × Int) (τ:=Unit) (fun (n124,n125,b126,b127,l128,n129)=>if (decide (w64 (n125 - n124)≤12))=true then (Option.bind (Zdc less l128 n124 n125) fun l193=>Option.bind (chk (l193.length == l128.length)) fun _=>some (.ret l193)) else (if (n129 == 0)=true then (Option.bind (ZeZ less l128 n124 n125) fun l196=>Option.bind (chk (l196.length == l128.length)) fun _=>some (.ret l196)) else (seqK (τ:=Int × (List α)) (if (!b126)=true then (Option.bind (Zdd np nx l128 n124 n125) fun l205=>Option.bind (chk (l205.length == l128.length)) fun _=>some (.inl (w64 (n129 - 1),l205))) else (some (.inl (n129,l128)))) fun (n202,l203)=>Option.bind (ZdM less l203 n124 n125) fun (y208,y209)=>seqK (τ:=Int × Int × (List α)) (if (y209 == 2)=true then (Option.bind (Zds l203 n124 n125) fun l218=>Option.bind (chk (l218.length == l203.length)) fun _=>some (.inl (w64 ((w64 (n125 - 1)) - (w64 (y208 - n124))),1,l218))) else (some (.inl (y208,y209,l203)))) fun (n214,n215,l216)=>seqK (τ:=(List α)) (if ((b126 && b127) && (n215 == 1))=true then (Option.bind (Zb3 less l216 n124 n125) fun (y229,l230)=>Option.bind (chk (l230.length == l216.length)) fun _=>if y229=true then (some (.inr (.ret l230))) else (some (.inl l230))) else (some (.inl l216))) fun l225=>Option.bind (gAnd (decide (n124>0)) (Option.bind (idx l225 (w64 (n124 - 1))) fun x233=>Option.bind (idx l225 n214) fun x235=>Option.bind (less x233 x235) fun y237=>some (!y237))) fun b239=>if b239=true then (Option.bind (ZcV less l225 n124 n125 n214) fun (y248,l249)=>Option.bind (chk (l249.length == l225.length)) fun _=>some (.next (y248,n125,b126,b127,l249,n202))) else (Option.bind (ZdR less l225 n124 n125 n214) fun (y252,y253,l254)=>Option.bind (chk (l254.length == l225.length)) fun _=>if (decide (w64 (y252 - n124)<w64 (n125 - y252)))=true then (Option.bind (Zdj less np nx fuel l254 n124 y252 n202) fun l258=>Option.bind (chk (l258.length == l254.length)) fun _=>some (.next (w64 (y252+1),n125,decide (w64 (y252 - n124)≥w64 ((w64 (n125 - n124)).tdiv 8)),y253,l258,n202))) else (Option.bind (Zdj less np nx fuel l254 (w64 (y252+1)) n125 n202) fun l261=>Option.bind (chk (l261.length == l254.length)) fun _=>some (.next (n124,y252,decide (w64 (n125 - y252)≥w64 ((w64 (n125 - n124)).tdiv 8)),y253,l261,n202))))))) (v1,v2,true,true,v0,v3)) fun _=>none
structure LtOk {α:Type} (lt:α→α→Bool):Prop where
 asym:∀x y,lt x y=true→lt y x=false
 trans:∀x y z,lt y x=false→lt z y=false→lt z x=false
theorem LtOk.irrefl {α:Type} {lt:α→α→Bool} (h:LtOk lt) (x:α):lt x x=false:=by
 cases hq:lt x x with
 | false=>rfl
 | true=>have:=h.asym x x hq;rw[hq] at this;exact this
theorem LtOk.lt_le {α:Type} {lt:α→α→Bool} (h:LtOk lt) {x y z:α} (h1:lt y z=true) (h2:lt y x=false):lt x z=true:=by
 cases hq:lt x z with
 | true=>rfl
 | false=>rw[h.trans z x y hq h2] at h1;cases h1
theorem LtOk.le_lt {α:Type} {lt:α→α→Bool} (h:LtOk lt) {x y z:α} (h1:lt x y=true) (h2:lt z y=false):lt x z=true:=by
 cases hq:lt x z with
 | true=>rfl
 | false=>rw[h.trans y z x h2 hq] at h1;cases h1
def SB {α:Type} (lt:α→α→Bool) (d:List α) (a b:Nat):Prop:=∀i j x y,a≤i→i<j→j<b→d[i]? =some x→d[j]? =some y→lt y x=false
theorem SB.mono {α:Type} {lt:α→α→Bool} {d:List α} {a b a' b':Nat} (h:SB lt d a b) (ha:a≤a') (hb:b'≤b):SB lt d a' b':=fun i j x y h1 h2 h3=>h i j x y (by omega) h2 (by omega)
theorem SB.out {α:Type} {lt:α→α→Bool} {d e:List α} {a b:Nat} (h:SB lt d a b) (he:∀i,a≤i→i<b→e[i]? =d[i]?):SB lt e a b:=fun i j x y h1 h2 h3 h4 h5=>h i j x y h1 h2 h3 (by rw[←he i h1 (by omega)];exact h4) (by rw[←he j (by omega) h3];exact h5)
variable {α:Type} {less:α→α→Option Bool} {lt:α→α→Bool}
theorem gpi_ok (hg:∀x y,less x y=some (lt x y)) (hc:LtOk lt) {a b:Nat} {d:List α} (ha:a≤d.length) (hb:b≤d.length) (hd:d.length<top) :
  ∃r,Zdc less d a b=some r∧RP a b d r∧SB lt r a b:=by
 unfold Zdc
 by_cases hab:b≤a+1
 ·rw[Zd9]
  dsimp only
  rw[if_neg (by rw[Zbq (by omega)];simp;omega)]
  exact⟨d,rfl,RP.refl _ _ _,fun i j x y h1 h2 h3=>by omega⟩
 refine ZaL (B:=fun l=>RP a b d l∧SB lt l a b) (R:=fun _=>False) (ZaZ (fun s=>∃i:Nat,s.1=(i:Int)∧a<i∧i≤b∧RP a b d s.2∧SB lt s.2 a i) (fun s=>b - s.1.toNat) ?_ _ ⟨a+1,by rw[Zbq (by omega)],by omega,by omega,RP.refl _ _ _,fun i j x y h1 h2 h3=>by omega⟩) (fun l h=>⟨l,rfl,h⟩) (fun _ h=>h.elim)
 rintro⟨n,l⟩ ⟨i,rfl,h1,h2,h3,h4⟩
 dsimp only at h3 h4 ⊢
 have hlen:=h3.len
 by_cases hib:i<b
 ·rw[if_pos (by simp;omega)]
  refine ZaL (B:=fun e=>RP a b l e∧SB lt e a (i+1)) (R:=fun _=>False) (ZaZ (fun s=>∃j:Nat,s.1=(j:Int)∧a≤j∧j≤i∧RP a b l s.2∧∀p q x y,a≤p→p<q→q≤i→q≠j→s.2[p]? =some x→s.2[q]? =some y→lt y x=false) (fun s=>s.1.toNat) ?_ _ ⟨i,rfl,by omega,Nat.le_refl _,RP.refl _ _ _,fun p q x y q1 q2 q3 q4=>h4 p q x y q1 q2 (by omega)⟩)
   (fun e he=>⟨_,rfl,⟨i+1,Zbq (by omega),by omega,by omega,h3.trans he.1,he.2⟩,by rw[Zbq (by omega)];omega⟩) (fun _ h=>h.elim)
  rintro⟨n,e⟩ ⟨j,rfl,k1,k2,k3,k4⟩
  dsimp only at k3 k4 ⊢
  have hlen2:=k3.len
  by_cases hj:j=a
  ·subst hj
   simp only[gAnd,show decide ((j:Int)>(j:Int))=false by simp,Bool.false_eq_true,if_false,Option.bind_some]
   exact⟨_,rfl,k3,fun p q x y q1 q2 q3=>k4 p q x y q1 q2 (by omega) (by omega)⟩
  obtain⟨x,hx⟩:=ZaE (l:=e) (i:=j) (by omega)
  obtain⟨y,hy⟩:=ZaE (l:=e) (i:=j - 1) (by omega)
  simp only[gAnd,show decide ((j:Int)>(a:Int))=true by simp;omega,if_true,ZeL (j:=j) (by omega) (by omega),ZaF hx,ZaF hy,Option.bind_some,hg]
  by_cases hlt:lt x y=true
  ·rw[if_pos hlt]
   have hy':(e.set j y)[j - 1]? =some y:=by
    rw[List.getElem?_set_ne (by omega)];exact hy
   simp only[Int.toNat_natCast,ZaF hy',Option.bind_some]
   have hsw:=Zcz hx hy
   refine⟨_,rfl,⟨j - 1,rfl,by omega,by omega,k3.trans (RP.swap hx hy (by omega) (by omega)),fun p q u v q1 q2 q3 q4 hu hv=>?_⟩,by simp only[Int.toNat_natCast];omega⟩
   dsimp only at hu hv
   rw[hsw] at hu hv
   by_cases e1:q=j
   ·subst e1
    rw[sw_l] at hv
    rw[hy] at hv;cases hv
    by_cases e2:p=q - 1
    ·subst e2
     rw[sw_r] at hu
     rw[hx] at hu;cases hu
     exact hc.asym _ _ hlt
    ·rw[sw_o (by omega) e2] at hu
     exact k4 p (q - 1) u y q1 (by omega) (by omega) (by omega) hu hy
   ·rw[sw_o e1 q4] at hv
    by_cases e2:p=j - 1
    ·subst e2
     rw[sw_r] at hu
     exact k4 j q u v (by omega) (by omega) q3 e1 hu hv
    ·by_cases e3:p=j
     ·subst e3
      rw[sw_l] at hu
      exact k4 (p - 1) q u v (by omega) (by omega) q3 e1 hu hv
     ·rw[sw_o e3 e2] at hu
      exact k4 p q u v q1 q2 q3 e1 hu hv
  ·rw[if_neg hlt]
   have hlt':lt x y=false:=by simpa using hlt
   refine⟨_,rfl,k3,fun p q u v q1 q2 q3 hu hv=>?_⟩
   by_cases e1:q=j
   ·subst e1
    rw[hx] at hv;cases hv
    by_cases e2:p=q - 1
    ·subst e2
     rw[hy] at hu;cases hu
     exact hlt'
    ·exact hc.trans _ _ _ (k4 p (q - 1) u y q1 (by omega) (by omega) (by omega) hu hy) hlt'
   ·exact k4 p q u v q1 q2 (by omega) e1 hu hv
 ·rw[if_neg (by simp;omega)]
  exact⟨_,rfl,h3,h4.mono (Nat.le_refl _) (by omega)⟩
theorem ZcK {l:List α} {i j:Nat} {x y:α} (hx:l[i]? =some x) (hy:l[j]? =some y):idx (l.set i y) (j:Int)=some (if i=j then x else y):=by
 rw[ZfN,List.getElem?_set]
 by_cases e:i=j
 ·subst e
  rw[hx] at hy;cases hy
  rw[if_pos rfl,if_pos (ZaB hx),if_pos rfl]
 ·rw[if_neg e,if_neg e,hy]
theorem gpr_ok {a b:Nat} {d:List α} (hb:b≤d.length) (hab:a≤b) (hd:d.length≤lim):∃r,Zds d a b=some r∧RP a b d r:=by
 have hd':d.length≤140737488355328:=hd
 unfold Zds
 refine ZaL (B:=fun l=>RP a b d l) (R:=fun _=>False) (ZaZ (fun s=>∃i:Nat,s.1=(i:Int)∧a≤i∧i≤b∧ -1≤s.2.1∧s.2.1≤(b:Int) - 1∧RP a b d s.2.2) (fun s=>b - s.1.toNat) ?_ _ ⟨a,rfl,Nat.le_refl _,hab,by dsimp only;rw[ZcW (by omega) (by omega)];omega,by dsimp only;rw[ZcW (by omega) (by omega)];omega,RP.refl _ _ _⟩) (fun l h=>⟨l,rfl,h⟩) (fun _ h=>h.elim)
 rintro⟨n,m,l⟩ ⟨i,rfl,h1,h2,h3,h4,h5⟩
 dsimp only at h3 h4 h5 ⊢
 have hlen:=h5.len
 by_cases hlt:(i:Int)<m
 ·obtain⟨j,rfl⟩:∃j:Nat,m=(j:Int):=⟨m.toNat,by omega⟩
  rw[if_pos (by simpa using hlt)]
  obtain⟨x,hx⟩:=ZaE (l:=l) (i:=j) (by omega)
  obtain⟨y,hy⟩:=ZaE (l:=l) (i:=i) (by omega)
  have hs:=ZcK hy hx
  rw[if_neg (by omega)] at hs
  simp only[ZaF hx,ZaF hy,Option.bind_some,Int.toNat_natCast,hs]
  refine⟨_,rfl,⟨i+1,Zbq (by unfold top;omega),by omega,by omega,?_,?_,h5.trans (RP.swap hy hx (by omega) (by omega))⟩,by rw[Zbq (by unfold top;omega)];simp only[Int.toNat_natCast];omega⟩
  ·dsimp only;rw[ZcW (by omega) (by omega)];omega
  ·dsimp only;rw[ZcW (by omega) (by omega)];omega
 ·rw[if_neg (by simpa using hlt)]
  exact⟨_,rfl,h5⟩
theorem gpo_ok (hg:∀x y,less x y=some (lt x y)) {d:List α} {i j:Nat} (hi:i<d.length) (hj:j<d.length) (s:Int):∃p q s',Zfu less d i j s=some (((p:Nat):Int),((q:Nat):Int),s')∧(p=i∨p=j)∧(q=i∨q=j):=by
 obtain⟨x,hx⟩:=ZaE hi
 obtain⟨y,hy⟩:=ZaE hj
 simp only[Zfu,ZaF hx,ZaF hy,Option.bind_some,hg]
 cases lt y x with
 | true=>exact⟨j,i,_,rfl,.inr rfl,.inl rfl⟩
 | false=>exact⟨i,j,_,rfl,.inl rfl,.inr rfl⟩
theorem gpm_ok (hg:∀x y,less x y=some (lt x y)) {d:List α} {i j k:Nat} (hi:i<d.length) (hj:j<d.length) (hk:k<d.length) (s:Int):∃p s',Zfh less d i j k s=some (((p:Nat):Int),s')∧(p=i∨p=j∨p=k):=by
 obtain⟨p,q,s1,e1,h1,h2⟩:=gpo_ok hg hi hj s
 have hq:q<d.length:=by rcases h2 with rfl | rfl<;>assumption
 have hp:p<d.length:=by rcases h1 with rfl | rfl<;>assumption
 obtain⟨p2,q2,s2,e2,h3,h4⟩:=gpo_ok hg hq hk s1
 have hp2:p2<d.length:=by rcases h3 with rfl | rfl<;>assumption
 obtain⟨p3,q3,s3,e3,h5,h6⟩:=gpo_ok hg hp hp2 s2
 simp only[Zfh,e1,e2,e3,Option.bind_some]
 refine⟨q3,s3,rfl,?_⟩
 omega
theorem gpa_ok (hg:∀x y,less x y=some (lt x y)) {d:List α} {i:Nat} (hi:0<i) (hj:i+1<d.length) (hd:d.length≤lim) (s:Int):∃p s',Zcw less d i s=some (((p:Nat):Int),s')∧i - 1≤p∧p≤i+1:=by
 have hd':d.length≤140737488355328:=hd
 obtain⟨p,s',e,h⟩:=gpm_ok hg (d:=d) (i:=i - 1) (j:=i) (k:=i+1) (by omega) (by omega) hj s
 simp only[Zcw,ZeL hi (by unfold top;omega),Zbq (j:=i) (by unfold top;omega),e,Option.bind_some]
 exact⟨p,s',rfl,by omega,by omega⟩
theorem gpc_ok (hg:∀x y,less x y=some (lt x y)) {d:List α} {a b:Nat} (hab:a<b) (hb:b≤d.length) (hd:d.length≤lim):∃r,ZdM less d a b=some r∧∃p:Nat,r.1=(p:Int)∧a≤p∧p<b:=by
 have hd':d.length≤140737488355328:=hd
 unfold ZdM
 have e0:w64 ((b:Int) - (a:Int))=((b - a:Nat):Int):=ZbD (by omega) (by unfold top;omega)
 have eq4:w64 (((b - a:Nat):Int).tdiv 4)=(((b - a) / 4:Nat):Int):=ZbD (by rw[Int.tdiv_eq_ediv_of_nonneg (by omega)];omega) (by unfold top;omega)
 have em:∀k:Nat,k≤3→w64 ((((b - a) / 4:Nat):Int)*(k:Int))=(((b - a) / 4*k:Nat):Int):=fun k hk=>ZbD (by simp) (by unfold top;have:=Nat.mul_le_mul_left ((b - a) / 4) hk;omega)
 have ea:∀k:Nat,k≤3→w64 ((a:Int)+(((b - a) / 4*k:Nat):Int))=((a+(b - a) / 4*k:Nat):Int):=fun k hk=>ZbD (by omega) (by unfold top;have:=Nat.mul_le_mul_left ((b - a) / 4) hk;omega)
 have em1:=em 1 (by omega);have em2:=em 2 (by omega);have em3:=em 3 (by omega)
 have ea1:=ea 1 (by omega);have ea2:=ea 2 (by omega);have ea3:=ea 3 (by omega)
 simp only[Int.natCast_one,show ((2:Nat):Int)=2 from rfl,show ((3:Nat):Int)=3 from rfl] at em1 em2 em3
 simp only[e0,eq4,em1,em2,em3,ea1,ea2,ea3]
 refine ZaL (B:=fun (t:Int × Int)=>∃p:Nat,t.1=(p:Int)∧a≤p∧p<b) (R:=fun _=>False) ?_ ?_ (fun _ h=>h.elim)
 ·by_cases h8:8≤b - a
  ·rw[if_pos (by simp;omega)]
   by_cases h50:50≤b - a
   ·rw[if_pos (by simp;omega)]
    obtain⟨p1,s1,e1,q1,q2⟩:=gpa_ok hg (d:=d) (i:=a+(b - a) / 4*1) (by omega) (by omega) hd 0
    obtain⟨p2,s2,e2,q3,q4⟩:=gpa_ok hg (d:=d) (i:=a+(b - a) / 4*2) (by omega) (by omega) hd s1
    obtain⟨p3,s3,e3,q5,q6⟩:=gpa_ok hg (d:=d) (i:=a+(b - a) / 4*3) (by omega) (by omega) hd s2
    obtain⟨p4,s4,e4,q7⟩:=gpm_ok hg (d:=d) (i:=p1) (j:=p2) (k:=p3) (by omega) (by omega) (by omega) s3
    simp only[e1,e2,e3,e4,Option.bind_some]
    exact⟨_,rfl,p4,rfl,by omega,by omega⟩
   ·rw[if_neg (by simp;omega)]
    obtain⟨p4,s4,e4,q7⟩:=gpm_ok hg (d:=d) (i:=a+(b - a) / 4*1) (j:=a+(b - a) / 4*2) (k:=a+(b - a) / 4*3) (by omega) (by omega) (by omega) 0
    simp only[e4,Option.bind_some]
    exact⟨_,rfl,p4,rfl,by omega,by omega⟩
  ·rw[if_neg (by simp;omega)]
   exact⟨_,rfl,a+(b - a) / 4*2,rfl,by omega,by omega⟩
 ·rintro⟨n,s⟩ ⟨p,e,h1,h2⟩
  dsimp only at e ⊢
  subst e
  split
  ·exact⟨_,rfl,p,rfl,h1,h2⟩
  ·split
   ·exact⟨_,rfl,p,rfl,h1,h2⟩
   ·exact⟨_,rfl,p,rfl,h1,h2⟩
theorem bAnd_le {a:Int} {m:Nat} (hm:m≤9223372036854775807):∃n:Nat,bAnd .u64 a (m:Int)=(n:Int)∧n≤m:=by
 have hb:(BitVec.ofInt IntKind.u64.bits (m:Int)).toNat=m:=by
  rw[BitVec.ofInt_natCast,BitVec.toNat_ofNat,Nat.mod_eq_of_lt]
  simp[IntKind.bits];omega
 have hle:(BitVec.ofInt IntKind.u64.bits a &&& BitVec.ofInt IntKind.u64.bits (m:Int)).toNat≤m:=by
  rw[BitVec.toNat_and,hb];exact Nat.and_le_right
 refine⟨(BitVec.ofInt IntKind.u64.bits a &&& BitVec.ofInt IntKind.u64.bits (m:Int)).toNat,?_,hle⟩
 unfold bAnd
 generalize (BitVec.ofInt IntKind.u64.bits a &&& BitVec.ofInt IntKind.u64.bits (m:Int)).toNat=k at hle
 simp[IntKind.wrap,IntKind.bits,IntKind.signed]
 omega
theorem u64_nat {m:Nat} (hm:m≤9223372036854775807):IntKind.u64.wrap (m:Int)=(m:Int):=by
 simp[IntKind.wrap,IntKind.bits,IntKind.signed]
 omega
structure NpOk (np:Int→Option Int):Prop where
 ok:∀n:Nat,8≤n→n≤140737488355328→∃m:Nat,np (n:Int)=some (m:Int)∧1≤m∧m≤2*n
def NxOk (nx:Int→Option (Int × Int)):Prop:=∀x,∃y,nx x=some y
theorem gpb_ok {np:Int→Option Int} {nx:Int→Option (Int × Int)} (hnp:NpOk np) (hnx:NxOk nx) {a b:Nat} {d:List α} (hb:b≤d.length) (hab:a≤b) (hd:d.length≤lim):∃r,Zdd np nx d a b=some r∧RP a b d r:=by
 have hd':d.length≤140737488355328:=hd
 unfold Zdd
 have e0:w64 ((b:Int) - (a:Int))=((b - a:Nat):Int):=ZbD (by omega) (by unfold top;omega)
 have eq4:w64 (((b - a:Nat):Int).tdiv 4)=(((b - a) / 4:Nat):Int):=ZbD (by rw[Int.tdiv_eq_ediv_of_nonneg (by omega)];omega) (by unfold top;omega)
 have em:w64 ((((b - a) / 4:Nat):Int)*2)=(((b - a) / 4*2:Nat):Int):=ZbD (by omega) (by unfold top;omega)
 have ea:w64 ((a:Int)+(((b - a) / 4*2:Nat):Int))=((a+(b - a) / 4*2:Nat):Int):=ZbD (by omega) (by unfold top;omega)
 have ea1:w64 (((a+(b - a) / 4*2:Nat):Int)+1)=((a+(b - a) / 4*2+1:Nat):Int):=Zbq (by unfold top;omega)
 simp only[e0,eq4,em,ea,ea1]
 by_cases h8:8≤b - a
 ·rw[if_pos (by simp;omega)]
  obtain⟨m,hm,m1,m2⟩:=hnp.ok (b - a) h8 (by omega)
  rw[hm,Option.bind_some,ZeL (j:=a+(b - a) / 4*2) (by omega) (by unfold top;omega)]
  refine ZaL (B:=fun l=>RP a b d l) (R:=fun _=>False) (ZaZ (fun s=>∃i:Nat,s.1=(i:Int)∧a+(b - a) / 4*2 - 1≤i∧i≤a+(b - a) / 4*2+2∧RP a b d s.2.1) (fun s=>b+3 - s.1.toNat) ?_ _ ⟨_,rfl,Nat.le_refl _,by omega,RP.refl _ _ _⟩) (fun l h=>⟨l,rfl,h⟩) (fun _ h=>h.elim)
  rintro⟨n,l,z⟩ ⟨i,rfl,h1,h2,h3⟩
  dsimp only at h3 ⊢
  have hlen:=h3.len
  by_cases hi:i≤a+(b - a) / 4*2+1
  ·rw[if_pos (by simp;omega)]
   obtain⟨⟨y,z'⟩,hy⟩:=hnx z
   rw[hy,Option.bind_some]
   dsimp only
   have em1:IntKind.u64.wrap ((m:Int) - 1)=((m - 1:Nat):Int):=by
    rw[show (m:Int) - 1=((m - 1:Nat):Int) by omega];exact u64_nat (by omega)
   obtain⟨o,ho,hom⟩:=bAnd_le (a:=y) (m:=m - 1) (by omega)
   have eo:w64 (o:Int)=(o:Int):=ZbD rfl (by unfold top;omega)
   rw[em1,ho,eo]
   refine ZaL (B:=fun t=>∃q:Nat,t=(q:Int)∧q<b - a) (R:=fun _=>False) ?_ ?_ (fun _ h=>h.elim)
   ·by_cases hq:b - a≤o
    ·rw[if_pos (by simp;omega)]
     exact⟨_,rfl,o - (b - a),ZbD (by omega) (by unfold top;omega),by omega⟩
    ·rw[if_neg (by simp;omega)]
     exact⟨_,rfl,o,rfl,by omega⟩
   ·rintro t ⟨q,rfl,hq⟩
    have eq:w64 ((a:Int)+(q:Int))=((a+q:Nat):Int):=ZbD (by omega) (by unfold top;omega)
    rw[eq]
    obtain⟨x,hx⟩:=ZaE (l:=l) (i:=a+q) (by omega)
    obtain⟨u,hu⟩:=ZaE (l:=l) (i:=i) (by omega)
    have hs:=ZcK hu hx
    simp only[ZaF hx,ZaF hu,Option.bind_some,Int.toNat_natCast,hs]
    refine⟨_,rfl,⟨i+1,Zbq (by unfold top;omega),by omega,by omega,h3.trans (RP.swap hu hx (by omega) (by omega))⟩,by rw[Zbq (by unfold top;omega)];simp only[Int.toNat_natCast];omega⟩
  ·rw[if_neg (by simp;omega)]
   exact⟨_,rfl,h3⟩
 ·rw[if_neg (by simp;omega)]
  exact⟨d,rfl,RP.refl _ _ _⟩
theorem up_ok {ρ:Type} {body:Int→Option (Ex Int Int ρ)} {lo hi:Nat} (P:Nat→Prop) (hb:∀i:Nat,lo≤i→i<hi→(body (i:Int)=some (.next ((i+1:Nat):Int))∧P i∨body (i:Int)=some (.brk (i:Int))∧¬P i)) (he:∀i:Nat,hi≤i→body (i:Int)=some (.brk (i:Int))) (hlh:lo≤hi) :
  ∃y,loopW body (lo:Int)=some y∧Out (fun n=>∃i:Nat,n=(i:Int)∧lo≤i∧i≤hi∧(∀k,lo≤k→k<i→P k)∧(i<hi→¬P i)) (fun _=>False) y:=by
 refine ZaZ (fun s=>∃i:Nat,s=(i:Int)∧lo≤i∧i≤hi∧∀k,lo≤k→k<i→P k) (fun s=>hi - s.toNat) ?_ _ ⟨lo,rfl,Nat.le_refl _,hlh,fun k _ _=>by omega⟩
 rintro n ⟨i,rfl,h1,h2,h3⟩
 rcases Nat.lt_or_ge i hi with h | h
 ·rcases hb i h1 h with ⟨e,hp⟩ | ⟨e,hp⟩
  ·refine⟨_,e,⟨i+1,rfl,by omega,by omega,fun k k1 k2=>?_⟩,by simp only[Int.toNat_natCast];omega⟩
   rcases Nat.lt_or_ge k i with h4 | h4
   ·exact h3 k k1 h4
   ·obtain rfl:k=i:=by omega
    exact hp
  ·exact⟨_,e,i,rfl,h1,h2,h3,fun _=>hp⟩
 ·exact⟨_,he i h,i,rfl,h1,h2,h3,fun h4=>by omega⟩
theorem down_ok {ρ:Type} {body:Int→Option (Ex Int Int ρ)} {lo hi:Nat} (P:Nat→Prop) (hb:∀j:Nat,lo≤j→j<hi→(body (j:Int)=some (.next ((j:Int) - 1))∧P j∨body (j:Int)=some (.brk (j:Int))∧¬P j)) (he:body ((lo:Int) - 1)=some (.brk ((lo:Int) - 1))) (hlh:lo≤hi) :
  ∃y,loopW body ((hi:Int) - 1)=some y∧Out (fun n=>∃j:Nat,n=(j:Int) - 1∧lo≤j∧j≤hi∧(∀k,j≤k→k<hi→P k)∧(lo<j→¬P (j - 1))) (fun _=>False) y:=by
 refine ZaZ (fun s=>∃j:Nat,s=(j:Int) - 1∧lo≤j∧j≤hi∧∀k,j≤k→k<hi→P k) (fun s=>(s+1).toNat) ?_ _ ⟨hi,rfl,hlh,Nat.le_refl _,fun k _ _=>by omega⟩
 rintro n ⟨j,rfl,h1,h2,h3⟩
 rcases Nat.lt_or_ge lo j with h | h
 ·have ej:(j:Int) - 1=((j - 1:Nat):Int):=by omega
  rcases hb (j - 1) (by omega) (by omega) with ⟨e,hp⟩ | ⟨e,hp⟩
  ·rw[←ej] at e
   refine⟨_,e,⟨j - 1,by omega,by omega,by omega,fun k k1 k2=>?_⟩,by omega⟩
   rcases Nat.lt_or_ge k j with h4 | h4
   ·obtain rfl:k=j - 1:=by omega
    exact hp
   ·exact h3 k h4 k2
  ·rw[←ej] at e
   exact⟨_,e,j,rfl,h1,h2,h3,fun _=>hp⟩
 ·obtain rfl:j=lo:=by omega
  exact⟨_,he,j,rfl,h1,h2,h3,fun h4=>by omega⟩
theorem Zdy {b:Nat} (hb:b≤140737488355328):w64 ((b:Int) - 1)=(b:Int) - 1:=ZcW (by omega) (by omega)
theorem RP.get {a b:Nat} {d e:List α} (h:RP a b d e) {i:Nat} {x:α} (h1:a≤i) (h2:i<b) (hx:e[i]? =some x):∃j,a≤j∧j<b∧d[j]? =some x :=
 h.all (p:=fun x=>∃j,a≤j∧j<b∧d[j]? =some x) (fun i x h1 h2 h3=>⟨i,h1,h2,h3⟩) i x h1 h2 hx
theorem gpe_ok (hg:∀x y,less x y=some (lt x y)) (hc:LtOk lt) {d:List α} {a b p:Nat} {v:α} (hap:a≤p) (hpb:p<b) (hb:b≤d.length) (hd:d.length≤lim) (hv:d[p]? =some v) :
    ∃r,ZcV less d a b p=some r∧∃m:Nat,r.1=(m:Int)∧a<m∧m≤b∧RP a b d r.2∧(∀i x,a≤i→i<m→r.2[i]? =some x→lt v x=false)∧∀i x,m≤i→i<b→r.2[i]? =some x→lt v x=true:=by
  have hd':d.length≤140737488355328:=hd
  unfold ZcV
  obtain⟨u,hu⟩:=ZaE (l:=d) (i:=a) (by omega)
  have hs:=ZcK hu hv
  simp only[ZaF hv,ZaF hu,Option.bind_some,Int.toNat_natCast,hs]
  have hR0:RP a b d ((d.set a v).set p u):=RP.swap hu hv (by omega) (by omega)
  have ha0:((d.set a v).set p u)[a]? =some v:=by rw[Zcz hu hv,sw_l];exact hv
  generalize (d.set a v).set p u=d0 at hR0 ha0
  have hl0:=hR0.len
  rw[Zbq (j:=a) (by unfold top;omega),Zdy (by omega)]
  refine ZaL (B:=fun s=>∃m:Nat,s.1=(m:Int)∧a<m∧m≤b∧RP a b d s.2∧(∀i x,a≤i→i<m→s.2[i]? =some x→lt v x=false)∧∀i x,m≤i→i<b→s.2[i]? =some x→lt v x=true) (R:=fun _=>False)
    (ZaZ (fun s=>∃i j:Nat,s.1=(i:Int)∧s.2.1=(j:Int) - 1∧a<i∧i≤j∧j≤b∧RP a b d s.2.2∧s.2.2[a]? =some v∧(∀k x,a≤k→k<i→s.2.2[k]? =some x→lt v x=false)∧∀k x,j≤k→k<b→s.2.2[k]? =some x→lt v x=true) (fun s=>(s.2.1+1 - s.1).toNat) ?_ _
      ⟨a+1,b,rfl,rfl,by omega,by omega,Nat.le_refl _,hR0,ha0,fun k x k1 k2 hx=>?_,fun k x k1 k2=>by omega⟩) (fun s h=>⟨s,rfl,h⟩) (fun _ h=>h.elim)
  · rintro⟨n1,n2,l⟩ ⟨i,j,e1,e2,h1,h2,h3,h4,h5,h6,h7⟩
    dsimp only at e1 e2 h4 h5 h6 h7 ⊢
    subst e1 e2
    have hlen:=h4.len
    refine ZaL (B:=fun n=>∃i':Nat,n=(i':Int)∧i≤i'∧i'≤j∧(∀k,i≤k→k<i'→∀x,l[k]? =some x→lt v x=false)∧(i'<j→¬ ∀x,l[i']? =some x→lt v x=false)) (R:=fun _=>False)
      (up_ok (fun k=>∀x,l[k]? =some x→lt v x=false) ?_ ?_ h2) ?_ (fun _ h=>h.elim)
    · intro k k1 k2
      obtain⟨x,hx⟩:=ZaE (l:=l) (i:=k) (by omega)
      simp only[gAnd,show decide ((k:Int)≤(j:Int) - 1)=true by simp;omega,if_true,ZaF h5,ZaF hx,Option.bind_some,hg]
      cases hq:lt v x with
      | false =>
        left
        refine⟨?_,fun y hy=>by rw[hx] at hy;cases hy;exact hq⟩
        simp only[Bool.not_false,if_true,Zbq (j:=k) (by unfold top;omega)]
      | true =>
        right
        refine⟨?_,fun h=>by rw[h x hx] at hq;cases hq⟩
        simp only[Bool.not_true,Bool.false_eq_true,if_false]
    · intro k k1
      simp only[gAnd,show decide ((k:Int)≤(j:Int) - 1)=false by simp;omega,Bool.false_eq_true,if_false,Option.bind_some]
    · rintro n ⟨i',rfl,q1,q2,q3,q4⟩
      refine ZaL (B:=fun n=>∃j':Nat,n=(j':Int) - 1∧i'≤j'∧j'≤j∧(∀k,j'≤k→k<j→∀x,l[k]? =some x→lt v x=true)∧(i'<j'→¬ ∀x,l[j' - 1]? =some x→lt v x=true)) (R:=fun _=>False)
        (down_ok (fun k=>∀x,l[k]? =some x→lt v x=true) ?_ ?_ q2) ?_ (fun _ h=>h.elim)
      · intro k k1 k2
        obtain⟨x,hx⟩:=ZaE (l:=l) (i:=k) (by omega)
        simp only[gAnd,show decide ((i':Int)≤(k:Int))=true by simp;omega,if_true,ZaF h5,ZaF hx,Option.bind_some,hg]
        cases hq:lt v x with
        | true =>
          left
          refine⟨?_,fun y hy=>by rw[hx] at hy;cases hy;exact hq⟩
          simp only[if_true,Zdy (b:=k) (by omega)]
        | false =>
          right
          refine⟨?_,fun h=>by rw[h x hx] at hq;cases hq⟩
          simp only[Bool.false_eq_true,if_false]
      · simp only[gAnd,show decide ((i':Int)≤(i':Int) - 1)=false by simp;omega,Bool.false_eq_true,if_false,Option.bind_some]
      · rintro n ⟨j',rfl,r1,r2,r3,r4⟩
        have hlow:∀k x,a≤k→k<i'→l[k]? =some x→lt v x=false:=fun k x k1 k2 hx=>by
          rcases Nat.lt_or_ge k i with h | h
          · exact h6 k x k1 h hx
          · exact q3 k h k2 x hx
        have hhigh:∀k x,j'≤k→k<b→l[k]? =some x→lt v x=true:=fun k x k1 k2 hx=>by
          rcases Nat.lt_or_ge k j with h | h
          · exact r3 k k1 h x hx
          · exact h7 k x h k2 hx
        by_cases hij:i'=j'
        · subst hij
          rw[if_pos (by simp;omega)]
          exact⟨_,rfl,i',rfl,by omega,by omega,h4,hlow,hhigh⟩
        · obtain⟨x,hx⟩:=ZaE (l:=l) (i:=j' - 1) (by omega)
          obtain⟨y,hy⟩:=ZaE (l:=l) (i:=i') (by omega)
          have hxv:lt v x=false:=by
            cases hq:lt v x with
            | false=>rfl
            | true=>exact absurd (fun z hz=>by rw[hx] at hz;cases hz;exact hq) (r4 (by omega))
          have hyv:lt v y=true:=by
            cases hq:lt v y with
            | true=>rfl
            | false=>exact absurd (fun z hz=>by rw[hy] at hz;cases hz;exact hq) (q4 (by omega))
          have hne:i'≠j' - 1:=by rintro e;rw[←e,hy] at hx;cases hx;rw[hxv] at hyv;cases hyv
          rw[if_neg (by simp;omega)]
          have ej:(j':Int) - 1=((j' - 1:Nat):Int):=by omega
          have hs2:=ZcK hy hx
          rw[if_neg hne] at hs2
          rw[ej]
          simp only[ZaF hx,ZaF hy,Option.bind_some,Int.toNat_natCast,hs2]
          have hsw:=Zcz hy hx
          refine⟨_,rfl,⟨i'+1,j' - 1,Zbq (by unfold top;omega),Zdy (by omega),by omega,by omega,by omega,h4.trans (RP.swap hy hx (by omega) (by omega)),?_,fun k z k1 k2 hz=>?_,fun k z k1 k2 hz=>?_⟩,?_⟩
          · dsimp only;rw[hsw,sw_o (by omega) (by omega)];exact h5
          · dsimp only at hz
            rw[hsw] at hz
            by_cases e:k=i'
            · subst e;rw[sw_l,hx] at hz;cases hz;exact hxv
            · rw[sw_o e (by omega)] at hz;exact hlow k z k1 (by omega) hz
          · dsimp only at hz
            rw[hsw] at hz
            by_cases e:k=j' - 1
            · subst e;rw[sw_r,hy] at hz;cases hz;exact hyv
            · rw[sw_o (by omega) e] at hz;exact hhigh k z (by omega) k2 hz
          · dsimp only
            rw[Zbq (by unfold top;omega),Zdy (by omega)]
            omega
  · dsimp only at hx
    obtain rfl:k=a:=by omega
    rw[ha0] at hx;cases hx
    exact hc.irrefl _
end Go.Abs
