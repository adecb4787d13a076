/- Plain functions (printed by a program of this repo out of the loaded Go functions). -/
import Derived.Test.YtiohnbmhmhljbaaGreatDoorFHn
import Derived.Test.YtiohnbmhmhljbaaGreatDoorM4
namespace Go.Abs
open Go
set_option maxRecDepth 8000
def Zhd (_:Nat):Option Bool:=some true
noncomputable def ZgW (v0:Zab) (v1:Zab):Option Bool :=
 some ((((sEq v0.Advisory.b v1.Advisory.b) && (sEq v0.Component.b v1.Component.b)) && (v0.From == v1.From)) && (v0.To == v1.To))
noncomputable def ZgT (v0:List Zab) (v1:List Zab) (g2:Zab→Zab→Option Bool):Option Bool :=
 if ((v0.length:Int) != (v1.length:Int))=true then (some false) else (seqK (forL (σ:=Unit) (τ:=Unit) v0 (fun i1 x4 _=>Option.bind (idx v1 (i1:Int)) fun x10=>Option.bind (g2 x4 x10) fun y12=>if (!y12)=true then (some (.ret false)) else (some (.next ()))) (fun _=>()) ()) fun _=>some true)
noncomputable def ZgV (v0:Zad) (v1:Zab):Option Bool :=
 some ((sEq v0.Advisory.b v1.Advisory.b) && (sEq v0.Component.b v1.Component.b))
noncomputable def ZgY (fuel:Nat) (v0:Zam) (v1:Int) (v2:Int):Option Bool :=
 Option.bind (Zfp fuel v0) fun (y1,y2)=>Option.bind (Zhc v0 v1) fun (y4,y5)=>if ((((y2 != 0) || (y5 != 0)) || (decide (v2<0))) || (decide (v2>100)))=true then (Option.bind (Zhd fuel) fun y10=>some y10) else (Option.bind (Zfp fuel y4) fun (y12,y13)=>if (y13 != 0)=true then (some false) else (seqK (forL (σ:=(List Zab)) (τ:=(List Zab)) y1 (fun _ x18 l23=>if (decide (x18.From<v1))=true then (Option.bind (app 64 l23 [(Zab.mk x18.Advisory x18.Component x18.Severity x18.From (if v1<x18.To then v1 else x18.To) x18.Open)]) fun l28=>some (.next l28)) else (some (.next l23))) (fun l23=>l23) ([]:List Zab)) fun l26=>Option.bind (ZgT y12 l26 ZgW) fun y30=>if (!y30)=true then (some false) else (Option.bind (ZcL fuel v0 0 v1 v2) fun (y32,y33)=>Option.bind (ZcL fuel v0 v1 1000000 v2) fun (y35,y36)=>Option.bind (ZcL fuel v0 0 1000000 v2) fun (y38,y39)=>if ((((y33 != 0) || (y36 != 0)) || (y39 != 0)) || (w64 (y32+y35) != y38))=true then (some false) else (seqK (forL (σ:=Unit) (τ:=Unit) y1 (fun _ x47 _=>seqK (τ:=(List Int)) (if ((decide (x47.From≤v1)) && (decide (v1<x47.To)))=true then (Option.bind (app 8 [x47.From,w64 (x47.To - 1)] [v1]) fun l84=>some (.inl l84)) else (some (.inl [x47.From,w64 (x47.To - 1)]))) fun l81=>seqK (forN (σ:=Unit) (τ:=Unit) (fun i86 _=>Option.bind (idx l81 (i86:Int)) fun x100=>Option.bind (Zg4 v0 x100) fun (y102,y103,y104)=>Option.bind (gOr ((y104 != 0) || (!y103)) (Option.bind (ZcY y102.Exposures (fun a0=>ZgV a0 x47)) fun y106=>some (!y106))) fun b108=>if b108=true then (some (.ret (.ret false))) else (some (.next ()))) (fun _=>()) l81.length 0 ()) fun _=>some (.next ())) (fun _=>()) ()) fun _=>Option.bind (Zhd fuel) fun y114=>some y114))))
end Go.Abs
