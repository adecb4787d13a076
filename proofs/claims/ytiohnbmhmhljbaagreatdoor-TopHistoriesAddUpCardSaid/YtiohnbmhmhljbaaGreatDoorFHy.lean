/- Plain functions (printed by a program of this repo out of the loaded Go functions). -/
import Derived.Test.YtiohnbmhmhljbaaGreatDoorFHw
namespace Go.Abs
open Go
set_option maxRecDepth 8000
noncomputable def Zdz (v0:Zad) (v1:Zab):Option Bool :=
 some ((sEq v0.Advisory.b v1.Advisory.b) && (sEq v0.Component.b v1.Component.b))
noncomputable def Zgx (fuel:Nat) (v0:Zam) (v1:Int):Option Bool :=
 Option.bind (ZfJ v0 v1) fun (y1,y2)=>Option.bind (Zfp fuel v0) fun (y4,y5)=>if ((y2 != 0) || (y5 != 0))=true then (Option.bind (ZgD v0 v1) fun (y8,y9)=>Option.bind (gAnd (y2 == y9) (Option.bind (ZdH) fun y11=>some y11)) fun b13=>some b13) else (seqK (forL (σ:=Int) (τ:=Int) y4 (fun i18 x21 n31=>if (decide (x21.From≥x21.To))=true then (some (.ret false)) else (Option.bind (lslice y4 0 (i18:Int)) fun l43=>seqK (forL (σ:=Unit) (τ:=Unit) l43 (fun _ x48 _=>if (((sEq x21.Advisory.b x48.Advisory.b) && (sEq x21.Component.b x48.Component.b)) && (decide (x21.From≤x48.To)))=true then (some (.ret (.ret false))) else (some (.next ()))) (fun _=>()) ()) fun _=>if ((decide (v1<x21.From)) || (decide (v1≥x21.To)))=true then (some (.next n31)) else (Option.bind (ZcY y1 (fun a0=>Zdz a0 x21)) fun y53=>if (!y53)=true then (some (.ret false)) else (some (.next (w64 (n31+1))))))) (fun n31=>n31) 0) fun n41=>Option.bind (gAnd (n41 == (y1.length:Int)) (Option.bind (ZdH) fun y55=>some y55)) fun b57=>some b57)
end Go.Abs
