/- Plain functions (printed by a program of this repo out of the loaded Go functions). -/
import Derived.Test.YtjjhmldeammecaaFHw
-- base: Hw
namespace Go.Abs
open Go
set_option maxRecDepth 8000

noncomputable def ref11_Why (fuel : Nat) (v0 : T_api_Story) (v1 : Int) : Option ((List T_api_Window) × (List T_api_Window) × Int) :=
  Option.bind (ref11_Check v0) fun y1 => if (y1 != 0) = true then (some (([] : List T_api_Window), ([] : List T_api_Window), y1)) else (Option.bind (ref11_isDay v1) fun y3 => if (!y3) = true then (some (([] : List T_api_Window), ([] : List T_api_Window), 9)) else (Option.bind (ref11_windows fuel v0) fun y5 => seqK (forL (σ := (List T_api_Window) × (List T_api_Window)) (τ := (List T_api_Window) × (List T_api_Window)) y5 (fun _ x10 (l29, l30) => seqK (τ := (List T_api_Window)) (if (x10.From == v1) = true then (Option.bind (app 64 l29 [x10]) fun l46 => some (.inl l46)) else (some (.inl l29))) fun l44 => if ((x10.To == v1) && (!x10.Open)) = true then (Option.bind (app 64 l30 [x10]) fun l49 => some (.next (l44, l49))) else (some (.next (l44, l30)))) (fun (l29, l30) => (l29, l30)) (([] : List T_api_Window), ([] : List T_api_Window))) fun (l39, l40) => some (l39, l40, 0)))
noncomputable def history_Why (fuel : Nat) (v0 : T_api_Story) (v1 : Int) : Option ((List T_api_Window) × (List T_api_Window) × Int) :=
  Option.bind (history_Check v0) fun y1 => if (y1 != 0) = true then (some (([] : List T_api_Window), ([] : List T_api_Window), y1)) else (Option.bind (history_isDay v1) fun y3 => if (!y3) = true then (some (([] : List T_api_Window), ([] : List T_api_Window), 9)) else (Option.bind (history_windows fuel v0) fun y5 => seqK (forL (σ := (List T_api_Window) × (List T_api_Window)) (τ := (List T_api_Window) × (List T_api_Window)) y5 (fun _ x10 (l29, l30) => seqK (τ := (List T_api_Window)) (if (x10.From == v1) = true then (Option.bind (app 64 l29 [x10]) fun l46 => some (.inl l46)) else (some (.inl l29))) fun l44 => if ((x10.To == v1) && (!x10.Open)) = true then (Option.bind (app 64 l30 [x10]) fun l49 => some (.next (l44, l49))) else (some (.next (l44, l30)))) (fun (l29, l30) => (l29, l30)) (([] : List T_api_Window), ([] : List T_api_Window))) fun (l39, l40) => some (l39, l40, 0)))
noncomputable def law11_HistoryWhyMatchesSpec (fuel : Nat) (v0 : T_api_Story) (v1 : Int) : Option Bool :=
  Option.bind (ref11_Why fuel v0 v1) fun (y1, y2, y3) => Option.bind (history_Why fuel v0 v1) fun (y5, y6, y7) => Option.bind (slices_Equal_Window_Window y5 y1) fun y9 => Option.bind (gAnd y9 (Option.bind (slices_Equal_Window_Window y6 y2) fun y11 => some y11)) fun b13 => Option.bind (gAnd (b13 && (y7 == y3)) (Option.bind (law11_told) fun y15 => some y15)) fun b17 => some b17
end Go.Abs
