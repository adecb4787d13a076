/- Plain functions (printed by a program of this repo out of the loaded Go functions). -/
import Derived.Test.YtjjhmldeammecaaM3
namespace Go.Abs
open Go
set_option maxRecDepth 8000
def str_ : Str := Str.lit [] (by decide)
theorem str__b : str_.b = ⟨#[]⟩ := rfl
attribute [go_sem] str__b
structure T_api_Exposure where
  Advisory : Str
  Component : Str
  Severity : Int
def T_api_Exposure.c (x : T_api_Exposure) : List PV := [vs x.Advisory.b, vs x.Component.b, vi x.Severity]
theorem T_api_Exposure.w : Wide 3 T_api_Exposure.c := ⟨fun _ => rfl, fun _ => rfl, fun x => by simp only [T_api_Exposure.c, nzPs, nzP]⟩
theorem T_api_Exposure.r (l : List T_api_Exposure) : (∀ r ∈ l.map T_api_Exposure.c, r.length = 3 ∧ r.all PV.single = true) = True := T_api_Exposure.w.rows l
theorem T_api_Exposure.r1 (l : List T_api_Exposure) : (∀ r ∈ l.map T_api_Exposure.c, r.length = 3) = True := T_api_Exposure.w.rowl l
theorem T_api_Exposure.n (l : List T_api_Exposure) : nzPss (l.map T_api_Exposure.c) = l.map T_api_Exposure.c := T_api_Exposure.w.nzs l
attribute [go_sem] T_api_Exposure.c T_api_Exposure.r T_api_Exposure.r1 T_api_Exposure.n
structure T_api_Release where
  Version : Str
  Day : Int
  Exposures : List T_api_Exposure
def T_api_Release.c (x : T_api_Release) : List PV := [vs x.Version.b, vi x.Day, .sl (x.Exposures.map T_api_Exposure.c)]
theorem T_api_Release.w : Wide 3 T_api_Release.c := ⟨fun _ => rfl, fun _ => rfl, fun x => by simp only [T_api_Release.c, nzPs, nzP, T_api_Exposure.w.nzs]⟩
theorem T_api_Release.r (l : List T_api_Release) : (∀ r ∈ l.map T_api_Release.c, r.length = 3 ∧ r.all PV.single = true) = True := T_api_Release.w.rows l
theorem T_api_Release.r1 (l : List T_api_Release) : (∀ r ∈ l.map T_api_Release.c, r.length = 3) = True := T_api_Release.w.rowl l
theorem T_api_Release.n (l : List T_api_Release) : nzPss (l.map T_api_Release.c) = l.map T_api_Release.c := T_api_Release.w.nzs l
attribute [go_sem] T_api_Release.c T_api_Release.r T_api_Release.r1 T_api_Release.n
structure T_history_key where
  advisory : Str
  component : Str
def T_history_key.c (x : T_history_key) : List PV := [vs x.advisory.b, vs x.component.b]
theorem T_history_key.w : Wide 2 T_history_key.c := ⟨fun _ => rfl, fun _ => rfl, fun x => by simp only [T_history_key.c, nzPs, nzP]⟩
theorem T_history_key.r (l : List T_history_key) : (∀ r ∈ l.map T_history_key.c, r.length = 2 ∧ r.all PV.single = true) = True := T_history_key.w.rows l
theorem T_history_key.r1 (l : List T_history_key) : (∀ r ∈ l.map T_history_key.c, r.length = 2) = True := T_history_key.w.rowl l
theorem T_history_key.n (l : List T_history_key) : nzPss (l.map T_history_key.c) = l.map T_history_key.c := T_history_key.w.nzs l
attribute [go_sem] T_history_key.c T_history_key.r T_history_key.r1 T_history_key.n
noncomputable def ref11_isName (v0 : Str) : Option Bool :=
  seqK (loopW (σ := Int) (τ := Unit) (fun n4 => if (decide (n4 < (v0.b.size : Int))) = true then (Option.bind (sidx v0.b n4) fun c9 => if ((decide (c9 < 33)) || (decide (c9 > 126))) = true then (some (.ret false)) else (some (.next (w64 (n4 + 1))))) else (some (.brk ()))) 0) fun _ => some ((decide ((v0.b.size : Int) ≥ 1)) && (decide ((v0.b.size : Int) ≤ 100)))
noncomputable def ref11_isDay (v0 : Int) : Option Bool :=
  some ((decide (v0 ≥ 0)) && (decide (v0 ≤ 1000000)))
noncomputable def ref11_before (v0 : T_api_Exposure) (v1 : T_api_Exposure) : Option Bool :=
  some ((sLt v0.Advisory.b v1.Advisory.b) || ((sEq v0.Advisory.b v1.Advisory.b) && (sLt v0.Component.b v1.Component.b)))
noncomputable def ref11_exposuresFault (v0 : List T_api_Exposure) : Option Int :=
  if (decide ((v0.length : Int) > 500)) = true then (some 3) else (seqK (forL (σ := Unit) (τ := Unit) v0 (fun i1 x4 _ => Option.bind (ref11_isName x4.Advisory) fun y18 => Option.bind (gOr (!y18) (Option.bind (ref11_isName x4.Component) fun y20 => some (!y20))) fun b22 => if b22 = true then (some (.ret 8)) else (if ((decide (x4.Severity < 0)) || (decide (x4.Severity > 100))) = true then (some (.ret 9)) else (Option.bind (gAnd (decide ((i1 : Int) > 0)) (Option.bind (idx v0 (w64 ((i1 : Int) - 1))) fun x28 => Option.bind (ref11_before x28 x4) fun y30 => some (!y30))) fun b32 => if b32 = true then (some (.ret 10)) else (some (.next ()))))) (fun _ => ()) ()) fun _ => some 0)
noncomputable def history_isRun (v0 : Str) : Option Bool :=
  seqK (forN (σ := Unit) (τ := Unit) (fun i1 _ => Option.bind (sidx v0.b (i1 : Int)) fun c8 => if ((decide (c8 < 33)) || (decide (c8 > 126))) = true then (some (.ret false)) else (some (.next ()))) (fun _ => ()) v0.b.size 0 ()) fun _ => some (!(sEq v0.b str_.b))
noncomputable def history_isName (v0 : Str) : Option Bool :=
  Option.bind (history_isRun v0) fun y1 => some (y1 && (decide ((v0.b.size : Int) ≤ 100)))
noncomputable def history_isDay (v0 : Int) : Option Bool :=
  some ((decide (v0 ≥ 0)) && (decide (v0 ≤ 1000000)))
noncomputable def history_keyOf (v0 : T_api_Exposure) : Option T_history_key :=
  some (T_history_key.mk v0.Advisory v0.Component)
noncomputable def cmp_isNaN_string (v0 : Str) : Option Bool :=
  some (!(sEq v0.b v0.b))
noncomputable def cmp_Compare_string (v0 : Str) (v1 : Str) : Option Int :=
  Option.bind (cmp_isNaN_string v0) fun y1 => Option.bind (cmp_isNaN_string v1) fun y3 => if y1 = true then (if y3 = true then (some 0) else (some (-1))) else (if y3 = true then (some 1) else (if (sLt v0.b v1.b) = true then (some (-1)) else (if (!(sLt v0.b v1.b || sEq v0.b v1.b)) = true then (some 1) else (some 0))))
noncomputable def cmp_Or_int (v0 : List Int) : Option Int :=
  seqK (forL (σ := Unit) (τ := Unit) v0 (fun _ x4 _ => if (x4 != 0) = true then (some (.ret x4)) else (some (.next ()))) (fun _ => ()) ()) fun _ => some 0
noncomputable def history_orderKeys (v0 : T_history_key) (v1 : T_history_key) : Option Int :=
  Option.bind (cmp_Compare_string v0.advisory v1.advisory) fun y1 => Option.bind (cmp_Compare_string v0.component v1.component) fun y3 => Option.bind (cmp_Or_int [y1, y3]) fun y5 => some y5
noncomputable def history_checkExposures (v0 : List T_api_Exposure) : Option Int :=
  if (decide ((v0.length : Int) > 500)) = true then (some 3) else (seqK (forL (σ := Unit) (τ := Unit) v0 (fun i1 x4 _ => Option.bind (history_isName x4.Advisory) fun y22 => Option.bind (gOr (!y22) (Option.bind (history_isName x4.Component) fun y24 => some (!y24))) fun b26 => if b26 = true then (some (.ret 8)) else (if ((decide (x4.Severity < 0)) || (decide (x4.Severity > 100))) = true then (some (.ret 9)) else (Option.bind (gAnd (decide ((i1 : Int) > 0)) (Option.bind (idx v0 (w64 ((i1 : Int) - 1))) fun x32 => Option.bind (history_keyOf x32) fun y34 => Option.bind (history_keyOf x4) fun y36 => Option.bind (history_orderKeys y34 y36) fun y38 => some (decide (y38 ≥ 0)))) fun b40 => if b40 = true then (some (.ret 10)) else (some (.next ()))))) (fun _ => ()) ()) fun _ => some 0)
noncomputable def slices_Equal_Exposure_Exposure (v0 : List T_api_Exposure) (v1 : List T_api_Exposure) : Option Bool :=
  if ((v0.length : Int) != (v1.length : Int)) = true then (some false) else (seqK (forL (σ := Unit) (τ := Unit) v0 (fun i1 x4 _ => Option.bind (idx v1 (i1 : Int)) fun x8 => if (!(sEq x4.Advisory.b x8.Advisory.b && (sEq x4.Component.b x8.Component.b && (x4.Severity == x8.Severity)))) = true then (some (.ret false)) else (some (.next ()))) (fun _ => ()) ()) fun _ => some true)
noncomputable def law11_told : Option Bool := some true
end Go.Abs
