/- Plain functions (printed by a program of this repo out of the loaded Go functions). -/
import Derived.Test.YtjjhmldeammecaaFHc
import Derived.Test.YtjjhmldeammecaaM3
-- base: Hc
namespace Go.Abs
open Go
set_option maxRecDepth 8000
structure T_api_Term where
  Severity : Int
  Days : Int
def T_api_Term.c (x : T_api_Term) : List PV := [vi x.Severity, vi x.Days]
theorem T_api_Term.w : Wide 2 T_api_Term.c := ⟨fun _ => rfl, fun _ => rfl, fun x => by simp only [T_api_Term.c, nzPs, nzP]⟩
theorem T_api_Term.r (l : List T_api_Term) : (∀ r ∈ l.map T_api_Term.c, r.length = 2 ∧ r.all PV.single = true) = True := T_api_Term.w.rows l
theorem T_api_Term.r1 (l : List T_api_Term) : (∀ r ∈ l.map T_api_Term.c, r.length = 2) = True := T_api_Term.w.rowl l
theorem T_api_Term.n (l : List T_api_Term) : nzPss (l.map T_api_Term.c) = l.map T_api_Term.c := T_api_Term.w.nzs l
attribute [go_sem] T_api_Term.c T_api_Term.r T_api_Term.r1 T_api_Term.n
structure T_api_Calendar where
  Free : List Int
  Holidays : List Int
def T_api_Calendar.c (x : T_api_Calendar) : List PV := [.sl (x.Free.map cI), .sl (x.Holidays.map cI)]
theorem T_api_Calendar.w : Wide 2 T_api_Calendar.c := ⟨fun _ => rfl, fun _ => rfl, fun x => by simp only [T_api_Calendar.c, nzPs, nzP, wI.nzs]⟩
theorem T_api_Calendar.r (l : List T_api_Calendar) : (∀ r ∈ l.map T_api_Calendar.c, r.length = 2 ∧ r.all PV.single = true) = True := T_api_Calendar.w.rows l
theorem T_api_Calendar.r1 (l : List T_api_Calendar) : (∀ r ∈ l.map T_api_Calendar.c, r.length = 2) = True := T_api_Calendar.w.rowl l
theorem T_api_Calendar.n (l : List T_api_Calendar) : nzPss (l.map T_api_Calendar.c) = l.map T_api_Calendar.c := T_api_Calendar.w.nzs l
attribute [go_sem] T_api_Calendar.c T_api_Calendar.r T_api_Calendar.r1 T_api_Calendar.n
structure T_api_Window where
  Advisory : Str
  Component : Str
  Severity : Int
  From : Int
  To : Int
  Open : Bool
def T_api_Window.c (x : T_api_Window) : List PV := [vs x.Advisory.b, vs x.Component.b, vi x.Severity, vi x.From, vi x.To, vb x.Open]
theorem T_api_Window.w : Wide 6 T_api_Window.c := ⟨fun _ => rfl, fun _ => rfl, fun x => by simp only [T_api_Window.c, nzPs, nzP]⟩
theorem T_api_Window.r (l : List T_api_Window) : (∀ r ∈ l.map T_api_Window.c, r.length = 6 ∧ r.all PV.single = true) = True := T_api_Window.w.rows l
theorem T_api_Window.r1 (l : List T_api_Window) : (∀ r ∈ l.map T_api_Window.c, r.length = 6) = True := T_api_Window.w.rowl l
theorem T_api_Window.n (l : List T_api_Window) : nzPss (l.map T_api_Window.c) = l.map T_api_Window.c := T_api_Window.w.nzs l
attribute [go_sem] T_api_Window.c T_api_Window.r T_api_Window.r1 T_api_Window.n
structure T_ref11_calendar where
  fr : List Int
  hol : List Int
def T_ref11_calendar.c (w : T_ref11_calendar) : List PV := ((List.range 7).map fun (i : Nat) => decide ((i : Int) ∈ w.fr)).map vb ++ [.mp (w.hol.map fun d => (vi d, vb true))]
theorem T_ref11_calendar.m : ∀ (l : List Int), nzPm (l.map fun d => (vi d, vb true)) = l.map fun d => (vi d, vb true)
  | [] => rfl
  | x :: l => by simp only [List.map_cons, nzPm, nzP, T_ref11_calendar.m l]
theorem T_ref11_calendar.w : Wide 8 T_ref11_calendar.c := ⟨fun _ => by simp [T_ref11_calendar.c], fun _ => by simp [T_ref11_calendar.c, PV.single, flat], fun x => by simp [T_ref11_calendar.c, List.range, List.range.loop, nzPs, nzP, T_ref11_calendar.m]⟩
theorem T_ref11_calendar.l (w : T_ref11_calendar) : (T_ref11_calendar.c w).length = 8 := T_ref11_calendar.w.len w
theorem T_ref11_calendar.o (w : T_ref11_calendar) : (T_ref11_calendar.c w).all PV.single = true := T_ref11_calendar.w.one w
theorem T_ref11_calendar.t (w : T_ref11_calendar) : List.take 8 ((T_ref11_calendar.c w).map AV.p) = (T_ref11_calendar.c w).map AV.p := List.take_of_length_le (by simp [T_ref11_calendar.l])
theorem T_ref11_calendar.z (w : T_ref11_calendar) : nzPs (T_ref11_calendar.c w) = T_ref11_calendar.c w := T_ref11_calendar.w.nz w
attribute [go_sem] T_ref11_calendar.l T_ref11_calendar.o T_ref11_calendar.t T_ref11_calendar.z
structure T_history_week where
  fr : List Int
  hol : List Int
def T_history_week.c (w : T_history_week) : List PV := ((List.range 7).map fun (i : Nat) => decide ((i : Int) ∈ w.fr)).map vb ++ [vi (7 - w.fr.length), .sl ((w.hol.filter (fun d => !decide (d.tmod 7 ∈ w.fr))).map cI)]
theorem T_history_week.w : Wide 9 T_history_week.c := ⟨fun _ => by simp [T_history_week.c], fun _ => by simp [T_history_week.c, PV.single, flat], fun x => by simp [T_history_week.c, List.range, List.range.loop, nzPs, nzP, nI]⟩
theorem T_history_week.l (w : T_history_week) : (T_history_week.c w).length = 9 := T_history_week.w.len w
theorem T_history_week.o (w : T_history_week) : (T_history_week.c w).all PV.single = true := T_history_week.w.one w
theorem T_history_week.t (w : T_history_week) : List.take 9 ((T_history_week.c w).map AV.p) = (T_history_week.c w).map AV.p := List.take_of_length_le (by simp [T_history_week.l])
theorem T_history_week.z (w : T_history_week) : nzPs (T_history_week.c w) = T_history_week.c w := T_history_week.w.nz w
attribute [go_sem] T_history_week.l T_history_week.o T_history_week.t T_history_week.z
end Go.Abs
