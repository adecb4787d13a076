/- Plain functions (printed by a program of this repo out of the loaded Go functions). -/
import Derived.Test.YtjjhmldeammecaaFHc
import Derived.Test.YtjjhmldeammecaaA26
-- base: Hc
namespace Go.Abs
open Go
set_option maxRecDepth 8000
structure T_api_Term where
  Severity : Int
  Days : Int
def T_api_Term.c (x : T_api_Term) : List PV := [vi x.Severity, vi x.Days]
theorem T_api_Term.w : Wide 2 T_api_Term.c := ⟨fun _ => rfl, fun _ => rfl, fun x => by simp only [T_api_Term.c, nzPs, nzP]⟩
theorem T_api_Term.r (l : List T_api_Term) : (∀ r ∈ l.map T_api_Term.c, r.length = 2 ∧ r.all PV.single = true) = True := T_api_Term.w.rows l
theorem T_api_Term.r1 (l : List T_api_Term) : (∀ r ∈ l.map T_api_Term.c, r.length = 2) = True := T_api_Term.w.rowl l
theorem T_api_Term.n (l : List T_api_Term) : nzPss (l.map T_api_Term.c) = l.map T_api_Term.c := T_api_Term.w.nzs l
attribute [go_sem] T_api_Term.c T_api_Term.r T_api_Term.r1 T_api_Term.n
structure T_api_Calendar where
  Free : List Int
  Holidays : List Int
def T_api_Calendar.c (x : T_api_Calendar) : List PV := [.sl (x.Free.map cI), .sl (x.Holidays.map cI)]
theorem T_api_Calendar.w : Wide 2 T_api_Calendar.c := ⟨fun _ => rfl, fun _ => rfl, fun x => by simp only [T_api_Calendar.c, nzPs, nzP, wI.nzs]⟩
theorem T_api_Calendar.r (l : List T_api_Calendar) : (∀ r ∈ l.map T_api_Calendar.c, r.length = 2 ∧ r.all PV.single = true) = True := T_api_Calendar.w.rows l
theorem T_api_Calendar.r1 (l : List T_api_Calendar) : (∀ r ∈ l.map T_api_Calendar.c, r.length = 2) = True := T_api_Calendar.w.rowl l
theorem T_api_Calendar.n (l : List T_api_Calendar) : nzPss (l.map T_api_Calendar.c) = l.map T_api_Calendar.c := T_api_Calendar.w.nzs l
attribute [go_sem] T_api_Calendar.c T_api_Calendar.r T_api_Calendar.r1 T_api_Calendar.n
structure T_api_Window where
  Advisory : Str
  Component : Str
  Severity : Int
  From : Int
  To : Int
  Open : Bool
def T_api_Window.c (x : T_api_Window) : List PV := [vs x.Advisory.b, vs x.Component.b, vi x.Severity, vi x.From, vi x.To, vb x.Open]
theorem T_api_Window.w : Wide 6 T_api_Window.c := ⟨fun _ => rfl, fun _ => rfl, fun x => by simp only [T_api_Window.c, nzPs, nzP]⟩
theorem T_api_Window.r (l : List T_api_Window) : (∀ r ∈ l.map T_api_Window.c, r.length = 6 ∧ r.all PV.single = true) = True := T_api_Window.w.rows l
theorem T_api_Window.r1 (l : List T_api_Window) : (∀ r ∈ l.map T_api_Window.c, r.length = 6) = True := T_api_Window.w.rowl l
theorem T_api_Window.n (l : List T_api_Window) : nzPss (l.map T_api_Window.c) = l.map T_api_Window.c := T_api_Window.w.nzs l
attribute [go_sem] T_api_Window.c T_api_Window.r T_api_Window.r1 T_api_Window.n
structure T_ref11_calendar where
  fr : List Int
  hol : List Int
def T_ref11_calendar.c (w : T_ref11_calendar) : List PV := ((List.range 7).map fun (i : Nat) => decide ((i : Int) ∈ w.fr)).map vb ++ [.mp (w.hol.map fun d => (vi d, vb true))]
theorem T_ref11_calendar.m : ∀ (l : List Int), nzPm (l.map fun d => (vi d, vb true)) = l.map fun d => (vi d, vb true)
  | [] => rfl
  | x :: l => by simp only [List.map_cons, nzPm, nzP, T_ref11_calendar.m l]
theorem T_ref11_calendar.w : Wide 8 T_ref11_calendar.c := ⟨fun _ => by simp [T_ref11_calendar.c], fun _ => by simp [T_ref11_calendar.c, PV.single, flat], fun x => by simp [T_ref11_calendar.c, List.range, List.range.loop, nzPs, nzP, T_ref11_calendar.m]⟩
theorem T_ref11_calendar.l (w : T_ref11_calendar) : (T_ref11_calendar.c w).length = 8 := T_ref11_calendar.w.len w
theorem T_ref11_calendar.o (w : T_ref11_calendar) : (T_ref11_calendar.c w).all PV.single = true := T_ref11_calendar.w.one w
theorem T_ref11_calendar.t (w : T_ref11_calendar) : List.take 8 ((T_ref11_calendar.c w).map AV.p) = (T_ref11_calendar.c w).map AV.p := List.take_of_length_le (by simp [T_ref11_calendar.l])
theorem T_ref11_calendar.z (w : T_ref11_calendar) : nzPs (T_ref11_calendar.c w) = T_ref11_calendar.c w := T_ref11_calendar.w.nz w
attribute [go_sem] T_ref11_calendar.l T_ref11_calendar.o T_ref11_calendar.t T_ref11_calendar.z
structure T_history_week where
  fr : List Int
  hol : List Int
def T_history_week.c (w : T_history_week) : List PV := ((List.range 7).map fun (i : Nat) => decide ((i : Int) ∈ w.fr)).map vb ++ [vi (7 - w.fr.length), .sl ((w.hol.filter (fun d => !decide (d.tmod 7 ∈ w.fr))).map cI)]
theorem T_history_week.w : Wide 9 T_history_week.c := ⟨fun _ => by simp [T_history_week.c], fun _ => by simp [T_history_week.c, PV.single, flat], fun x => by simp [T_history_week.c, List.range, List.range.loop, nzPs, nzP, nI]⟩
theorem T_history_week.l (w : T_history_week) : (T_history_week.c w).length = 9 := T_history_week.w.len w
theorem T_history_week.o (w : T_history_week) : (T_history_week.c w).all PV.single = true := T_history_week.w.one w
theorem T_history_week.t (w : T_history_week) : List.take 9 ((T_history_week.c w).map AV.p) = (T_history_week.c w).map AV.p := List.take_of_length_le (by simp [T_history_week.l])
theorem T_history_week.z (w : T_history_week) : nzPs (T_history_week.c w) = T_history_week.c w := T_history_week.w.nz w
attribute [go_sem] T_history_week.l T_history_week.o T_history_week.t T_history_week.z
def ref11_CheckCalendar (v0 : T_api_Calendar) : Option Int := some (calFault v0.Free v0.Holidays)
noncomputable def ref11_CheckTerms (v0 : List T_api_Term) : Option Int :=
  if ((v0.length : Int) == 0) = true then (some 13) else (if (decide ((v0.length : Int) > 10)) = true then (some 3) else (seqK (forL (σ := Unit) (τ := Unit) v0 (fun i1 x4 _ => if ((((decide (x4.Severity < 0)) || (decide (x4.Severity > 100))) || (decide (x4.Days < 0))) || (decide (x4.Days > 10000))) = true then (some (.ret 9)) else (Option.bind (gAnd (decide ((i1 : Int) > 0)) (Option.bind (idx v0 (w64 ((i1 : Int) - 1))) fun x13 => some (decide (x4.Severity ≤ x13.Severity)))) fun b15 => if b15 = true then (some (.ret 10)) else (some (.next ())))) (fun _ => ()) ()) fun _ => some 0))
noncomputable def ref11_term (v0 : List T_api_Term) (v1 : Int) : Option (T_api_Term × Bool) :=
  seqK (forL (σ := Bool × Int × Int) (τ := Bool × Int × Int) v0 (fun _ x4 (b5, n6, n7) => if (decide (x4.Severity ≤ v1)) = true then (some (.next (true, x4.Severity, x4.Days))) else (some (.next (b5, n6, n7)))) (fun (b5, n6, n7) => (b5, n6, n7)) (false, 0, 0)) fun (b8, n9, n10) => some ((T_api_Term.mk n9 n10), b8)
def ref11_calendarOf (v0 : T_api_Calendar) : Option T_ref11_calendar := if calFault v0.Free v0.Holidays = 0 then some (T_ref11_calendar.mk v0.Free v0.Holidays) else none
def ref11_calendar_add (v0 : T_ref11_calendar) (v1 v2 : Int) : Option (Int × Bool) := if 0 ≤ v1 ∧ v1 ≤ 1000000 ∧ 0 ≤ v2 ∧ v2 ≤ 1000000 then some (v1 + addK v0.fr v0.hol v1 v2, decide (v2 ≤ (cw v0.fr v0.hol v1 (addK v0.fr v0.hol v1 v2) : Int) ∧ v1 + addK v0.fr v0.hol v1 v2 ≤ 1000000)) else none
noncomputable def ref11_Due (v0 : T_api_Calendar) (v1 : List T_api_Term) (v2 : T_api_Window) : Option (Int × Bool × Int) :=
  Option.bind (ref11_CheckCalendar v0) fun y1 => if (y1 != 0) = true then (some (0, false, y1)) else (Option.bind (ref11_CheckTerms v1) fun y3 => if (y3 != 0) = true then (some (0, false, y3)) else (Option.bind (gOr ((decide (v2.Severity < 0)) || (decide (v2.Severity > 100))) (Option.bind (ref11_isDay v2.From) fun y5 => some (!y5))) fun b7 => if b7 = true then (some (0, false, 9)) else (Option.bind (ref11_term v1 v2.Severity) fun (y13, y14) => if (!y14) = true then (some (0, false, 0)) else (Option.bind (ref11_calendarOf v0) fun y16 => Option.bind (ref11_calendar_add y16 v2.From y13.Days) fun (y18, y19) => if (!y19) = true then (some (0, false, 3)) else (some (y18, true, 0))))))
def history_CheckCalendar (v0 : T_api_Calendar) : Option Int := some (calFault v0.Free v0.Holidays)
noncomputable def history_CheckTerms (v0 : List T_api_Term) : Option Int :=
  if ((v0.length : Int) == 0) = true then (some 13) else (if (decide ((v0.length : Int) > 10)) = true then (some 3) else (seqK (forL (σ := Unit) (τ := Unit) v0 (fun i1 x4 _ => if ((((decide (x4.Severity < 0)) || (decide (x4.Severity > 100))) || (decide (x4.Days < 0))) || (decide (x4.Days > 10000))) = true then (some (.ret 9)) else (Option.bind (gAnd (decide ((i1 : Int) > 0)) (Option.bind (idx v0 (w64 ((i1 : Int) - 1))) fun x13 => some (decide (x4.Severity ≤ x13.Severity)))) fun b15 => if b15 = true then (some (.ret 10)) else (some (.next ())))) (fun _ => ()) ()) fun _ => some 0))
def history_weekOf (v0 : T_api_Calendar) : Option T_history_week := if calFault v0.Free v0.Holidays = 0 then some (T_history_week.mk v0.Free v0.Holidays) else none
def history_week_add (v0 : T_history_week) (v1 v2 : Int) : Option (Int × Bool) := if calFault v0.fr v0.hol = 0 ∧ 0 ≤ v1 ∧ v1 ≤ 1000000 ∧ 0 ≤ v2 ∧ v2 ≤ 1000000 then some (v1 + addK v0.fr v0.hol v1 v2, decide (v1 + addK v0.fr v0.hol v1 v2 ≤ 1000000)) else none
noncomputable def history_week_due (v0 : T_history_week) (v1 : List T_api_Term) (v2 : T_api_Window) : Option (Int × Bool × Int) :=
  seqK (forL (σ := Int) (τ := Int) v1 (fun _ x4 n5 => if (decide (x4.Severity ≤ v2.Severity)) = true then (some (.next x4.Days)) else (some (.next n5))) (fun n5 => n5) (-1)) fun n6 => if (decide (n6 < 0)) = true then (some (0, false, 0)) else (Option.bind (history_week_add v0 v2.From n6) fun (y8, y9) => if (!y9) = true then (some (0, false, 3)) else (some (y8, true, 0)))
noncomputable def history_Due (v0 : T_api_Calendar) (v1 : List T_api_Term) (v2 : T_api_Window) : Option (Int × Bool × Int) :=
  Option.bind (history_CheckCalendar v0) fun y1 => if (y1 != 0) = true then (some (0, false, y1)) else (Option.bind (history_CheckTerms v1) fun y3 => if (y3 != 0) = true then (some (0, false, y3)) else (Option.bind (gOr ((decide (v2.Severity < 0)) || (decide (v2.Severity > 100))) (Option.bind (history_isDay v2.From) fun y5 => some (!y5))) fun b7 => if b7 = true then (some (0, false, 9)) else (Option.bind (history_weekOf v0) fun y13 => Option.bind (history_week_due y13 v1 v2) fun (y15, y16, y17) => some (y15, y16, y17))))
noncomputable def law11_HistoryDueMatchesSpec (v0 : T_api_Calendar) (v1 : List T_api_Term) (v2 : T_api_Window) : Option Bool :=
  Option.bind (ref11_Due v0 v1 v2) fun (y1, y2, y3) => Option.bind (history_Due v0 v1 v2) fun (y5, y6, y7) => Option.bind (ref11_CheckTerms v1) fun y9 => Option.bind (history_CheckTerms v1) fun y11 => Option.bind (gAnd ((((y9 == y11) && (y5 == y1)) && (y6 == y2)) && (y7 == y3)) (Option.bind (law11_told) fun y13 => some y13)) fun b15 => some b15
end Go.Abs
