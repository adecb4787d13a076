/- Plain functions (printed by a program of this repo out of the loaded Go functions). -/
import Derived.Test.YtjjhmldeammecaaFHc
import Derived.Test.YtjjhmldeammecaaM3
-- base: Hc
namespace Go.Abs
open Go
set_option maxRecDepth 8000
structure T_api_Window where
  Advisory : Str
  Component : Str
  Severity : Int
  From : Int
  To : Int
  Open : Bool
def T_api_Window.c (x : T_api_Window) : List PV := [vs x.Advisory.b, vs x.Component.b, vi x.Severity, vi x.From, vi x.To, vb x.Open]
theorem T_api_Window.w : Wide 6 T_api_Window.c := ⟨fun _ => rfl, fun _ => rfl, fun x => by simp only [T_api_Window.c, nzPs, nzP]⟩
theorem T_api_Window.r (l : List T_api_Window) : (∀ r ∈ l.map T_api_Window.c, r.length = 6 ∧ r.all PV.single = true) = True := T_api_Window.w.rows l
theorem T_api_Window.r1 (l : List T_api_Window) : (∀ r ∈ l.map T_api_Window.c, r.length = 6) = True := T_api_Window.w.rowl l
theorem T_api_Window.n (l : List T_api_Window) : nzPss (l.map T_api_Window.c) = l.map T_api_Window.c := T_api_Window.w.nzs l
attribute [go_sem] T_api_Window.c T_api_Window.r T_api_Window.r1 T_api_Window.n
end Go.Abs
