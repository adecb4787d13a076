/- How the arguments of these laws are read (printed by a program of this repo). -/
import Derived.Test.YtjjhmldeammecaaFHd
import Derived.Test.YtjjhmldeammecaaPB
namespace Go.Proofs.Ytjjhmldeammecaa
open Go Go.Abs Go.ChangeShapes Go.WideShapes Go.ChangeAt Go.RowKit
set_option maxRecDepth 100000
namespace Base
theorem shp_24 {n : Nat} {pv : List PV} (h : Shp Try.prog n 24 pv) : ∃ x : T_api_Calendar, pv = T_api_Calendar.c x := by
  obtain ⟨m, h⟩ := shp_struct Try.underlying24 h
  simp only [List.map_cons, List.map_nil, ShpAll] at h
  obtain ⟨q0, r0, rfl, h0, q1, r1, rfl, h1, rfl⟩ := h
  obtain ⟨x0, rfl, _, _⟩ := shp_slice (f := cI) (Q := fun _ => True) Try.underlying22 (fun _ _ h => let ⟨z, _, e⟩ := shp_int Try.underlying3 h; ⟨z, trivial, e⟩) h0
  obtain ⟨x1, rfl, _, _⟩ := shp_slice (f := cI) (Q := fun _ => True) Try.underlying22 (fun _ _ h => let ⟨z, _, e⟩ := shp_int Try.underlying3 h; ⟨z, trivial, e⟩) h1
  exact ⟨⟨x0, x1⟩, rfl⟩
theorem types_24 : plainB Try.prog [24, 3, 22] = true := by kernel_rfl
abbrev P_24 (x : T_api_Calendar) : PV := .agg (T_api_Calendar.c x)
theorem arg_24 {H : Type} {enc : TypeId × Value → H} {W : World} {base : Nat} {v : Value} {d : DataW H} {ps : List MemPlace} (hv : Value.okWide Try.prog W .any base 24 v) (h : DataW.Trod enc Try.prog W 0 (fun _ => true) true 24 v d ps) : ∃ x : T_api_Calendar, PRep (ofW W) (P_24 x) v := by
  obtain ⟨n, pv, h1, h2⟩ := arg_struct kids types_24 (by simp) Try.underlying24 hv h
  obtain ⟨x, rfl⟩ := shp_24 h1
  exact ⟨x, h2⟩
theorem shp_112 {n : Nat} {pv : List PV} (h : Shp Try.prog n 112 pv) : ∃ x : T_api_Term, pv = T_api_Term.c x := by
  obtain ⟨m, h⟩ := shp_struct Try.underlying112 h
  simp only [List.map_cons, List.map_nil, ShpAll] at h
  obtain ⟨q0, r0, rfl, h0, q1, r1, rfl, h1, rfl⟩ := h
  obtain ⟨x0, _, rfl⟩ := shp_int Try.underlying3 h0
  obtain ⟨x1, _, rfl⟩ := shp_int Try.underlying3 h1
  exact ⟨⟨x0, x1⟩, rfl⟩
theorem types_33 : plainB Try.prog [33, 3, 112] = true := by kernel_rfl
abbrev P_33 (x : List T_api_Term) : PV := .sl (x.map T_api_Term.c)
theorem arg_33 {H : Type} {enc : TypeId × Value → H} {W : World} {base : Nat} {v : Value} {d : DataW H} {ps : List MemPlace} (hv : Value.okWide Try.prog W .any base 33 v) (h : DataW.Trod enc Try.prog W 0 (fun _ => true) true 33 v d ps) : ∃ x : List T_api_Term, PRep (ofW W) (P_33 x) v := by
  obtain ⟨n, y, h1, h2⟩ := arg_slice kids types_33 (by simp) Try.underlying33 hv h
  obtain ⟨x, e, _, _⟩ := shp_slice (f := T_api_Term.c) (Q := fun _ => True) Try.underlying33 (fun _ _ h => let ⟨z, e⟩ := shp_112 h; ⟨z, trivial, e⟩) h1
  cases e
  exact ⟨x, h2⟩
theorem shp_35 {n : Nat} {pv : List PV} (h : Shp Try.prog n 35 pv) : ∃ x : T_api_Window, pv = T_api_Window.c x := by
  obtain ⟨m, h⟩ := shp_struct Try.underlying35 h
  simp only [List.map_cons, List.map_nil, ShpAll] at h
  obtain ⟨q0, r0, rfl, h0, q1, r1, rfl, h1, q2, r2, rfl, h2, q3, r3, rfl, h3, q4, r4, rfl, h4, q5, r5, rfl, h5, rfl⟩ := h
  obtain ⟨x0, s0, rfl⟩ := shp_str Try.underlying9 h0
  obtain ⟨x1, s1, rfl⟩ := shp_str Try.underlying9 h1
  obtain ⟨x2, _, rfl⟩ := shp_int Try.underlying3 h2
  obtain ⟨x3, _, rfl⟩ := shp_int Try.underlying3 h3
  obtain ⟨x4, _, rfl⟩ := shp_int Try.underlying3 h4
  obtain ⟨x5, rfl⟩ := shp_bool Try.underlying4 h5
  exact ⟨⟨⟨x0, strLim s0⟩, ⟨x1, strLim s1⟩, x2, x3, x4, x5⟩, rfl⟩
theorem types_35 : plainB Try.prog [35, 3, 4, 9] = true := by kernel_rfl
abbrev P_35 (x : T_api_Window) : PV := .agg (T_api_Window.c x)
theorem arg_35 {H : Type} {enc : TypeId × Value → H} {W : World} {base : Nat} {v : Value} {d : DataW H} {ps : List MemPlace} (hv : Value.okWide Try.prog W .any base 35 v) (h : DataW.Trod enc Try.prog W 0 (fun _ => true) true 35 v d ps) : ∃ x : T_api_Window, PRep (ofW W) (P_35 x) v := by
  obtain ⟨n, pv, h1, h2⟩ := arg_struct kids types_35 (by simp) Try.underlying35 hv h
  obtain ⟨x, rfl⟩ := shp_35 h1
  exact ⟨x, h2⟩
end Base
end Go.Proofs.Ytjjhmldeammecaa
