/- How the arguments of these laws are read (printed by a program of this repo). -/
import Derived.Test.YtjjhmldeammecaaFHc
import Derived.Test.YtjjhmldeammecaaPB
namespace Go.Proofs.Ytjjhmldeammecaa
open Go Go.Abs Go.ChangeShapes Go.WideShapes Go.ChangeAt Go.RowKit
set_option maxRecDepth 100000
namespace Base
theorem shp_47 {n : Nat} {pv : List PV} (h : Shp Try.prog n 47 pv) : ∃ x : T_api_Exposure, pv = T_api_Exposure.c x := by
  obtain ⟨m, h⟩ := shp_struct Try.underlying47 h
  simp only [List.map_cons, List.map_nil, ShpAll] at h
  obtain ⟨q0, r0, rfl, h0, q1, r1, rfl, h1, q2, r2, rfl, h2, rfl⟩ := h
  obtain ⟨x0, s0, rfl⟩ := shp_str Try.underlying9 h0
  obtain ⟨x1, s1, rfl⟩ := shp_str Try.underlying9 h1
  obtain ⟨x2, _, rfl⟩ := shp_int Try.underlying3 h2
  exact ⟨⟨⟨x0, strLim s0⟩, ⟨x1, strLim s1⟩, x2⟩, rfl⟩
theorem shp_42 {n : Nat} {pv : List PV} (h : Shp Try.prog n 42 pv) : ∃ x : T_api_Release, pv = T_api_Release.c x := by
  obtain ⟨m, h⟩ := shp_struct Try.underlying42 h
  simp only [List.map_cons, List.map_nil, ShpAll] at h
  obtain ⟨q0, r0, rfl, h0, q1, r1, rfl, h1, q2, r2, rfl, h2, rfl⟩ := h
  obtain ⟨x0, s0, rfl⟩ := shp_str Try.underlying9 h0
  obtain ⟨x1, _, rfl⟩ := shp_int Try.underlying3 h1
  obtain ⟨x2, rfl, _, _⟩ := shp_slice (f := T_api_Exposure.c) (Q := fun _ => True) Try.underlying40 (fun _ _ h => let ⟨z, e⟩ := shp_47 h; ⟨z, trivial, e⟩) h2
  exact ⟨⟨⟨x0, strLim s0⟩, x1, x2⟩, rfl⟩
theorem types_42 : plainB Try.prog [42, 3, 9, 40, 47] = true := by kernel_rfl
abbrev P_42 (x : T_api_Release) : PV := .agg (T_api_Release.c x)
theorem arg_42 {H : Type} {enc : TypeId × Value → H} {W : World} {base : Nat} {v : Value} {d : DataW H} {ps : List MemPlace} (hv : Value.okWide Try.prog W .any base 42 v) (h : DataW.Trod enc Try.prog W 0 (fun _ => true) true 42 v d ps) : ∃ x : T_api_Release, PRep (ofW W) (P_42 x) v := by
  obtain ⟨n, pv, h1, h2⟩ := arg_struct kids types_42 (by simp) Try.underlying42 hv h
  obtain ⟨x, rfl⟩ := shp_42 h1
  exact ⟨x, h2⟩
end Base
end Go.Proofs.Ytjjhmldeammecaa
