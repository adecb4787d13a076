/-
  The law HistoryDaysMatchSpec: for every input it answers true and leaves its arguments as they were. No condition.
-/
import Derived.Test.YtjjhmldeammecaaW7
import Derived.Test.YtjjhmldeammecaaA21
import Derived.Test.YtjjhmldeammecaaRows
import Derived.WalkKit
import Derived.ProofKit
import Derived.OpenShut
namespace Go.Proofs.Ytjjhmldeammecaa
open Go Go.Abs Go.ChangeShapes Go.WideShapes Go.ChangeAt Go.RowKit

set_option maxRecDepth 100000
namespace Base
theorem own : ownKnob Try.prog.godebug = none := by kernel_rfl
theorem laidOut : laidOutB Try.prog = true := by kernel_rfl
theorem mapsRow : mapsRowed Try.prog = true := by kernel_rfl
theorem kids : Kids Try.prog (· < Try.prog.types.size) := kids_rows laidOut mapsRow
theorem sized : sizedB Try.prog (List.range Try.prog.types.size) = true := by kernel_rfl
theorem sized' {t e : TypeId} (ht : t < Try.prog.types.size) (hu : Try.prog.underlying t = some (.slice e)) : 0 < Try.prog.cellsOf e := by
  have := List.all_eq_true.1 sized t (by simpa using ht)
  rw [hu] at this
  simpa using this
theorem wf64 {z : Int} (h : (Lit.int .i64 z).wf = true) : -9223372036854775808 ≤ z ∧ z ≤ 9223372036854775807 := by
  simpa [Lit.wf, IntKind.min, IntKind.max, IntKind.signed, IntKind.bits] using h

theorem shp_ints {n : Nat} {pv : List PV} (h : Shp Try.prog n 22 pv) : ∃ l : List Int, pv = [ints l] ∧ l.length ≤ top ∧ ∀ z ∈ l, (Lit.int .i64 z).wf = true :=
  shp_slice (f := fun x => [vi x]) Try.underlying22 (fun _ _ h => shp_int Try.underlying3 h) h
theorem shp_cal {n : Nat} {pv : List PV} (h : Shp Try.prog n 24 pv) : ∃ fr hol : List Int, pv = [ints fr, ints hol] := by
  obtain ⟨m, h⟩ := shp_struct Try.underlying24 h
  simp only [List.map_cons, List.map_nil, ShpAll] at h
  obtain ⟨a, b, rfl, h1, c, d, rfl, h2, rfl⟩ := h
  obtain ⟨fr, rfl, _, _⟩ := shp_ints h1
  obtain ⟨hol, rfl, _, _⟩ := shp_ints h2
  exact ⟨fr, hol, rfl⟩
theorem calTypes : plainB Try.prog [24, 22, 3] = true := by kernel_rfl
theorem arg_cal {H : Type} {enc : TypeId × Value → H} {W : World} {base : Nat} {v : Value} {d : DataW H} {ps : List MemPlace} (hv : Value.okWide Try.prog W .any base 24 v) (h : DataW.Trod enc Try.prog W 0 (fun _ => true) true 24 v d ps) :
    ∃ fr hol, PRep (ofW W) (calP fr hol) v := by
  obtain ⟨n, pv, h1, h2⟩ := arg_struct kids calTypes (by simp) Try.underlying24 hv h
  obtain ⟨fr, hol, rfl⟩ := shp_cal h1
  exact ⟨fr, hol, h2⟩
end Base

namespace days
theorem contract (H : Type) (enc : TypeId × Value → H) (W : World) (base : Nat) (args : Array Value) (ds gs : List (DataW H)) (before : List MemPlace)
    (hval : ∀ (j : Nat) t v, Try.f3.params[j]? = some t → args[j]? = some v → Value.okWide Try.prog W .any base t v)
    (hW : DataW.Whole enc Try.prog Try.f3.params.toList Rows.historyDaysMatchSpecSpec.vars false W args.toList ds gs before) :
    Calls Try.prog 3 args W fun e W' => ∃ v, e = .returned v ∧ Rows.historyDaysMatchSpecSpec.post enc Try.prog Try.f3 false true false false W args v W' := by
  have hW' := hW
  obtain ⟨p, q, hA0, hV, rfl, hfz, hnd⟩ := hW
  have hA : DataW.TrodAll enc Try.prog W 0 (fun _ => true) true Try.f3.params.toList args.toList ds p := hA0
  rw [Try.params3] at hA hval
  obtain ⟨v0, vs0, d0, ds0, p0, q0, hargs, rfl, rfl, h0, r0⟩ := trodAll_cons hA
  obtain ⟨v1, vs1, d1, ds1, p1, q1, rfl, rfl, rfl, h1, r1⟩ := trodAll_cons r0
  obtain ⟨v2, vs2, d2, ds2, p2, q2, rfl, rfl, rfl, h2, r2⟩ := trodAll_cons r1
  obtain ⟨v3, vs3, d3, ds3, p3, q3, rfl, rfl, rfl, h3, r3⟩ := trodAll_cons r2
  obtain ⟨rfl, rfl, rfl⟩ := trodAll_nil r3
  obtain rfl : args = #[v0, v1, v2, v3] := by cases args; simp_all
  obtain ⟨fr, hol, hp0⟩ := Base.arg_cal (hval 0 24 v0 rfl rfl) h0
  obtain ⟨a1, rfl, _, _, w1⟩ := open_int Try.underlying3 (hval 1 3 v1 rfl rfl) h1
  obtain ⟨a2, rfl, _, _, w2⟩ := open_int Try.underlying3 (hval 2 3 v2 rfl rfl) h2
  obtain ⟨a3, rfl, _, _, w3⟩ := open_int Try.underlying3 (hval 3 3 v3 rfl rfl) h3
  refine law_post Base.kids Base.sized' hW' (by decide +kernel) rfl rfl (rt := 4) (by kernel_rfl) Try.underlying4 (xs := [.p (calP fr hol), .p (vi a1), .p (vi a2), .p (vi a3)]) ?_ (days3 fr hol a1 a2 a3)
  simp only [ARepL, ARep]
  exact ⟨v0, _, rfl, hp0, _, _, rfl, by simp [PRep], _, _, rfl, by simp [PRep], _, _, rfl, by simp [PRep], rfl⟩

end days
end Go.Proofs.Ytjjhmldeammecaa
