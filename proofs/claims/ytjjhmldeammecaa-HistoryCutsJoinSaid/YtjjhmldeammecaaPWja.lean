/-
  The law HistoryCutsJoin: for every input it answers true and leaves its arguments as they were. No condition.
-/
import Derived.Test.YtjjhmldeammecaaGHub
import Derived.Test.YtjjhmldeammecaaSHu
import Derived.Test.YtjjhmldeammecaaXHu
import Derived.Test.YtjjhmldeammecaaPB
import Derived.Test.YtjjhmldeammecaaRows
namespace Go.Proofs.Ytjjhmldeammecaa
open Go Go.Abs Go.ChangeShapes Go.WideShapes Go.ChangeAt Go.RowKit
set_option maxRecDepth 100000
namespace cutjx
theorem contract (H : Type) (enc : TypeId × Value → H) (W : World) (base : Nat) (args : Array Value) (ds gs : List (DataW H)) (before : List MemPlace)
    (hval : ∀ (j : Nat) t v, Try.f12.params[j]? = some t → args[j]? = some v → Value.okWide Try.prog W .any base t v)
    (hW : DataW.Whole enc Try.prog Try.f12.params.toList Rows.historyCutsJoinSpec.vars false W args.toList ds gs before) :
    Calls Try.prog 12 args W fun e W' => ∃ v, e = .returned v ∧ Rows.historyCutsJoinSpec.post enc Try.prog Try.f12 false true false false W args v W' := by
  have hW' := hW
  obtain ⟨p, q, hA0, hV, rfl, hfz, hnd⟩ := hW
  have hA : DataW.TrodAll enc Try.prog W 0 (fun _ => true) true Try.f12.params.toList args.toList ds p := hA0
  rw [Try.params12] at hA hval
  obtain ⟨v0, vs0, d0, ds0, p0, q0, hargs, rfl, rfl, h0, r0⟩ := trodAll_cons hA
  obtain ⟨v1, vs1, d1, ds1, p1, q1, rfl, rfl, rfl, h1, r1⟩ := trodAll_cons r0
  obtain ⟨rfl, rfl, rfl⟩ := trodAll_nil r1
  obtain rfl : args = #[v0, v1] := by cases args; simp_all
  obtain ⟨x0, hp0⟩ := Base.arg_52 (hval 0 52 v0 rfl rfl) h0
  obtain ⟨a1, rfl, _, _, w1⟩ := open_int Try.underlying3 (hval 1 3 v1 rfl rfl) h1
  refine law_post Base.kids Base.sized' hW' (by decide +kernel) rfl rfl (rt := 4) (by kernel_rfl) Try.underlying4 (xs := [.p (Base.P_52 x0), .p (vi a1)]) ?_ (law11_HistoryCutsJoin_ok (law_CutsJoin x0 a1))
  simp only [ARepL, ARep]
  exact ⟨v0, _, rfl, hp0, _, _, rfl, by simp [PRep], rfl⟩
end cutjx
end Go.Proofs.Ytjjhmldeammecaa
