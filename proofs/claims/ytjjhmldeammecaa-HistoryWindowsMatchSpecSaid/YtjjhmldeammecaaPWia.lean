/-
  The law HistoryWindowsMatchSpec: for every input it answers true and leaves its arguments as they were. No condition.
-/
import Derived.Test.YtjjhmldeammecaaGHwb
import Derived.Test.YtjjhmldeammecaaSHw
import Derived.Test.YtjjhmldeammecaaXHw
import Derived.Test.YtjjhmldeammecaaPB
import Derived.Test.YtjjhmldeammecaaRows
namespace Go.Proofs.Ytjjhmldeammecaa
open Go Go.Abs Go.ChangeShapes Go.WideShapes Go.ChangeAt Go.RowKit
set_option maxRecDepth 100000
namespace winx
theorem contract (H : Type) (enc : TypeId × Value → H) (W : World) (base : Nat) (args : Array Value) (ds gs : List (DataW H)) (before : List MemPlace)
    (hval : ∀ (j : Nat) t v, Try.f8.params[j]? = some t → args[j]? = some v → Value.okWide Try.prog W .any base t v)
    (hW : DataW.Whole enc Try.prog Try.f8.params.toList Rows.historyWindowsMatchSpecSpec.vars false W args.toList ds gs before) :
    Calls Try.prog 8 args W fun e W' => ∃ v, e = .returned v ∧ Rows.historyWindowsMatchSpecSpec.post enc Try.prog Try.f8 false true false false W args v W' := by
  have hW' := hW
  obtain ⟨p, q, hA0, hV, rfl, hfz, hnd⟩ := hW
  have hA : DataW.TrodAll enc Try.prog W 0 (fun _ => true) true Try.f8.params.toList args.toList ds p := hA0
  rw [Try.params8] at hA hval
  obtain ⟨v0, vs0, d0, ds0, p0, q0, hargs, rfl, rfl, h0, r0⟩ := trodAll_cons hA
  obtain ⟨rfl, rfl, rfl⟩ := trodAll_nil r0
  obtain rfl : args = #[v0] := by cases args; simp_all
  obtain ⟨x0, hp0⟩ := Base.arg_52 (hval 0 52 v0 rfl rfl) h0
  refine law_post Base.kids Base.sized' hW' (by decide +kernel) rfl rfl (rt := 4) (by kernel_rfl) Try.underlying4 (xs := [.p (Base.P_52 x0)]) ?_ (law11_HistoryWindowsMatchSpec_ok (law_Windows x0))
  simp only [ARepL, ARep]
  exact ⟨v0, _, rfl, hp0, rfl⟩
end winx
end Go.Proofs.Ytjjhmldeammecaa
