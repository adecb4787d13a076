/-
  The law HistoryDaysMatchSpec: for every input it answers true and leaves its arguments as they were. No condition.
-/
import Derived.Test.YtjjhmldeammecaaP1
namespace Go.Proofs.Ytjjhmldeammecaa
open Go Go.Abs Go.ChangeShapes Go.WideShapes Go.ChangeAt Go.RowKit
namespace days
set_option maxRecDepth 100000 in
theorem lifted (os : Os) (started : os.Started) (H : Type) (enc : TypeId × Value → H) :
    ReturnsInHanded {} Try.checked os 3 .any (Rows.historyDaysMatchSpecSpec.pre6 enc Try.prog Try.f3 Rows.historyDaysMatchSpecRow.domain false) (Rows.historyDaysMatchSpecSpec.post enc Try.prog Try.f3 false true false false) := by
  refine returnsInHanded_of_change (C := Try.checked) Base.own started (by kernel_rfl) Try.func3
    (ChangeSpec.witness6 (enc := enc) (C := Try.checked) false ⟨#[], #[.agg #[.slice none 0 0, .slice none 0 0], .int .i64 0, .int .i64 0, .int .i64 0], []⟩ 8 (by kernel_rfl) (by kernel_rfl) (by kernel_rfl) (by kernel_rfl)) ?_
  intro W base args ds gs before hval hW _ _
  exact contract H enc W base args ds gs before hval hW

theorem named : Try.prog.funcNamed "provender/provenderlaw11.HistoryDaysMatchSpec" = some 3 := by kernel_rfl
theorem facts : joinedFacts Try.prog 3 Try.f3 Rows.historyDaysMatchSpecSpec Rows.historyDaysMatchSpecRow = true := by kernel_rfl
theorem inst : Try.f3.isInstance Try.prog Rows.historyDaysMatchSpecRow.origin Rows.historyDaysMatchSpecRow.targs := of_decide_eq_true (by kernel_rfl)
theorem wrap : Try.f3.isWrapper Try.prog Rows.historyDaysMatchSpecRow.wrapper Rows.historyDaysMatchSpecRow.mainSum := by
  unfold Func.isWrapper
  first
    | (rw [if_pos (by decide +kernel)]; kernel_rfl)
    | (rw [if_neg (by decide +kernel)]; exact ⟨rfl, rfl⟩)
end days
end Go.Proofs.Ytjjhmldeammecaa
