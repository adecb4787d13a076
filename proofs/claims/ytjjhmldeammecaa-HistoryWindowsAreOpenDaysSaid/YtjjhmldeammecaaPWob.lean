/-
  The law HistoryWindowsAreOpenDays: for every input it answers true and leaves its arguments as they were. No condition.
-/
import Derived.Test.YtjjhmldeammecaaPWoa
namespace Go.Proofs.Ytjjhmldeammecaa
open Go Go.Abs Go.ChangeShapes Go.WideShapes Go.ChangeAt Go.RowKit
namespace openx
set_option maxRecDepth 100000 in
theorem lifted (os : Os) (started : os.Started) (H : Type) (enc : TypeId × Value → H) :
    ReturnsInHanded {} Try.checked os 10 .any (Rows.historyWindowsAreOpenDaysSpec.pre6 enc Try.prog Try.f10 Rows.historyWindowsAreOpenDaysRow.domain false) (Rows.historyWindowsAreOpenDaysSpec.post enc Try.prog Try.f10 false true false false) := by
  refine returnsInHanded_of_change (C := Try.checked) Base.own started (by kernel_rfl) Try.func10
    (ChangeSpec.witness6 (enc := enc) (C := Try.checked) false ⟨#[], #[.agg #[.string ⟨#[]⟩, .slice none 0 0, .slice none 0 0, .int .i64 0], .int .i64 0], []⟩ 8 (by kernel_rfl) (by kernel_rfl) (by kernel_rfl) (by kernel_rfl)) ?_
  intro W base args ds gs before hval hW _ _
  exact contract H enc W base args ds gs before hval hW
theorem named : Try.prog.funcNamed "provender/provenderlaw11.HistoryWindowsAreOpenDays" = some 10 := by kernel_rfl
theorem facts : joinedFacts Try.prog 10 Try.f10 Rows.historyWindowsAreOpenDaysSpec Rows.historyWindowsAreOpenDaysRow = true := by kernel_rfl
theorem inst : Try.f10.isInstance Try.prog Rows.historyWindowsAreOpenDaysRow.origin Rows.historyWindowsAreOpenDaysRow.targs := of_decide_eq_true (by kernel_rfl)
theorem wrap : Try.f10.isWrapper Try.prog Rows.historyWindowsAreOpenDaysRow.wrapper Rows.historyWindowsAreOpenDaysRow.mainSum := by
  unfold Func.isWrapper
  first
    | (rw [if_pos (by decide +kernel)]; kernel_rfl)
    | (rw [if_neg (by decide +kernel)]; exact ⟨rfl, rfl⟩)
theorem proved : Rows.HistoryWindowsAreOpenDaysSaid :=
  OpenClaim.holds_of_wide 10 Try.f10 rfl rfl rfl rfl rfl rfl rfl ⟨rfl, rfl, rfl, rfl, rfl⟩ rfl rfl rfl rfl rfl named Try.func10 facts inst wrap
    (fun os started H enc _ => lifted os started H enc)
#print axioms proved
end openx
end Go.Proofs.Ytjjhmldeammecaa
