/-
  The law HistoryAddIsLeast: for every input it answers true and leaves its arguments as they were. No condition.
-/
import Derived.Test.YtjjhmldeammecaaP2a
namespace Go.Proofs.Ytjjhmldeammecaa
open Go Go.Abs Go.ChangeShapes Go.WideShapes Go.ChangeAt Go.RowKit
namespace least
set_option maxRecDepth 100000 in
theorem lifted (os : Os) (started : os.Started) (H : Type) (enc : TypeId × Value → H) :
    ReturnsInHanded {} Try.checked os 4 .any (Rows.historyAddIsLeastSpec.pre6 enc Try.prog Try.f4 Rows.historyAddIsLeastRow.domain false) (Rows.historyAddIsLeastSpec.post enc Try.prog Try.f4 false true false false) := by
  refine returnsInHanded_of_change (C := Try.checked) Base.own started (by kernel_rfl) Try.func4
    (ChangeSpec.witness6 (enc := enc) (C := Try.checked) false ⟨#[], #[.agg #[.slice none 0 0, .slice none 0 0], .int .i64 0, .int .i64 0, .int .i64 0], []⟩ 8 (by kernel_rfl) (by kernel_rfl) (by kernel_rfl) (by kernel_rfl)) ?_
  intro W base args ds gs before hval hW _ _
  exact contract H enc W base args ds gs before hval hW
theorem named : Try.prog.funcNamed "provender/provenderlaw11.HistoryAddIsLeast" = some 4 := by kernel_rfl
theorem facts : joinedFacts Try.prog 4 Try.f4 Rows.historyAddIsLeastSpec Rows.historyAddIsLeastRow = true := by kernel_rfl
theorem inst : Try.f4.isInstance Try.prog Rows.historyAddIsLeastRow.origin Rows.historyAddIsLeastRow.targs := of_decide_eq_true (by kernel_rfl)
theorem wrap : Try.f4.isWrapper Try.prog Rows.historyAddIsLeastRow.wrapper Rows.historyAddIsLeastRow.mainSum := by
  unfold Func.isWrapper
  first
    | (rw [if_pos (by decide +kernel)]; kernel_rfl)
    | (rw [if_neg (by decide +kernel)]; exact ⟨rfl, rfl⟩)
theorem proved : Rows.HistoryAddIsLeastSaid :=
  OpenClaim.holds_of_wide 4 Try.f4 rfl rfl rfl rfl rfl rfl rfl ⟨rfl, rfl, rfl, rfl, rfl⟩ rfl rfl rfl rfl rfl named Try.func4 facts inst wrap
    (fun os started H enc _ => lifted os started H enc)
#print axioms proved
end least
end Go.Proofs.Ytjjhmldeammecaa
