/-
  The law HistoryWindowsMatchSpec: for every input it answers true and leaves its arguments as they were. No condition.
-/
import Derived.Test.YtjjhmldeammecaaPWia
namespace Go.Proofs.Ytjjhmldeammecaa
open Go Go.Abs Go.ChangeShapes Go.WideShapes Go.ChangeAt Go.RowKit
namespace winx
set_option maxRecDepth 100000 in
theorem lifted (os : Os) (started : os.Started) (H : Type) (enc : TypeId × Value → H) :
    ReturnsInHanded {} Try.checked os 8 .any (Rows.historyWindowsMatchSpecSpec.pre6 enc Try.prog Try.f8 Rows.historyWindowsMatchSpecRow.domain false) (Rows.historyWindowsMatchSpecSpec.post enc Try.prog Try.f8 false true false false) := by
  refine returnsInHanded_of_change (C := Try.checked) Base.own started (by kernel_rfl) Try.func8
    (ChangeSpec.witness6 (enc := enc) (C := Try.checked) false ⟨#[], #[.agg #[.string ⟨#[]⟩, .slice none 0 0, .slice none 0 0, .int .i64 0]], []⟩ 8 (by kernel_rfl) (by kernel_rfl) (by kernel_rfl) (by kernel_rfl)) ?_
  intro W base args ds gs before hval hW _ _
  exact contract H enc W base args ds gs before hval hW
theorem named : Try.prog.funcNamed "provender/provenderlaw11.HistoryWindowsMatchSpec" = some 8 := by kernel_rfl
theorem facts : joinedFacts Try.prog 8 Try.f8 Rows.historyWindowsMatchSpecSpec Rows.historyWindowsMatchSpecRow = true := by kernel_rfl
theorem inst : Try.f8.isInstance Try.prog Rows.historyWindowsMatchSpecRow.origin Rows.historyWindowsMatchSpecRow.targs := of_decide_eq_true (by kernel_rfl)
theorem wrap : Try.f8.isWrapper Try.prog Rows.historyWindowsMatchSpecRow.wrapper Rows.historyWindowsMatchSpecRow.mainSum := by
  unfold Func.isWrapper
  first
    | (rw [if_pos (by decide +kernel)]; kernel_rfl)
    | (rw [if_neg (by decide +kernel)]; exact ⟨rfl, rfl⟩)
theorem proved : Rows.HistoryWindowsMatchSpecSaid :=
  OpenClaim.holds_of_wide 8 Try.f8 rfl rfl rfl rfl rfl rfl rfl ⟨rfl, rfl, rfl, rfl, rfl⟩ rfl rfl rfl rfl rfl named Try.func8 facts inst wrap
    (fun os started H enc _ => lifted os started H enc)
#print axioms proved
end winx
end Go.Proofs.Ytjjhmldeammecaa
