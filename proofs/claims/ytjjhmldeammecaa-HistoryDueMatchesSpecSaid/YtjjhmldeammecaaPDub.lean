/-
  The law HistoryDueMatchesSpec: for every input it answers true and leaves its arguments as they were. No condition.
-/
import Derived.Test.YtjjhmldeammecaaPDua
namespace Go.Proofs.Ytjjhmldeammecaa
open Go Go.Abs Go.ChangeShapes Go.WideShapes Go.ChangeAt Go.RowKit
namespace duex
set_option maxRecDepth 100000 in
theorem lifted (os : Os) (started : os.Started) (H : Type) (enc : TypeId × Value → H) :
    ReturnsInHanded {} Try.checked os 5 .any (Rows.historyDueMatchesSpecSpec.pre6 enc Try.prog Try.f5 Rows.historyDueMatchesSpecRow.domain false) (Rows.historyDueMatchesSpecSpec.post enc Try.prog Try.f5 false true false false) := by
  refine returnsInHanded_of_change (C := Try.checked) Base.own started (by kernel_rfl) Try.func5
    (ChangeSpec.witness6 (enc := enc) (C := Try.checked) false ⟨#[], #[.agg #[.slice none 0 0, .slice none 0 0], .slice none 0 0, .agg #[.string ⟨#[]⟩, .string ⟨#[]⟩, .int .i64 0, .int .i64 0, .int .i64 0, .bool false]], []⟩ 8 (by kernel_rfl) (by kernel_rfl) (by kernel_rfl) (by kernel_rfl)) ?_
  intro W base args ds gs before hval hW _ _
  exact contract H enc W base args ds gs before hval hW
theorem named : Try.prog.funcNamed "provender/provenderlaw11.HistoryDueMatchesSpec" = some 5 := by kernel_rfl
theorem facts : joinedFacts Try.prog 5 Try.f5 Rows.historyDueMatchesSpecSpec Rows.historyDueMatchesSpecRow = true := by kernel_rfl
theorem inst : Try.f5.isInstance Try.prog Rows.historyDueMatchesSpecRow.origin Rows.historyDueMatchesSpecRow.targs := of_decide_eq_true (by kernel_rfl)
theorem wrap : Try.f5.isWrapper Try.prog Rows.historyDueMatchesSpecRow.wrapper Rows.historyDueMatchesSpecRow.mainSum := by
  unfold Func.isWrapper
  first
    | (rw [if_pos (by decide +kernel)]; kernel_rfl)
    | (rw [if_neg (by decide +kernel)]; exact ⟨rfl, rfl⟩)
theorem proved : Rows.HistoryDueMatchesSpecSaid :=
  OpenClaim.holds_of_wide 5 Try.f5 rfl rfl rfl rfl rfl rfl rfl ⟨rfl, rfl, rfl, rfl, rfl⟩ rfl rfl rfl rfl rfl named Try.func5 facts inst wrap
    (fun os started H enc _ => lifted os started H enc)
#print axioms proved
end duex
end Go.Proofs.Ytjjhmldeammecaa
