/-
  The law HistoryWhyMatchesSpec: for every input it answers true and leaves its arguments as they were. No condition.
-/
import Derived.Test.YtjjhmldeammecaaPWya
namespace Go.Proofs.Ytjjhmldeammecaa
open Go Go.Abs Go.ChangeShapes Go.WideShapes Go.ChangeAt Go.RowKit
namespace whyx
set_option maxRecDepth 100000 in
theorem lifted (os : Os) (started : os.Started) (H : Type) (enc : TypeId × Value → H) :
    ReturnsInHanded {} Try.checked os 9 .any (Rows.historyWhyMatchesSpecSpec.pre6 enc Try.prog Try.f9 Rows.historyWhyMatchesSpecRow.domain false) (Rows.historyWhyMatchesSpecSpec.post enc Try.prog Try.f9 false true false false) := by
  refine returnsInHanded_of_change (C := Try.checked) Base.own started (by kernel_rfl) Try.func9
    (ChangeSpec.witness6 (enc := enc) (C := Try.checked) false ⟨#[], #[.agg #[.string ⟨#[]⟩, .slice none 0 0, .slice none 0 0, .int .i64 0], .int .i64 0], []⟩ 8 (by kernel_rfl) (by kernel_rfl) (by kernel_rfl) (by kernel_rfl)) ?_
  intro W base args ds gs before hval hW _ _
  exact contract H enc W base args ds gs before hval hW
theorem named : Try.prog.funcNamed "provender/provenderlaw11.HistoryWhyMatchesSpec" = some 9 := by kernel_rfl
theorem facts : joinedFacts Try.prog 9 Try.f9 Rows.historyWhyMatchesSpecSpec Rows.historyWhyMatchesSpecRow = true := by kernel_rfl
theorem inst : Try.f9.isInstance Try.prog Rows.historyWhyMatchesSpecRow.origin Rows.historyWhyMatchesSpecRow.targs := of_decide_eq_true (by kernel_rfl)
theorem wrap : Try.f9.isWrapper Try.prog Rows.historyWhyMatchesSpecRow.wrapper Rows.historyWhyMatchesSpecRow.mainSum := by
  unfold Func.isWrapper
  first
    | (rw [if_pos (by decide +kernel)]; kernel_rfl)
    | (rw [if_neg (by decide +kernel)]; exact ⟨rfl, rfl⟩)
theorem proved : Rows.HistoryWhyMatchesSpecSaid :=
  OpenClaim.holds_of_wide 9 Try.f9 rfl rfl rfl rfl rfl rfl rfl ⟨rfl, rfl, rfl, rfl, rfl⟩ rfl rfl rfl rfl rfl named Try.func9 facts inst wrap
    (fun os started H enc _ => lifted os started H enc)
#print axioms proved
end whyx
end Go.Proofs.Ytjjhmldeammecaa
