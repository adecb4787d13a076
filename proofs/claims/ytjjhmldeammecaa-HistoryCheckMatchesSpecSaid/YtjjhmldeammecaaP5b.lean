/-
  The law HistoryCheckMatchesSpec: for every input it answers true and leaves its arguments as they were. No condition.
-/
import Derived.Test.YtjjhmldeammecaaP5a
namespace Go.Proofs.Ytjjhmldeammecaa
open Go Go.Abs Go.ChangeShapes Go.WideShapes Go.ChangeAt Go.RowKit
namespace checkx
set_option maxRecDepth 100000 in
theorem lifted (os : Os) (started : os.Started) (H : Type) (enc : TypeId × Value → H) :
    ReturnsInHanded {} Try.checked os 7 .any (Rows.historyCheckMatchesSpecSpec.pre6 enc Try.prog Try.f7 Rows.historyCheckMatchesSpecRow.domain false) (Rows.historyCheckMatchesSpecSpec.post enc Try.prog Try.f7 false true false false) := by
  refine returnsInHanded_of_change (C := Try.checked) Base.own started (by kernel_rfl) Try.func7
    (ChangeSpec.witness6 (enc := enc) (C := Try.checked) false ⟨#[], #[.agg #[.string ⟨#[]⟩, .slice none 0 0, .slice none 0 0, .int .i64 0], .int .i64 0], []⟩ 8 (by kernel_rfl) (by kernel_rfl) (by kernel_rfl) (by kernel_rfl)) ?_
  intro W base args ds gs before hval hW _ _
  exact contract H enc W base args ds gs before hval hW
theorem named : Try.prog.funcNamed "provender/provenderlaw11.HistoryCheckMatchesSpec" = some 7 := by kernel_rfl
theorem facts : joinedFacts Try.prog 7 Try.f7 Rows.historyCheckMatchesSpecSpec Rows.historyCheckMatchesSpecRow = true := by kernel_rfl
theorem inst : Try.f7.isInstance Try.prog Rows.historyCheckMatchesSpecRow.origin Rows.historyCheckMatchesSpecRow.targs := of_decide_eq_true (by kernel_rfl)
theorem wrap : Try.f7.isWrapper Try.prog Rows.historyCheckMatchesSpecRow.wrapper Rows.historyCheckMatchesSpecRow.mainSum := by
  unfold Func.isWrapper
  first
    | (rw [if_pos (by decide +kernel)]; kernel_rfl)
    | (rw [if_neg (by decide +kernel)]; exact ⟨rfl, rfl⟩)
theorem proved : Rows.HistoryCheckMatchesSpecSaid :=
  OpenClaim.holds_of_wide 7 Try.f7 rfl rfl rfl rfl rfl rfl rfl ⟨rfl, rfl, rfl, rfl, rfl⟩ rfl rfl rfl rfl rfl named Try.func7 facts inst wrap
    (fun os started H enc _ => lifted os started H enc)
#print axioms proved
end checkx
end Go.Proofs.Ytjjhmldeammecaa
