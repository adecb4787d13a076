/-
  The law HistoryOverdueMatchesSpec:for every input it answers true and leaves its arguments as they were. No condition.
-/
import Derived.Test.YtjjhmldeammecaaPWva
namespace Go.Proofs.Ytjjhmldeammecaa
open Go Go.Abs Go.ChangeShapes Go.WideShapes Go.ChangeAt Go.RowKit
namespace overx
set_option maxRecDepth 100000 in
theorem lifted (os:Os) (started:os.Started) (H:Type) (enc:TypeId × Value→H) :
  ReturnsInHanded {} Try.checked os 13 .any (Rows.historyOverdueMatchesSpecSpec.pre6 enc Try.prog Try.f13 Rows.historyOverdueMatchesSpecRow.domain false) (Rows.historyOverdueMatchesSpecSpec.post enc Try.prog Try.f13 false true false false):=by
 refine returnsInHanded_of_change (C:= Try.checked) Base.own started (by kernel_rfl) Try.func13
  (ChangeSpec.witness6 (enc:=enc) (C:= Try.checked) false ⟨#[],#[.agg #[.slice none 0 0,.slice none 0 0],.slice none 0 0,.agg #[.string ⟨#[]⟩,.slice none 0 0,.slice none 0 0,.int .i64 0],.int .i64 0],[]⟩ 8 (by kernel_rfl) (by kernel_rfl) (by kernel_rfl) (by kernel_rfl)) ?_
 intro W base args ds gs before hval hW _ _
 exact contract H enc W base args ds gs before hval hW
theorem named : Try.prog.funcNamed "provender/provenderlaw11.HistoryOverdueMatchesSpec" = some 13 := by kernel_rfl
theorem and_t {a b:Bool} (h1:a=true) (h2:b=true):(a && b)=true:=by rw[h1,h2];rfl
set_option maxHeartbeats 10000000 in
theorem facts:joinedFacts Try.prog 13 Try.f13 Rows.historyOverdueMatchesSpecSpec Rows.historyOverdueMatchesSpecRow=true:=by
 unfold joinedFacts
 repeat' (with_reducible refine and_t ?_ ?_)
 all_goals (as_aux_lemma=>kernel_rfl)
theorem inst: Try.f13.isInstance Try.prog Rows.historyOverdueMatchesSpecRow.origin Rows.historyOverdueMatchesSpecRow.targs:=of_decide_eq_true (by kernel_rfl)
theorem wrap: Try.f13.isWrapper Try.prog Rows.historyOverdueMatchesSpecRow.wrapper Rows.historyOverdueMatchesSpecRow.mainSum:=by
 unfold Func.isWrapper
 first
  | (rw[if_pos (by decide +kernel)];kernel_rfl)
  | (rw[if_neg (by decide +kernel)];exact⟨rfl,rfl⟩)
theorem proved:Rows.HistoryOverdueMatchesSpecSaid :=
 OpenClaim.holds_of_wide 13 Try.f13 rfl rfl rfl rfl rfl rfl rfl ⟨rfl,rfl,rfl,rfl,rfl⟩ rfl rfl rfl rfl rfl named Try.func13 facts inst wrap
  (fun os started H enc _=>lifted os started H enc)
#print axioms proved
end overx
end Go.Proofs.Ytjjhmldeammecaa
