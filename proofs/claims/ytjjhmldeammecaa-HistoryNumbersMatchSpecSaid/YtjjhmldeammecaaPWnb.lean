/-
  The law HistoryNumbersMatchSpec:for every input it answers true and leaves its arguments as they were. No condition.
-/
import Derived.Test.YtjjhmldeammecaaPWna
namespace Go.Proofs.Ytjjhmldeammecaa
open Go Go.Abs Go.ChangeShapes Go.WideShapes Go.ChangeAt Go.RowKit
namespace numx
set_option maxRecDepth 100000 in
theorem lifted (os:Os) (started:os.Started) (H:Type) (enc:TypeId × Value→H) :
  ReturnsInHanded {} Try.checked os 14 .any (Rows.historyNumbersMatchSpecSpec.pre6 enc Try.prog Try.f14 Rows.historyNumbersMatchSpecRow.domain false) (Rows.historyNumbersMatchSpecSpec.post enc Try.prog Try.f14 false true false false):=by
 refine returnsInHanded_of_change (C:= Try.checked) Base.own started (by kernel_rfl) Try.func14
  (ChangeSpec.witness6 (enc:=enc) (C:= Try.checked) false ⟨#[],#[.agg #[.string ⟨#[]⟩,.slice none 0 0,.slice none 0 0,.int .i64 0],.int .i64 0,.int .i64 0,.int .i64 0,.int .i64 0,.int .i64 0],[]⟩ 8 (by kernel_rfl) (by kernel_rfl) (by kernel_rfl) (by kernel_rfl)) ?_
 intro W base args ds gs before hval hW _ _
 exact contract H enc W base args ds gs before hval hW
theorem named : Try.prog.funcNamed "provender/provenderlaw11.HistoryNumbersMatchSpec" = some 14 := by kernel_rfl
theorem and_t {a b:Bool} (h1:a=true) (h2:b=true):(a && b)=true:=by rw[h1,h2];rfl
set_option maxHeartbeats 10000000 in
theorem facts:joinedFacts Try.prog 14 Try.f14 Rows.historyNumbersMatchSpecSpec Rows.historyNumbersMatchSpecRow=true:=by
 unfold joinedFacts
 repeat' (with_reducible refine and_t ?_ ?_)
 all_goals (as_aux_lemma=>kernel_rfl)
theorem inst: Try.f14.isInstance Try.prog Rows.historyNumbersMatchSpecRow.origin Rows.historyNumbersMatchSpecRow.targs:=of_decide_eq_true (by kernel_rfl)
theorem wrap: Try.f14.isWrapper Try.prog Rows.historyNumbersMatchSpecRow.wrapper Rows.historyNumbersMatchSpecRow.mainSum:=by
 unfold Func.isWrapper
 first
  | (rw[if_pos (by decide +kernel)];kernel_rfl)
  | (rw[if_neg (by decide +kernel)];exact⟨rfl,rfl⟩)
theorem proved:Rows.HistoryNumbersMatchSpecSaid :=
 OpenClaim.holds_of_wide 14 Try.f14 rfl rfl rfl rfl rfl rfl rfl ⟨rfl,rfl,rfl,rfl,rfl⟩ rfl rfl rfl rfl rfl named Try.func14 facts inst wrap
  (fun os started H enc _=>lifted os started H enc)
#print axioms proved
end numx
end Go.Proofs.Ytjjhmldeammecaa
