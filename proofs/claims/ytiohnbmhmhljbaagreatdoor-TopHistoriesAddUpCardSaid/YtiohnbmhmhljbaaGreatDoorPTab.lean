/-
  The law TopHistoriesAddUp:for every input it answers true and leaves its arguments as they were. No condition.
-/
import Derived.Test.YtiohnbmhmhljbaaGreatDoorPTaa
import Derived.Test.YtiohnbmhmhljbaaGreatDoorTie
import Derived.Test.YtiohnbmhmhljbaaGreatDoorCards
import Derived.LaidMore
import Derived.Lay
import Derived.SevenTiedAt
import Derived.Stop.Joined
namespace Go.Proofs.YtiohnbmhmhljbaaGreatDoor
open Go Go.Abs Go.ChangeShapes Go.WideShapes Go.ChangeAt Go.RowKit
namespace topx
set_option maxRecDepth 100000 in
theorem lifted (os:Os) (started:os.Started) (H:Type) (enc:TypeId × Value→H) :
    ReturnsInHanded {} Tryz.checked os 3 .any (fun w args=>(Rows.topHistoriesAddUpSpec.pre enc Tryz.prog Tryz.f3 Rows.topHistoriesAddUpRow.domain false w args∧laidMetH Tryz.prog Rows.topHistoriesAddUpRow.laid w)∧sizedMet enc Tryz.prog Tryz.f3 (OpenSpec.ofChange Rows.topHistoriesAddUpSpec) false w args)
      (Rows.topHistoriesAddUpSpec.post enc Tryz.prog Tryz.f3 false true false false):=by
  refine returnsInHanded_of_change_and (C:= Tryz.checked) (X:=fun w _=>laidMetH Tryz.prog Rows.topHistoriesAddUpRow.laid w) (fun _ _ _ hh h=>h.of_heap hh) Base.own started (by kernel_rfl) Tryz.func3
    (ChangeSpec.witness_shaped (enc:=enc) (C:= Tryz.checked) (os:=os) (X:=fun w _=>laidMetH Tryz.prog Rows.topHistoriesAddUpRow.laid w) false (World.laidAll Tryz.prog os Rows.topHistoriesAddUpRow.laid) #[.agg #[.string ⟨#[]⟩,.slice none 0 0,.slice none 0 0,.int .i64 0],.int .i64 0,.int .i64 0] 8 (World.laidAll_os _ _ _)
      (World.shaped_of_ZipB (by kernel_rfl) (by kernel_rfl)) (by kernel_rfl) (by kernel_rfl) (by kernel_rfl)
      (by rw[MakeChecks.laidMetH_plain _ _ _ (by kernel_rfl)];exact laidMet_laidAll _ (by kernel_rfl) (by kernel_rfl))) ?_
  intro W base args ds gs before hval hW _ _ _ _
  exact contract H enc W base args ds gs before hval hW
theorem named : Tryz.prog.funcNamed "provender/provendertop.TopHistoriesAddUp" = some 3 := by kernel_rfl
theorem and_t {a b:Bool} (h1:a=true) (h2:b=true):(a && b)=true:=by rw[h1,h2];rfl
set_option maxHeartbeats 10000000 in
theorem facts:joinedFacts Tryz.prog 3 Tryz.f3 Rows.topHistoriesAddUpSpec Rows.topHistoriesAddUpRow=true:=by
 unfold joinedFacts
 repeat' (with_reducible refine and_t ?_ ?_)
 all_goals (as_aux_lemma=>kernel_rfl)
theorem inst: Tryz.f3.isInstance Tryz.prog Rows.topHistoriesAddUpRow.origin Rows.topHistoriesAddUpRow.targs:=of_decide_eq_true (by kernel_rfl)
theorem wrap: Tryz.f3.isWrapper Tryz.prog Rows.topHistoriesAddUpRow.wrapper Rows.topHistoriesAddUpRow.mainSum:=by
 unfold Func.isWrapper
 first
  | (rw[if_pos (by decide +kernel)];kernel_rfl)
  | (rw[if_neg (by decide +kernel)];exact⟨rfl,rfl⟩)
theorem holds:Rows.TopHistoriesAddUpSaid :=
 OpenClaim.holds_of_wide 3 Tryz.f3 rfl rfl rfl rfl rfl rfl rfl ⟨rfl,rfl,rfl,rfl,rfl⟩ rfl rfl rfl rfl rfl named Tryz.func3 facts inst wrap
  (fun os started H enc _=>lifted os started H enc)
theorem proved:Rows.TopHistoriesAddUpCardSaid :=
  Claim7.holds_tied_plain_at .later [] [.data, .pinned, .pinned] true (true, "02621efb65472127c41514f32f5124668cf3a411903e95d4f1dc69c1e935a5d6") true holds (fun _ h => by cases h) (by kernel_rfl) (fun _ h => by cases h) topHistoriesAddUp_row_tie rfl ⟨rfl, rfl⟩ (by kernel_rfl) rfl
    (fun f fn hf hfn=>by
      obtain rfl:f=3:=Option.some.inj (named.symm.trans hf) |>.symm
      obtain rfl:fn= Tryz.f3:=(Option.some.inj (Tryz.func3.symm.trans hfn)).symm
      exact⟨by kernel_rfl,fun j t ht=>by
        rw[Tryz.params3] at ht
        have hm:t∈ [25,3,3]:=by simpa using Array.mem_of_getElem? ht
        have hall:([25,3,3].all fun u=> !Tryz.prog.wantsStandIn u)=true:=by kernel_rfl
        exact (show Tryz.prog.wantsStandIn t=false by simpa using List.all_eq_true.1 hall t hm)⟩)
    (by kernel_rfl)
#print axioms proved
end topx
end Go.Proofs.YtiohnbmhmhljbaaGreatDoor
