/- The walks of these functions against the plain ones (printed by a program of this repo). -/
import Derived.Test.YtjjhmldeammecaaRHc
import Derived.Test.YtjjhmldeammecaaW7
namespace Go.Abs
open Go Go.Proofs
set_option maxRecDepth 8000
theorem ref11_isName_ok {v0 : Str} {r0} (hF : ref11_isName v0 = some r0) : APure Try.prog 93 [.p (vs v0.b)] (.p (vb r0)) := by
  refine apureZ 2 rc93_ok rfl ?_
  simp only [rc93, argEnv]
  unfold ref11_isName at hF
  refine aw_srH fun K hK => ?_
  (try simp only [go_sem])
  refine IsK.go (by assumption) ?_
  refine aw_seqH fun Q hQ => ?_
  refine aw_srH fun K hK => ?_
  (try simp only [go_sem])
  refine IsK.go (by assumption) ?_
  refine aw_joinX hF (fun (_ : Unit) => ⟨[(0, .p (vs v0.b))], [], 0⟩) ?_ ?_
  · intro y8 hF hj8 Q hQ
    refine aw_blockH fun Q hQ => ?_
    refine aw_loopK hF (fun (n4 : Int) => ⟨[(0, .p (vs v0.b)), (3, .p (vi n4))], [], 0⟩) (Upd.sub (show 0 ≤ 0 by decide) (by simp [go_sem, envSub, Env.get]) trivial) ?_
    rintro n4 z8 hF hb8 hr8 Q hQ
    (try dsimp only at hF ⊢)
    refine aw_seqH fun Q hQ => ?_
    refine aw_srH fun K hK => ?_
    (try simp only [go_sem])
    refine IsK.go (by assumption) ?_
    refine aw_cond rfl (fun hc => ?_) (fun hc => ?_)
    · replace hF := if_t hc hF
      refine aw_skip ?_
      (repeat (refine IsQ.go (by assumption) ?_; (try dsimp only); (try simp only [reduceCtorEq, E0])))
      refine aw_seqH fun Q hQ => ?_
      refine aw_blockH fun Q hQ => ?_
      obtain ⟨c9, h10, hF⟩ := bind_some hF
      obtain ⟨h100, b11, h101, h10v⟩ := sidx_some h10; replace h10v := h10v.symm
      replace h10 : _ ∧ _ := ⟨h100, h101⟩; clear h100 h101; (try simp only [go_sem] at h10)
      refine aw_srJ ⟨[(0, .p (vs v0.b)), (3, .p (vi n4)), (19, .p (vb ((decide (c9 < 33)) || (decide (c9 > 126)))))], [], 0⟩ (fun K hK => ?_) ?_
      · (try simp only [go_sem, h10, h10v])
        (try simp only [go_sem, h10, h10v])
        refine vOps_split rfl ?_ ?_ <;> intro hg12 <;> (try simp only [hg12, go_sem, h10, h10v])
        · (try simp only [go_sem, h10, h10v, hg12])
          refine IsK.go (by assumption) ?_
          exact (Upd.sub (show 0 ≤ 0 by decide) (by simp [go_sem, envSub, Env.get, hg12]) trivial)
        · (try simp only [go_sem, h10, h10v, hg12])
          refine IsK.go (by assumption) ?_
          exact (Upd.sub (show 0 ≤ 0 by decide) (by simp [go_sem, envSub, Env.get, hg12]) trivial)
      refine aw_cond rfl (fun hc => ?_) (fun hc => ?_)
      · replace hF := if_t hc hF
        refine aw_srH fun K hK => ?_
        (try simp only [go_sem])
        refine IsK.go (by assumption) ?_
        refine aw_ret ?_
        (repeat (refine IsQ.go (by assumption) ?_; (try dsimp only); (try simp only [reduceCtorEq, E0])))
        cases hF
        cases (hj8 _ (hr8 _ rfl))
        simp only [go_sem]
      · replace hF := if_f hc hF
        refine aw_skip ?_
        (repeat (refine IsQ.go (by assumption) ?_; (try dsimp only); (try simp only [reduceCtorEq, E0])))
        refine aw_region ?_
        (try simp only [go_sem])
        (repeat (refine IsQ.go (by assumption) ?_; (try dsimp only); (try simp only [reduceCtorEq, E0])))
        cases hF
        exact ⟨_, rfl, (Upd.sub (show 0 ≤ 0 by decide) (by simp [go_sem, envSub, Env.get]) trivial)⟩
    · replace hF := if_f hc hF
      refine aw_exit ?_
      (repeat (refine IsQ.go (by assumption) ?_; (try dsimp only); (try simp only [E0])))
      cases hF
      exact ⟨_, hb8 _ rfl, (Upd.sub (show 0 ≤ 0 by decide) (by simp [go_sem, envSub, Env.get]) trivial)⟩
  rintro ⟨⟩ hF
  (try dsimp only at hF ⊢)
  (repeat (refine IsQ.go (by assumption) ?_; (try dsimp only); (try simp only [reduceCtorEq, E0])))
  refine aw_srJ ⟨[(2, .p (vb ((decide ((v0.b.size : Int) ≥ 1)) && (decide ((v0.b.size : Int) ≤ 100)))))], [], 0⟩ (fun K hK => ?_) ?_
  · (try simp only [go_sem])
    (try simp only [go_sem])
    refine vOps_split rfl ?_ ?_ <;> intro hg13 <;> (try simp only [hg13, go_sem])
    · (try simp only [go_sem, hg13])
      refine IsK.go (by assumption) ?_
      exact (Upd.sub (show 0 ≤ 0 by decide) (by simp [go_sem, envSub, Env.get, hg13]) trivial)
    · (try simp only [go_sem, hg13])
      refine IsK.go (by assumption) ?_
      exact (Upd.sub (show 0 ≤ 0 by decide) (by simp [go_sem, envSub, Env.get, hg13]) trivial)
  refine aw_ret ?_
  (repeat (refine IsQ.go (by assumption) ?_; (try dsimp only); (try simp only [reduceCtorEq, E0])))
  cases hF
  simp only [go_sem]
theorem ref11_isDay_ok {v0 : Int} {r0} (hF : ref11_isDay v0 = some r0) : APure Try.prog 69 [.p (vi v0)] (.p (vb r0)) := by
  refine apureZ 2 rc69_ok rfl ?_
  simp only [rc69, argEnv]
  unfold ref11_isDay at hF
  refine aw_srH fun K hK => ?_
  (try simp only [go_sem])
  refine IsK.go (by assumption) ?_
  refine aw_srJ ⟨[(2, .p (vb ((decide (v0 ≥ 0)) && (decide (v0 ≤ 1000000)))))], [], 0⟩ (fun K hK => ?_) ?_
  · (try simp only [go_sem])
    (try simp only [go_sem])
    refine vOps_split rfl ?_ ?_ <;> intro hg1 <;> (try simp only [hg1, go_sem])
    · (try simp only [go_sem, hg1])
      refine IsK.go (by assumption) ?_
      exact (Upd.sub (show 0 ≤ 0 by decide) (by simp [go_sem, envSub, Env.get, hg1]) trivial)
    · (try simp only [go_sem, hg1])
      refine IsK.go (by assumption) ?_
      exact (Upd.sub (show 0 ≤ 0 by decide) (by simp [go_sem, envSub, Env.get, hg1]) trivial)
  refine aw_ret ?_
  (repeat (refine IsQ.go (by assumption) ?_; (try dsimp only); (try simp only [reduceCtorEq, E0])))
  cases hF
  simp only [go_sem]
theorem ref11_before_ok {v0 : T_api_Exposure} {v1 : T_api_Exposure} {r0} (hF : ref11_before v0 v1 = some r0) : APure Try.prog 131 [.p (.agg [vs v0.Advisory.b, vs v0.Component.b, vi v0.Severity]), .p (.agg [vs v1.Advisory.b, vs v1.Component.b, vi v1.Severity])] (.p (vb r0)) := by
  refine apureZ 2 rc131_ok rfl ?_
  simp only [rc131, argEnv, Nat.reduceAdd]
  unfold ref11_before at hF
  refine aw_srH fun K hK => ?_
  (try simp only [go_sem])
  refine IsK.go (by assumption) ?_
  refine aw_srJ ⟨[(4, .p (vb ((sLt v0.Advisory.b v1.Advisory.b) || ((sEq v0.Advisory.b v1.Advisory.b) && (sLt v0.Component.b v1.Component.b)))))], [], 2⟩ (fun K hK => ?_) ?_
  · (try simp only [go_sem])
    (try simp only [go_sem])
    refine vOps_split rfl ?_ ?_ <;> intro hg1 <;> (try simp only [hg1, go_sem])
    · (try simp only [go_sem, hg1])
      refine IsK.go (by assumption) ?_
      exact (Upd.sub (show 2 ≤ 2 by decide) (by simp [go_sem, envSub, Env.get, hg1]) trivial)
    · (try simp only [go_sem, hg1])
      refine vOps_split rfl ?_ ?_ <;> intro hg2 <;> (try simp only [hg2, go_sem])
      · (try simp only [go_sem, hg1, hg2])
        refine IsK.go (by assumption) ?_
        exact (Upd.sub (show 2 ≤ 2 by decide) (by simp [go_sem, envSub, Env.get, hg1, hg2]) trivial)
      · (try simp only [go_sem, hg1, hg2])
        refine IsK.go (by assumption) ?_
        exact (Upd.sub (show 2 ≤ 2 by decide) (by simp [go_sem, envSub, Env.get, hg1, hg2]) trivial)
  refine aw_ret ?_
  (repeat (refine IsQ.go (by assumption) ?_; (try dsimp only); (try simp only [reduceCtorEq, E0])))
  cases hF
  simp only [go_sem]
theorem ref11_exposuresFault_ok {v0 : List T_api_Exposure} {r0} (hF : ref11_exposuresFault v0 = some r0) : APure Try.prog 94 [.p (.sl (v0.map T_api_Exposure.c))] (.p (vi r0)) := by
  refine apureZ 2 rc94_ok rfl ?_
  simp only [rc94, argEnv]
  unfold ref11_exposuresFault at hF
  refine aw_srH fun K hK => ?_
  (try simp only [go_sem])
  refine IsK.go (by assumption) ?_
  refine aw_seqH fun Q hQ => ?_
  refine aw_srH fun K hK => ?_
  (try simp only [go_sem])
  refine IsK.go (by assumption) ?_
  refine aw_cond rfl (fun hc => ?_) (fun hc => ?_)
  · replace hF := if_t hc hF
    refine aw_srH fun K hK => ?_
    (try simp only [go_sem])
    refine IsK.go (by assumption) ?_
    refine aw_ret ?_
    (repeat (refine IsQ.go (by assumption) ?_; (try dsimp only); (try simp only [reduceCtorEq, E0])))
    cases hF
    simp only [go_sem]
  · replace hF := if_f hc hF
    refine aw_skip ?_
    (repeat (refine IsQ.go (by assumption) ?_; (try dsimp only); (try simp only [reduceCtorEq, E0])))
    refine aw_seqH fun Q hQ => ?_
    refine aw_srH fun K hK => ?_
    (try simp only [go_sem])
    refine IsK.go (by assumption) ?_
    refine aw_joinX hF (fun (_ : Unit) => ⟨[], [], 0⟩) ?_ ?_
    · intro y17 hF hj17 Q hQ
      refine aw_blockH fun Q hQ => ?_
      refine aw_fact 0 rfl (fun _ _ => sl_lim) fun hl3 => ?_; simp only [List.length_map, top] at hl3
      refine aw_forL hF (fun i1 _ => ⟨[(0, .p (.sl (v0.map T_api_Exposure.c))), (8, .p (.sl (v0.map T_api_Exposure.c))), (9, .p (vi (v0.length : Int))), (10, .p (vi (i1 : Int)))], [], 0⟩) (Upd.sub (show 0 ≤ 0 by decide) (by simp [go_sem, envSub, Env.get]) trivial) ?_ ?_
      · rintro ⟨⟩ hy Q hQ
        (try dsimp only at hy ⊢)
        have hlt : decide (((v0.length : Int) : Int) < (v0.length : Int)) = false := by simp
        refine aw_srH fun K hK => ?_
        (try simp only [go_sem, hlt])
        refine IsK.go (by assumption) ?_
        refine aw_seqH fun Q hQ => ?_
        refine aw_cond rfl (fun hc => ?_) (fun hc => ?_)
        · cases hc
        refine aw_exit ?_
        (repeat (refine IsQ.go (by assumption) ?_; (try dsimp only); (try simp only [E0])))
        exact ⟨_, hy, (Upd.sub (show 0 ≤ 0 by decide) (by simp [go_sem, envSub]) trivial)⟩
      · rintro i1 x4 ⟨⟩ z17 hi hx hF hb17 hr17 Q hQ
        (try dsimp only at hF ⊢)
        have hlt : decide ((i1 : Int) < (v0.length : Int)) = true := by simp; omega
        have hw2 : IntKind.i64.wrap ((i1 : Int) + 1) = ((i1 + 1 : Nat) : Int) := by rw [wrap64 (by omega) (by omega)]; simp
        refine aw_srH fun K hK => ?_
        (try simp only [go_sem, hlt])
        refine IsK.go (by assumption) ?_
        refine aw_seqH fun Q hQ => ?_
        refine aw_cond rfl (fun hc => ?_) (fun hc => ?_)
        rotate_left; · cases hc
        refine aw_skip ?_
        (repeat (refine IsQ.go (by assumption) ?_; (try dsimp only); (try simp only [reduceCtorEq, E0])))
        refine aw_seqH fun Q hQ => ?_
        refine aw_blockH fun Q hQ => ?_
        refine aw_srH fun K hK => ?_
        (try simp only [go_sem, hx])
        refine IsK.go (by assumption) ?_
        refine aw_blockH fun Q hQ => ?_
        obtain ⟨y18, h19, hF⟩ := bind_some hF
        obtain ⟨b22, h23, hF⟩ := bind_some hF
        refine aw_srJ ⟨[(0, .p (.sl (v0.map T_api_Exposure.c))), (3, .p (vi (i1 : Int))), (4, .bp 0 0), (8, .p (.sl (v0.map T_api_Exposure.c))), (9, .p (vi (v0.length : Int))), (10, .p (vi (i1 : Int))), (15, .p (vb b22))], [(0, .cells [.p (vs x4.Advisory.b), .p (vs x4.Component.b), .p (vi x4.Severity)])], 1⟩ (fun K hK => ?_) ?_
        · (try simp only [go_sem])
          (try simp only [go_sem])
          refine call_pure (ref11_isName_ok h19) rfl (by simp only [go_sem]) (by simp only [go_sem]) ?_
          (try dsimp only); (try simp only [go_sem])
          (try simp only [go_sem])
          refine vOps_split rfl ?_ ?_ <;> intro hg24 <;> (try simp only [hg24, go_sem])
          · simp only [hg24, gbS] at h23
            cases h23
            (try simp only [go_sem, hg24])
            refine IsK.go (by assumption) ?_
            exact (Upd.sub (show 1 ≤ 1 by decide) (by simp [go_sem, envSub, Env.get]) (by simp [go_sem, heapSub, Heap.get, belowO]))
          · simp only [hg24, gbS] at h23
            obtain ⟨y25, h26, h23⟩ := bind_some h23
            (try simp only [go_sem, hg24])
            refine call_pure (ref11_isName_ok h26) rfl (by simp only [go_sem]) (by simp only [go_sem]) ?_
            (try dsimp only); (try simp only [go_sem])
            cases h23
            (try simp only [go_sem, hg24])
            refine IsK.go (by assumption) ?_
            exact (Upd.sub (show 1 ≤ 1 by decide) (by simp [go_sem, envSub, Env.get]) (by simp [go_sem, heapSub, Heap.get, belowO]))
        refine aw_cond rfl (fun hc => ?_) (fun hc => ?_)
        · replace hF := if_t hc hF
          refine aw_srH fun K hK => ?_
          (try simp only [go_sem])
          refine IsK.go (by assumption) ?_
          refine aw_ret ?_
          (repeat (refine IsQ.go (by assumption) ?_; (try dsimp only); (try simp only [reduceCtorEq, E0])))
          cases hF
          cases (hj17 _ (hr17 _ rfl))
          simp only [go_sem]
        · replace hF := if_f hc hF
          refine aw_srJ ⟨[(0, .p (.sl (v0.map T_api_Exposure.c))), (3, .p (vi (i1 : Int))), (4, .bp 0 0), (8, .p (.sl (v0.map T_api_Exposure.c))), (9, .p (vi (v0.length : Int))), (10, .p (vi (i1 : Int))), (26, .p (vb ((decide (x4.Severity < 0)) || (decide (x4.Severity > 100)))))], [(0, .cells [.p (vs x4.Advisory.b), .p (vs x4.Component.b), .p (vi x4.Severity)])], 1⟩ (fun K hK => ?_) ?_
          · (try simp only [go_sem])
            (try simp only [go_sem])
            refine vOps_split rfl ?_ ?_ <;> intro hg27 <;> (try simp only [hg27, go_sem])
            · (try simp only [go_sem, hg27])
              refine IsK.go (by assumption) ?_
              exact (Upd.sub (show 1 ≤ 1 by decide) (by simp [go_sem, envSub, Env.get, hg27]) (by simp [go_sem, heapSub, Heap.get, belowO]))
            · (try simp only [go_sem, hg27])
              refine IsK.go (by assumption) ?_
              exact (Upd.sub (show 1 ≤ 1 by decide) (by simp [go_sem, envSub, Env.get, hg27]) (by simp [go_sem, heapSub, Heap.get, belowO]))
          refine aw_cond rfl (fun hc => ?_) (fun hc => ?_)
          · replace hF := if_t hc hF
            refine aw_srH fun K hK => ?_
            (try simp only [go_sem])
            refine IsK.go (by assumption) ?_
            refine aw_ret ?_
            (repeat (refine IsQ.go (by assumption) ?_; (try dsimp only); (try simp only [reduceCtorEq, E0])))
            cases hF
            cases (hj17 _ (hr17 _ rfl))
            simp only [go_sem]
          · replace hF := if_f hc hF
            obtain ⟨b32, h33, hF⟩ := bind_some hF
            refine aw_sdJ ⟨[(0, .p (.sl (v0.map T_api_Exposure.c))), (8, .p (.sl (v0.map T_api_Exposure.c))), (9, .p (vi (v0.length : Int))), (10, .p (vi (i1 : Int))), (35, .p (vb b32))], [], 1⟩ (fun K hK => ?_) ?_
            · (try simp only [go_sem])
              (try simp only [go_sem])
              refine vD_split rfl ?_ ?_ <;> intro hg34 <;> (try simp only [hg34, go_sem])
              · simp only [hg34, gbS] at h33
                obtain ⟨x35, h36, h33⟩ := bind_some h33
                replace h36 := idx_map T_api_Exposure.c h36; (try simp only [go_sem] at h36)
                obtain ⟨y37, h38, h33⟩ := bind_some h33
                (try simp only [go_sem, h36])
                refine ⟨_, call_pure (ref11_before_ok h38) rfl (by simp only [go_sem]) (by simp only [go_sem]) ⟨rfl, rfl, rfl⟩, ?_⟩
                (try dsimp only); (try simp only [go_sem])
                cases h33
                (try simp only [go_sem, h36, hg34])
                refine IsK.go (by assumption) ?_
                exact (Upd.sub (show 1 ≤ 1 by decide) (by simp [go_sem, envSub, Env.get]) trivial)
              · simp only [hg34, gbS] at h33
                cases h33
                (try simp only [go_sem, hg34])
                refine IsK.go (by assumption) ?_
                exact (Upd.sub (show 1 ≤ 1 by decide) (by simp [go_sem, envSub, Env.get]) trivial)
            refine aw_cond rfl (fun hc => ?_) (fun hc => ?_)
            · replace hF := if_t hc hF
              refine aw_srH fun K hK => ?_
              (try simp only [go_sem])
              refine IsK.go (by assumption) ?_
              refine aw_ret ?_
              (repeat (refine IsQ.go (by assumption) ?_; (try dsimp only); (try simp only [reduceCtorEq, E0])))
              cases hF
              cases (hj17 _ (hr17 _ rfl))
              simp only [go_sem]
            · replace hF := if_f hc hF
              refine aw_skip ?_
              (repeat (refine IsQ.go (by assumption) ?_; (try dsimp only); (try simp only [reduceCtorEq, E0])))
              refine aw_region ?_
              (try simp only [go_sem, hw2])
              (repeat (refine IsQ.go (by assumption) ?_; (try dsimp only); (try simp only [reduceCtorEq, E0])))
              cases hF
              exact ⟨_, rfl, (Upd.sub (show 0 ≤ 0 by decide) (by simp [go_sem, envSub, Env.get]) trivial)⟩
    rintro ⟨⟩ hF
    (try dsimp only at hF ⊢)
    (repeat (refine IsQ.go (by assumption) ?_; (try dsimp only); (try simp only [reduceCtorEq, E0])))
    refine aw_srH fun K hK => ?_
    (try simp only [go_sem])
    refine IsK.go (by assumption) ?_
    refine aw_ret ?_
    (repeat (refine IsQ.go (by assumption) ?_; (try dsimp only); (try simp only [reduceCtorEq, E0])))
    cases hF
    simp only [go_sem]
theorem history_isRun_ok {v0 : Str} {r0} (hF : history_isRun v0 = some r0) : APure Try.prog 132 [.p (vs v0.b)] (.p (vb r0)) := by
  refine apureZ 2 rc132_ok rfl ?_
  simp only [rc132, argEnv]
  unfold history_isRun at hF
  refine aw_srH fun K hK => ?_
  (try simp only [go_sem])
  refine IsK.go (by assumption) ?_
  refine aw_seqH fun Q hQ => ?_
  refine aw_srH fun K hK => ?_
  (try simp only [go_sem])
  refine IsK.go (by assumption) ?_
  refine aw_joinX hF (fun (_ : Unit) => ⟨[(0, .p (vs v0.b))], [], 0⟩) ?_ ?_
  · intro y7 hF hj7 Q hQ
    refine aw_blockH fun Q hQ => ?_
    have hl3 := v0.h; unfold top at hl3
    refine aw_forN hF (fun i1 _ => ⟨[(0, .p (vs v0.b)), (5, .p (vi (v0.b.size : Int))), (6, .p (vi (i1 : Int)))], [], 0⟩) (Upd.sub (show 0 ≤ 0 by decide) (by simp [go_sem, envSub, Env.get]) trivial) ?_ ?_
    · rintro ⟨⟩ hy Q hQ
      (try dsimp only at hy ⊢)
      have hlt : decide (((v0.b.size : Int) : Int) < (v0.b.size : Int)) = false := by simp
      refine aw_srH fun K hK => ?_
      (try simp only [go_sem, hlt])
      refine IsK.go (by assumption) ?_
      refine aw_seqH fun Q hQ => ?_
      refine aw_cond rfl (fun hc => ?_) (fun hc => ?_)
      · cases hc
      refine aw_exit ?_
      (repeat (refine IsQ.go (by assumption) ?_; (try dsimp only); (try simp only [E0])))
      exact ⟨_, hy, (Upd.sub (show 0 ≤ 0 by decide) (by simp [go_sem, envSub, Env.get]) trivial)⟩
    · rintro i1 ⟨⟩ z7 hi hF hb7 hr7 Q hQ
      (try dsimp only at hF ⊢)
      have hlt : decide ((i1 : Int) < (v0.b.size : Int)) = true := by simp; omega
      have hw2 : IntKind.i64.wrap ((i1 : Int) + 1) = ((i1 + 1 : Nat) : Int) := by rw [wrap64 (by omega) (by omega)]; simp
      refine aw_srH fun K hK => ?_
      (try simp only [go_sem, hlt])
      refine IsK.go (by assumption) ?_
      refine aw_seqH fun Q hQ => ?_
      refine aw_cond rfl (fun hc => ?_) (fun hc => ?_)
      rotate_left; · cases hc
      refine aw_skip ?_
      (repeat (refine IsQ.go (by assumption) ?_; (try dsimp only); (try simp only [reduceCtorEq, E0])))
      refine aw_seqH fun Q hQ => ?_
      refine aw_blockH fun Q hQ => ?_
      refine aw_srH fun K hK => ?_
      (try simp only [go_sem])
      refine IsK.go (by assumption) ?_
      obtain ⟨c8, h9, hF⟩ := bind_some hF
      obtain ⟨h90, b10, h91, h9v⟩ := sidx_some h9; replace h9v := h9v.symm
      replace h9 : _ ∧ _ := ⟨h90, h91⟩; clear h90 h91; (try simp only [go_sem] at h9)
      refine aw_srJ ⟨[(0, .p (vs v0.b)), (5, .p (vi (v0.b.size : Int))), (6, .p (vi (i1 : Int))), (18, .p (vb ((decide (c8 < 33)) || (decide (c8 > 126)))))], [], 0⟩ (fun K hK => ?_) ?_
      · (try simp only [go_sem, h9, h9v])
        (try simp only [go_sem, h9, h9v])
        refine vOps_split rfl ?_ ?_ <;> intro hg11 <;> (try simp only [hg11, go_sem, h9, h9v])
        · (try simp only [go_sem, h9, h9v, hg11])
          refine IsK.go (by assumption) ?_
          exact (Upd.sub (show 0 ≤ 0 by decide) (by simp [go_sem, envSub, Env.get, hg11]) trivial)
        · (try simp only [go_sem, h9, h9v, hg11])
          refine IsK.go (by assumption) ?_
          exact (Upd.sub (show 0 ≤ 0 by decide) (by simp [go_sem, envSub, Env.get, hg11]) trivial)
      refine aw_cond rfl (fun hc => ?_) (fun hc => ?_)
      · replace hF := if_t hc hF
        refine aw_srH fun K hK => ?_
        (try simp only [go_sem])
        refine IsK.go (by assumption) ?_
        refine aw_ret ?_
        (repeat (refine IsQ.go (by assumption) ?_; (try dsimp only); (try simp only [reduceCtorEq, E0])))
        cases hF
        cases (hj7 _ (hr7 _ rfl))
        simp only [go_sem]
      · replace hF := if_f hc hF
        refine aw_skip ?_
        (repeat (refine IsQ.go (by assumption) ?_; (try dsimp only); (try simp only [reduceCtorEq, E0])))
        refine aw_region ?_
        (try simp only [go_sem, hw2])
        (repeat (refine IsQ.go (by assumption) ?_; (try dsimp only); (try simp only [reduceCtorEq, E0])))
        cases hF
        exact ⟨_, rfl, (Upd.sub (show 0 ≤ 0 by decide) (by simp [go_sem, envSub, Env.get]) trivial)⟩
  rintro ⟨⟩ hF
  (try dsimp only at hF ⊢)
  (repeat (refine IsQ.go (by assumption) ?_; (try dsimp only); (try simp only [reduceCtorEq, E0])))
  refine aw_srH fun K hK => ?_
  (try simp only [go_sem])
  refine IsK.go (by assumption) ?_
  refine aw_ret ?_
  (repeat (refine IsQ.go (by assumption) ?_; (try dsimp only); (try simp only [reduceCtorEq, E0])))
  cases hF
  simp only [go_sem]
theorem history_isName_ok {v0 : Str} {r0} (hF : history_isName v0 = some r0) : APure Try.prog 96 [.p (vs v0.b)] (.p (vb r0)) := by
  refine apureZ 2 rc96_ok rfl ?_
  simp only [rc96, argEnv]
  unfold history_isName at hF
  refine aw_srH fun K hK => ?_
  (try simp only [go_sem])
  refine IsK.go (by assumption) ?_
  obtain ⟨y1, h2, hF⟩ := bind_some hF
  refine aw_srJ ⟨[(2, .p (vb (y1 && (decide ((v0.b.size : Int) ≤ 100)))))], [], 0⟩ (fun K hK => ?_) ?_
  · (try simp only [go_sem])
    (try simp only [go_sem])
    refine call_pure (history_isRun_ok h2) rfl (by simp only [go_sem]) (by simp only [go_sem]) ?_
    (try dsimp only); (try simp only [go_sem])
    (try simp only [go_sem])
    refine vOps_split rfl ?_ ?_ <;> intro hg3 <;> (try simp only [hg3, go_sem])
    · (try simp only [go_sem, hg3])
      refine IsK.go (by assumption) ?_
      exact (Upd.sub (show 0 ≤ 0 by decide) (by simp [go_sem, envSub, Env.get, hg3]) trivial)
    · (try simp only [go_sem, hg3])
      refine IsK.go (by assumption) ?_
      exact (Upd.sub (show 0 ≤ 0 by decide) (by simp [go_sem, envSub, Env.get, hg3]) trivial)
  refine aw_ret ?_
  (repeat (refine IsQ.go (by assumption) ?_; (try dsimp only); (try simp only [reduceCtorEq, E0])))
  cases hF
  simp only [go_sem]
theorem history_isDay_ok {v0 : Int} {r0} (hF : history_isDay v0 = some r0) : APure Try.prog 72 [.p (vi v0)] (.p (vb r0)) := by
  refine apureZ 2 rc72_ok rfl ?_
  simp only [rc72, argEnv]
  unfold history_isDay at hF
  refine aw_srH fun K hK => ?_
  (try simp only [go_sem])
  refine IsK.go (by assumption) ?_
  refine aw_srJ ⟨[(2, .p (vb ((decide (v0 ≥ 0)) && (decide (v0 ≤ 1000000)))))], [], 0⟩ (fun K hK => ?_) ?_
  · (try simp only [go_sem])
    (try simp only [go_sem])
    refine vOps_split rfl ?_ ?_ <;> intro hg1 <;> (try simp only [hg1, go_sem])
    · (try simp only [go_sem, hg1])
      refine IsK.go (by assumption) ?_
      exact (Upd.sub (show 0 ≤ 0 by decide) (by simp [go_sem, envSub, Env.get, hg1]) trivial)
    · (try simp only [go_sem, hg1])
      refine IsK.go (by assumption) ?_
      exact (Upd.sub (show 0 ≤ 0 by decide) (by simp [go_sem, envSub, Env.get, hg1]) trivial)
  refine aw_ret ?_
  (repeat (refine IsQ.go (by assumption) ?_; (try dsimp only); (try simp only [reduceCtorEq, E0])))
  cases hF
  simp only [go_sem]
theorem history_keyOf_ok {v0 : T_api_Exposure} {r0} (hF : history_keyOf v0 = some r0) : APure Try.prog 86 [.p (.agg [vs v0.Advisory.b, vs v0.Component.b, vi v0.Severity])] (.p (.agg [vs r0.advisory.b, vs r0.component.b])) := by
  refine apureZ 2 rc86_ok rfl ?_
  simp only [rc86, argEnv]
  unfold history_keyOf at hF
  refine aw_srH fun K hK => ?_
  (try simp only [go_sem])
  refine IsK.go (by assumption) ?_
  refine aw_srH fun K hK => ?_
  (try simp only [go_sem])
  refine IsK.go (by assumption) ?_
  refine aw_ret ?_
  (repeat (refine IsQ.go (by assumption) ?_; (try dsimp only); (try simp only [reduceCtorEq, E0])))
  cases hF
  simp only [go_sem]
theorem cmp_isNaN_string_ok {v0 : Str} {r0} (hF : cmp_isNaN_string v0 = some r0) : APure Try.prog 152 [.p (vs v0.b)] (.p (vb r0)) := by
  refine apureZ 2 rc152_ok rfl ?_
  simp only [rc152, argEnv]
  unfold cmp_isNaN_string at hF
  refine aw_srH fun K hK => ?_
  (try simp only [go_sem])
  refine IsK.go (by assumption) ?_
  refine aw_srH fun K hK => ?_
  (try simp only [go_sem])
  refine IsK.go (by assumption) ?_
  refine aw_ret ?_
  (repeat (refine IsQ.go (by assumption) ?_; (try dsimp only); (try simp only [reduceCtorEq, E0])))
  cases hF
  simp only [go_sem]
theorem cmp_Compare_string_ok {v0 : Str} {v1 : Str} {r0} (hF : cmp_Compare_string v0 v1 = some r0) : APure Try.prog 138 [.p (vs v0.b), .p (vs v1.b)] (.p (vi r0)) := by
  refine apureZ 2 rc138_ok rfl ?_
  simp only [rc138, argEnv, Nat.reduceAdd]
  unfold cmp_Compare_string at hF
  refine aw_srH fun K hK => ?_
  (try simp only [go_sem])
  refine IsK.go (by assumption) ?_
  obtain ⟨y1, h2, hF⟩ := bind_some hF
  refine aw_srH fun K hK => ?_
  (try simp only [go_sem])
  refine call_pure (cmp_isNaN_string_ok h2) rfl (by simp only [go_sem]) (by simp only [go_sem]) ?_
  (try dsimp only); (try simp only [go_sem])
  refine IsK.go (by assumption) ?_
  obtain ⟨y3, h4, hF⟩ := bind_some hF
  refine aw_srH fun K hK => ?_
  (try simp only [go_sem])
  refine call_pure (cmp_isNaN_string_ok h4) rfl (by simp only [go_sem]) (by simp only [go_sem]) ?_
  (try dsimp only); (try simp only [go_sem])
  refine IsK.go (by assumption) ?_
  refine aw_seqH fun Q hQ => ?_
  refine aw_srH fun K hK => ?_
  (try simp only [go_sem])
  refine IsK.go (by assumption) ?_
  refine aw_cond rfl (fun hc => ?_) (fun hc => ?_)
  · replace hF := if_t hc hF
    refine aw_seqH fun Q hQ => ?_
    refine aw_srH fun K hK => ?_
    (try simp only [go_sem])
    refine IsK.go (by assumption) ?_
    refine aw_cond rfl (fun hc => ?_) (fun hc => ?_)
    · replace hF := if_t hc hF
      refine aw_srH fun K hK => ?_
      (try simp only [go_sem])
      refine IsK.go (by assumption) ?_
      refine aw_ret ?_
      (repeat (refine IsQ.go (by assumption) ?_; (try dsimp only); (try simp only [reduceCtorEq, E0])))
      cases hF
      simp only [go_sem]
    · replace hF := if_f hc hF
      refine aw_skip ?_
      (repeat (refine IsQ.go (by assumption) ?_; (try dsimp only); (try simp only [reduceCtorEq, E0])))
      refine aw_srH fun K hK => ?_
      (try simp only [go_sem])
      refine IsK.go (by assumption) ?_
      refine aw_ret ?_
      (repeat (refine IsQ.go (by assumption) ?_; (try dsimp only); (try simp only [reduceCtorEq, E0])))
      cases hF
      simp only [go_sem]
  · replace hF := if_f hc hF
    refine aw_skip ?_
    (repeat (refine IsQ.go (by assumption) ?_; (try dsimp only); (try simp only [reduceCtorEq, E0])))
    refine aw_seqH fun Q hQ => ?_
    refine aw_srH fun K hK => ?_
    (try simp only [go_sem])
    refine IsK.go (by assumption) ?_
    refine aw_cond rfl (fun hc => ?_) (fun hc => ?_)
    · replace hF := if_t hc hF
      refine aw_srH fun K hK => ?_
      (try simp only [go_sem])
      refine IsK.go (by assumption) ?_
      refine aw_ret ?_
      (repeat (refine IsQ.go (by assumption) ?_; (try dsimp only); (try simp only [reduceCtorEq, E0])))
      cases hF
      simp only [go_sem]
    · replace hF := if_f hc hF
      refine aw_skip ?_
      (repeat (refine IsQ.go (by assumption) ?_; (try dsimp only); (try simp only [reduceCtorEq, E0])))
      refine aw_seqH fun Q hQ => ?_
      refine aw_srH fun K hK => ?_
      (try simp only [go_sem])
      refine IsK.go (by assumption) ?_
      refine aw_cond rfl (fun hc => ?_) (fun hc => ?_)
      · replace hF := if_t hc hF
        refine aw_srH fun K hK => ?_
        (try simp only [go_sem])
        refine IsK.go (by assumption) ?_
        refine aw_ret ?_
        (repeat (refine IsQ.go (by assumption) ?_; (try dsimp only); (try simp only [reduceCtorEq, E0])))
        cases hF
        simp only [go_sem]
      · replace hF := if_f hc hF
        refine aw_skip ?_
        (repeat (refine IsQ.go (by assumption) ?_; (try dsimp only); (try simp only [reduceCtorEq, E0])))
        refine aw_seqH fun Q hQ => ?_
        refine aw_srH fun K hK => ?_
        (try simp only [go_sem])
        refine IsK.go (by assumption) ?_
        refine aw_cond rfl (fun hc => ?_) (fun hc => ?_)
        · replace hF := if_t hc hF
          refine aw_srH fun K hK => ?_
          (try simp only [go_sem])
          refine IsK.go (by assumption) ?_
          refine aw_ret ?_
          (repeat (refine IsQ.go (by assumption) ?_; (try dsimp only); (try simp only [reduceCtorEq, E0])))
          cases hF
          simp only [go_sem]
        · replace hF := if_f hc hF
          refine aw_skip ?_
          (repeat (refine IsQ.go (by assumption) ?_; (try dsimp only); (try simp only [reduceCtorEq, E0])))
          refine aw_srH fun K hK => ?_
          (try simp only [go_sem])
          refine IsK.go (by assumption) ?_
          refine aw_ret ?_
          (repeat (refine IsQ.go (by assumption) ?_; (try dsimp only); (try simp only [reduceCtorEq, E0])))
          cases hF
          simp only [go_sem]
theorem cmp_Or_int_ok {v0 : List Int} {r0} (hF : cmp_Or_int v0 = some r0) : APure Try.prog 150 [.p (.sl (v0.map cI))] (.p (vi r0)) := by
  refine apureZ 2 rc150_ok rfl ?_
  simp only [rc150, argEnv]
  unfold cmp_Or_int at hF
  refine aw_srH fun K hK => ?_
  (try simp only [go_sem])
  refine IsK.go (by assumption) ?_
  refine aw_srH fun K hK => ?_
  (try simp only [go_sem])
  refine IsK.go (by assumption) ?_
  refine aw_seqH fun Q hQ => ?_
  refine aw_srH fun K hK => ?_
  (try simp only [go_sem])
  refine IsK.go (by assumption) ?_
  refine aw_joinX hF (fun (_ : Unit) => ⟨[(3, .p (vi 0))], [], 0⟩) ?_ ?_
  · intro y5 hF hj5 Q hQ
    refine aw_blockH fun Q hQ => ?_
    refine aw_fact 6 rfl (fun _ _ => sl_lim) fun hl3 => ?_; simp only [List.length_map, top] at hl3
    refine aw_forL hF (fun i1 _ => ⟨[(3, .p (vi 0)), (6, .p (.sl (v0.map cI))), (7, .p (vi (v0.length : Int))), (8, .p (vi (i1 : Int)))], [], 0⟩) (Upd.sub (show 0 ≤ 0 by decide) (by simp [go_sem, envSub, Env.get]) trivial) ?_ ?_
    · rintro ⟨⟩ hy Q hQ
      (try dsimp only at hy ⊢)
      have hlt : decide (((v0.length : Int) : Int) < (v0.length : Int)) = false := by simp
      refine aw_srH fun K hK => ?_
      (try simp only [go_sem, hlt])
      refine IsK.go (by assumption) ?_
      refine aw_seqH fun Q hQ => ?_
      refine aw_cond rfl (fun hc => ?_) (fun hc => ?_)
      · cases hc
      refine aw_exit ?_
      (repeat (refine IsQ.go (by assumption) ?_; (try dsimp only); (try simp only [E0])))
      exact ⟨_, hy, (Upd.sub (show 0 ≤ 0 by decide) (by simp [go_sem, envSub, Env.get]) trivial)⟩
    · rintro i1 x4 ⟨⟩ z5 hi hx hF hb5 hr5 Q hQ
      (try dsimp only at hF ⊢)
      have hlt : decide ((i1 : Int) < (v0.length : Int)) = true := by simp; omega
      have hw2 : IntKind.i64.wrap ((i1 : Int) + 1) = ((i1 + 1 : Nat) : Int) := by rw [wrap64 (by omega) (by omega)]; simp
      refine aw_srH fun K hK => ?_
      (try simp only [go_sem, hlt])
      refine IsK.go (by assumption) ?_
      refine aw_seqH fun Q hQ => ?_
      refine aw_cond rfl (fun hc => ?_) (fun hc => ?_)
      rotate_left; · cases hc
      refine aw_skip ?_
      (repeat (refine IsQ.go (by assumption) ?_; (try dsimp only); (try simp only [reduceCtorEq, E0])))
      refine aw_seqH fun Q hQ => ?_
      refine aw_blockH fun Q hQ => ?_
      refine aw_srH fun K hK => ?_
      (try simp only [go_sem, hx])
      refine IsK.go (by assumption) ?_
      refine aw_srH fun K hK => ?_
      (try simp only [go_sem])
      refine IsK.go (by assumption) ?_
      refine aw_cond rfl (fun hc => ?_) (fun hc => ?_)
      · replace hF := if_t hc hF
        refine aw_srH fun K hK => ?_
        (try simp only [go_sem])
        refine IsK.go (by assumption) ?_
        refine aw_ret ?_
        (repeat (refine IsQ.go (by assumption) ?_; (try dsimp only); (try simp only [reduceCtorEq, E0])))
        cases hF
        cases (hj5 _ (hr5 _ rfl))
        simp only [go_sem]
      · replace hF := if_f hc hF
        refine aw_skip ?_
        (repeat (refine IsQ.go (by assumption) ?_; (try dsimp only); (try simp only [reduceCtorEq, E0])))
        refine aw_region ?_
        (try simp only [go_sem, hw2])
        (repeat (refine IsQ.go (by assumption) ?_; (try dsimp only); (try simp only [reduceCtorEq, E0])))
        cases hF
        exact ⟨_, rfl, (Upd.sub (show 0 ≤ 0 by decide) (by simp [go_sem, envSub, Env.get]) trivial)⟩
  rintro ⟨⟩ hF
  (try dsimp only at hF ⊢)
  (repeat (refine IsQ.go (by assumption) ?_; (try dsimp only); (try simp only [reduceCtorEq, E0])))
  refine aw_srH fun K hK => ?_
  (try simp only [go_sem])
  refine IsK.go (by assumption) ?_
  refine aw_ret ?_
  (repeat (refine IsQ.go (by assumption) ?_; (try dsimp only); (try simp only [reduceCtorEq, E0])))
  cases hF
  simp only [go_sem]
theorem history_orderKeys_ok {v0 : T_history_key} {v1 : T_history_key} {r0} (hF : history_orderKeys v0 v1 = some r0) : APure Try.prog 146 [.p (.agg [vs v0.advisory.b, vs v0.component.b]), .p (.agg [vs v1.advisory.b, vs v1.component.b])] (.p (vi r0)) := by
  refine apureZ 2 rc146_ok rfl ?_
  simp only [rc146, argEnv, Nat.reduceAdd]
  unfold history_orderKeys at hF
  refine aw_srH fun K hK => ?_
  (try simp only [go_sem])
  refine IsK.go (by assumption) ?_
  obtain ⟨y1, h2, hF⟩ := bind_some hF
  obtain ⟨y3, h4, hF⟩ := bind_some hF
  obtain ⟨y5, h6, hF⟩ := bind_some hF
  refine aw_sdH fun K hK => ?_
  (try simp only [go_sem])
  refine ⟨_, call_pure (cmp_Compare_string_ok h2) rfl (by simp only [go_sem]) (by simp only [go_sem]) ⟨rfl, rfl, rfl⟩, ?_⟩
  (try dsimp only); (try simp only [go_sem])
  refine ⟨_, call_pure (cmp_Compare_string_ok h4) rfl (by simp only [go_sem]) (by simp only [go_sem]) ⟨rfl, rfl, rfl⟩, ?_⟩
  (try dsimp only); (try simp only [go_sem])
  refine ⟨_, call_lent (cmp_Or_int_ok h6) 1 (by simp only [go_sem]) (by simp only [go_sem]) rfl ⟨rfl, rfl, rfl⟩, ?_⟩
  (try dsimp only); (try simp only [go_sem])
  refine IsK.go (by assumption) ?_
  refine aw_ret ?_
  (repeat (refine IsQ.go (by assumption) ?_; (try dsimp only); (try simp only [reduceCtorEq, E0])))
  cases hF
  simp only [go_sem]
theorem history_checkExposures_ok {v0 : List T_api_Exposure} {r0} (hF : history_checkExposures v0 = some r0) : APure Try.prog 128 [.p (.sl (v0.map T_api_Exposure.c))] (.p (vi r0)) := by
  refine apureZ 2 rc128_ok rfl ?_
  simp only [rc128, argEnv]
  unfold history_checkExposures at hF
  refine aw_srH fun K hK => ?_
  (try simp only [go_sem])
  refine IsK.go (by assumption) ?_
  refine aw_seqH fun Q hQ => ?_
  refine aw_srH fun K hK => ?_
  (try simp only [go_sem])
  refine IsK.go (by assumption) ?_
  refine aw_cond rfl (fun hc => ?_) (fun hc => ?_)
  · replace hF := if_t hc hF
    refine aw_srH fun K hK => ?_
    (try simp only [go_sem])
    refine IsK.go (by assumption) ?_
    refine aw_ret ?_
    (repeat (refine IsQ.go (by assumption) ?_; (try dsimp only); (try simp only [reduceCtorEq, E0])))
    cases hF
    simp only [go_sem]
  · replace hF := if_f hc hF
    refine aw_skip ?_
    (repeat (refine IsQ.go (by assumption) ?_; (try dsimp only); (try simp only [reduceCtorEq, E0])))
    refine aw_seqH fun Q hQ => ?_
    refine aw_srH fun K hK => ?_
    (try simp only [go_sem])
    refine IsK.go (by assumption) ?_
    refine aw_joinX hF (fun (_ : Unit) => ⟨[], [], 0⟩) ?_ ?_
    · intro y21 hF hj21 Q hQ
      refine aw_blockH fun Q hQ => ?_
      refine aw_fact 0 rfl (fun _ _ => sl_lim) fun hl3 => ?_; simp only [List.length_map, top] at hl3
      refine aw_forL hF (fun i1 _ => ⟨[(0, .p (.sl (v0.map T_api_Exposure.c))), (8, .p (.sl (v0.map T_api_Exposure.c))), (9, .p (vi (v0.length : Int))), (10, .p (vi (i1 : Int)))], [], 0⟩) (Upd.sub (show 0 ≤ 0 by decide) (by simp [go_sem, envSub, Env.get]) trivial) ?_ ?_
      · rintro ⟨⟩ hy Q hQ
        (try dsimp only at hy ⊢)
        have hlt : decide (((v0.length : Int) : Int) < (v0.length : Int)) = false := by simp
        refine aw_srH fun K hK => ?_
        (try simp only [go_sem, hlt])
        refine IsK.go (by assumption) ?_
        refine aw_seqH fun Q hQ => ?_
        refine aw_cond rfl (fun hc => ?_) (fun hc => ?_)
        · cases hc
        refine aw_exit ?_
        (repeat (refine IsQ.go (by assumption) ?_; (try dsimp only); (try simp only [E0])))
        exact ⟨_, hy, (Upd.sub (show 0 ≤ 0 by decide) (by simp [go_sem, envSub]) trivial)⟩
      · rintro i1 x4 ⟨⟩ z21 hi hx hF hb21 hr21 Q hQ
        (try dsimp only at hF ⊢)
        have hlt : decide ((i1 : Int) < (v0.length : Int)) = true := by simp; omega
        have hw2 : IntKind.i64.wrap ((i1 : Int) + 1) = ((i1 + 1 : Nat) : Int) := by rw [wrap64 (by omega) (by omega)]; simp
        refine aw_srH fun K hK => ?_
        (try simp only [go_sem, hlt])
        refine IsK.go (by assumption) ?_
        refine aw_seqH fun Q hQ => ?_
        refine aw_cond rfl (fun hc => ?_) (fun hc => ?_)
        rotate_left; · cases hc
        refine aw_skip ?_
        (repeat (refine IsQ.go (by assumption) ?_; (try dsimp only); (try simp only [reduceCtorEq, E0])))
        refine aw_seqH fun Q hQ => ?_
        refine aw_blockH fun Q hQ => ?_
        refine aw_srH fun K hK => ?_
        (try simp only [go_sem, hx])
        refine IsK.go (by assumption) ?_
        refine aw_blockH fun Q hQ => ?_
        obtain ⟨y22, h23, hF⟩ := bind_some hF
        obtain ⟨b26, h27, hF⟩ := bind_some hF
        refine aw_srJ ⟨[(0, .p (.sl (v0.map T_api_Exposure.c))), (3, .p (vi (i1 : Int))), (4, .bp 0 0), (8, .p (.sl (v0.map T_api_Exposure.c))), (9, .p (vi (v0.length : Int))), (10, .p (vi (i1 : Int))), (15, .p (vb b26))], [(0, .cells [.p (vs x4.Advisory.b), .p (vs x4.Component.b), .p (vi x4.Severity)])], 1⟩ (fun K hK => ?_) ?_
        · (try simp only [go_sem])
          (try simp only [go_sem])
          refine call_pure (history_isName_ok h23) rfl (by simp only [go_sem]) (by simp only [go_sem]) ?_
          (try dsimp only); (try simp only [go_sem])
          (try simp only [go_sem])
          refine vOps_split rfl ?_ ?_ <;> intro hg28 <;> (try simp only [hg28, go_sem])
          · simp only [hg28, gbS] at h27
            cases h27
            (try simp only [go_sem, hg28])
            refine IsK.go (by assumption) ?_
            exact (Upd.sub (show 1 ≤ 1 by decide) (by simp [go_sem, envSub, Env.get]) (by simp [go_sem, heapSub, Heap.get, belowO]))
          · simp only [hg28, gbS] at h27
            obtain ⟨y29, h30, h27⟩ := bind_some h27
            (try simp only [go_sem, hg28])
            refine call_pure (history_isName_ok h30) rfl (by simp only [go_sem]) (by simp only [go_sem]) ?_
            (try dsimp only); (try simp only [go_sem])
            cases h27
            (try simp only [go_sem, hg28])
            refine IsK.go (by assumption) ?_
            exact (Upd.sub (show 1 ≤ 1 by decide) (by simp [go_sem, envSub, Env.get]) (by simp [go_sem, heapSub, Heap.get, belowO]))
        refine aw_cond rfl (fun hc => ?_) (fun hc => ?_)
        · replace hF := if_t hc hF
          refine aw_srH fun K hK => ?_
          (try simp only [go_sem])
          refine IsK.go (by assumption) ?_
          refine aw_ret ?_
          (repeat (refine IsQ.go (by assumption) ?_; (try dsimp only); (try simp only [reduceCtorEq, E0])))
          cases hF
          cases (hj21 _ (hr21 _ rfl))
          simp only [go_sem]
        · replace hF := if_f hc hF
          refine aw_srJ ⟨[(0, .p (.sl (v0.map T_api_Exposure.c))), (3, .p (vi (i1 : Int))), (4, .bp 0 0), (8, .p (.sl (v0.map T_api_Exposure.c))), (9, .p (vi (v0.length : Int))), (10, .p (vi (i1 : Int))), (26, .p (vb ((decide (x4.Severity < 0)) || (decide (x4.Severity > 100)))))], [(0, .cells [.p (vs x4.Advisory.b), .p (vs x4.Component.b), .p (vi x4.Severity)])], 1⟩ (fun K hK => ?_) ?_
          · (try simp only [go_sem])
            (try simp only [go_sem])
            refine vOps_split rfl ?_ ?_ <;> intro hg31 <;> (try simp only [hg31, go_sem])
            · (try simp only [go_sem, hg31])
              refine IsK.go (by assumption) ?_
              exact (Upd.sub (show 1 ≤ 1 by decide) (by simp [go_sem, envSub, Env.get, hg31]) (by simp [go_sem, heapSub, Heap.get, belowO]))
            · (try simp only [go_sem, hg31])
              refine IsK.go (by assumption) ?_
              exact (Upd.sub (show 1 ≤ 1 by decide) (by simp [go_sem, envSub, Env.get, hg31]) (by simp [go_sem, heapSub, Heap.get, belowO]))
          refine aw_cond rfl (fun hc => ?_) (fun hc => ?_)
          · replace hF := if_t hc hF
            refine aw_srH fun K hK => ?_
            (try simp only [go_sem])
            refine IsK.go (by assumption) ?_
            refine aw_ret ?_
            (repeat (refine IsQ.go (by assumption) ?_; (try dsimp only); (try simp only [reduceCtorEq, E0])))
            cases hF
            cases (hj21 _ (hr21 _ rfl))
            simp only [go_sem]
          · replace hF := if_f hc hF
            obtain ⟨b40, h41, hF⟩ := bind_some hF
            refine aw_sdJ ⟨[(0, .p (.sl (v0.map T_api_Exposure.c))), (8, .p (.sl (v0.map T_api_Exposure.c))), (9, .p (vi (v0.length : Int))), (10, .p (vi (i1 : Int))), (35, .p (vb b40))], [], 1⟩ (fun K hK => ?_) ?_
            · (try simp only [go_sem])
              (try simp only [go_sem])
              refine vD_split rfl ?_ ?_ <;> intro hg42 <;> (try simp only [hg42, go_sem])
              · simp only [hg42, gbS] at h41
                obtain ⟨x43, h44, h41⟩ := bind_some h41
                replace h44 := idx_map T_api_Exposure.c h44; (try simp only [go_sem] at h44)
                obtain ⟨y45, h46, h41⟩ := bind_some h41
                (try simp only [go_sem, h44])
                refine ⟨_, call_pure (history_keyOf_ok h46) rfl (by simp only [go_sem]) (by simp only [go_sem]) ⟨rfl, rfl, rfl⟩, ?_⟩
                (try dsimp only); (try simp only [go_sem, h44, hg42])
                obtain ⟨y47, h48, h41⟩ := bind_some h41
                (try simp only [go_sem, h44, hg42])
                refine ⟨_, call_pure (history_keyOf_ok h48) rfl (by simp only [go_sem]) (by simp only [go_sem]) ⟨rfl, rfl, rfl⟩, ?_⟩
                (try dsimp only); (try simp only [go_sem, h44, hg42])
                obtain ⟨y49, h50, h41⟩ := bind_some h41
                (try simp only [go_sem, h44, hg42])
                refine ⟨_, call_pure (history_orderKeys_ok h50) rfl (by simp only [go_sem]) (by simp only [go_sem]) ⟨rfl, rfl, rfl⟩, ?_⟩
                (try dsimp only); (try simp only [go_sem])
                cases h41
                (try simp only [go_sem, h44, hg42])
                refine IsK.go (by assumption) ?_
                exact (Upd.sub (show 1 ≤ 1 by decide) (by simp [go_sem, envSub, Env.get]) trivial)
              · simp only [hg42, gbS] at h41
                cases h41
                (try simp only [go_sem, hg42])
                refine IsK.go (by assumption) ?_
                exact (Upd.sub (show 1 ≤ 1 by decide) (by simp [go_sem, envSub, Env.get]) trivial)
            refine aw_cond rfl (fun hc => ?_) (fun hc => ?_)
            · replace hF := if_t hc hF
              refine aw_srH fun K hK => ?_
              (try simp only [go_sem])
              refine IsK.go (by assumption) ?_
              refine aw_ret ?_
              (repeat (refine IsQ.go (by assumption) ?_; (try dsimp only); (try simp only [reduceCtorEq, E0])))
              cases hF
              cases (hj21 _ (hr21 _ rfl))
              simp only [go_sem]
            · replace hF := if_f hc hF
              refine aw_skip ?_
              (repeat (refine IsQ.go (by assumption) ?_; (try dsimp only); (try simp only [reduceCtorEq, E0])))
              refine aw_region ?_
              (try simp only [go_sem, hw2])
              (repeat (refine IsQ.go (by assumption) ?_; (try dsimp only); (try simp only [reduceCtorEq, E0])))
              cases hF
              exact ⟨_, rfl, (Upd.sub (show 0 ≤ 0 by decide) (by simp [go_sem, envSub, Env.get]) trivial)⟩
    rintro ⟨⟩ hF
    (try dsimp only at hF ⊢)
    (repeat (refine IsQ.go (by assumption) ?_; (try dsimp only); (try simp only [reduceCtorEq, E0])))
    refine aw_srH fun K hK => ?_
    (try simp only [go_sem])
    refine IsK.go (by assumption) ?_
    refine aw_ret ?_
    (repeat (refine IsQ.go (by assumption) ?_; (try dsimp only); (try simp only [reduceCtorEq, E0])))
    cases hF
    simp only [go_sem]
theorem slices_Equal_Exposure_Exposure_ok {v0 : List T_api_Exposure} {v1 : List T_api_Exposure} {r0} (hF : slices_Equal_Exposure_Exposure v0 v1 = some r0) : APure Try.prog 30 [.p (.sl (v0.map T_api_Exposure.c)), .p (.sl (v1.map T_api_Exposure.c))] (.p (vb r0)) := by
  refine apureZ 2 rc30_ok rfl ?_
  simp only [rc30, argEnv, Nat.reduceAdd]
  unfold slices_Equal_Exposure_Exposure at hF
  refine aw_srH fun K hK => ?_
  (try simp only [go_sem])
  refine IsK.go (by assumption) ?_
  refine aw_seqH fun Q hQ => ?_
  refine aw_srH fun K hK => ?_
  (try simp only [go_sem])
  refine IsK.go (by assumption) ?_
  refine aw_cond rfl (fun hc => ?_) (fun hc => ?_)
  · replace hF := if_t hc hF
    refine aw_srH fun K hK => ?_
    (try simp only [go_sem])
    refine IsK.go (by assumption) ?_
    refine aw_ret ?_
    (repeat (refine IsQ.go (by assumption) ?_; (try dsimp only); (try simp only [reduceCtorEq, E0])))
    cases hF
    simp only [go_sem]
  · replace hF := if_f hc hF
    refine aw_skip ?_
    (repeat (refine IsQ.go (by assumption) ?_; (try dsimp only); (try simp only [reduceCtorEq, E0])))
    refine aw_seqH fun Q hQ => ?_
    refine aw_srH fun K hK => ?_
    (try simp only [go_sem])
    refine IsK.go (by assumption) ?_
    refine aw_joinX hF (fun (_ : Unit) => ⟨[], [], 0⟩) ?_ ?_
    · intro y7 hF hj7 Q hQ
      refine aw_blockH fun Q hQ => ?_
      refine aw_fact 0 rfl (fun _ _ => sl_lim) fun hl3 => ?_; simp only [List.length_map, top] at hl3
      refine aw_forL hF (fun i1 _ => ⟨[(0, .p (.sl (v0.map T_api_Exposure.c))), (1, .p (.sl (v1.map T_api_Exposure.c))), (12, .p (vi (v0.length : Int))), (13, .p (vi (i1 : Int)))], [], 0⟩) (Upd.sub (show 0 ≤ 0 by decide) (by simp [go_sem, envSub, Env.get]) trivial) ?_ ?_
      · rintro ⟨⟩ hy Q hQ
        (try dsimp only at hy ⊢)
        have hlt : decide (((v0.length : Int) : Int) < (v0.length : Int)) = false := by simp
        refine aw_srH fun K hK => ?_
        (try simp only [go_sem, hlt])
        refine IsK.go (by assumption) ?_
        refine aw_seqH fun Q hQ => ?_
        refine aw_cond rfl (fun hc => ?_) (fun hc => ?_)
        · cases hc
        refine aw_exit ?_
        (repeat (refine IsQ.go (by assumption) ?_; (try dsimp only); (try simp only [E0])))
        exact ⟨_, hy, (Upd.sub (show 0 ≤ 0 by decide) (by simp [go_sem, envSub]) trivial)⟩
      · rintro i1 x4 ⟨⟩ z7 hi hx hF hb7 hr7 Q hQ
        (try dsimp only at hF ⊢)
        have hlt : decide ((i1 : Int) < (v0.length : Int)) = true := by simp; omega
        have hw2 : IntKind.i64.wrap ((i1 : Int) + 1) = ((i1 + 1 : Nat) : Int) := by rw [wrap64 (by omega) (by omega)]; simp
        refine aw_srH fun K hK => ?_
        (try simp only [go_sem, hlt])
        refine IsK.go (by assumption) ?_
        refine aw_seqH fun Q hQ => ?_
        refine aw_cond rfl (fun hc => ?_) (fun hc => ?_)
        rotate_left; · cases hc
        refine aw_skip ?_
        (repeat (refine IsQ.go (by assumption) ?_; (try dsimp only); (try simp only [reduceCtorEq, E0])))
        refine aw_seqH fun Q hQ => ?_
        refine aw_blockH fun Q hQ => ?_
        refine aw_srH fun K hK => ?_
        (try simp only [go_sem])
        refine IsK.go (by assumption) ?_
        obtain ⟨x8, h9, hF⟩ := bind_some hF
        replace h9 := idx_map T_api_Exposure.c h9; (try simp only [go_sem] at h9)
        refine aw_sdH fun K hK => ?_
        (try simp only [go_sem, hx, h9])
        refine IsK.go (by assumption) ?_
        refine aw_cond rfl (fun hc => ?_) (fun hc => ?_)
        · replace hF := if_t hc hF
          refine aw_srH fun K hK => ?_
          (try simp only [go_sem])
          refine IsK.go (by assumption) ?_
          refine aw_ret ?_
          (repeat (refine IsQ.go (by assumption) ?_; (try dsimp only); (try simp only [reduceCtorEq, E0])))
          cases hF
          cases (hj7 _ (hr7 _ rfl))
          simp only [go_sem]
        · replace hF := if_f hc hF
          refine aw_skip ?_
          (repeat (refine IsQ.go (by assumption) ?_; (try dsimp only); (try simp only [reduceCtorEq, E0])))
          refine aw_region ?_
          (try simp only [go_sem, hw2])
          (repeat (refine IsQ.go (by assumption) ?_; (try dsimp only); (try simp only [reduceCtorEq, E0])))
          cases hF
          exact ⟨_, rfl, (Upd.sub (show 0 ≤ 0 by decide) (by simp [go_sem, envSub, Env.get]) trivial)⟩
    rintro ⟨⟩ hF
    (try dsimp only at hF ⊢)
    (repeat (refine IsQ.go (by assumption) ?_; (try dsimp only); (try simp only [reduceCtorEq, E0])))
    refine aw_srH fun K hK => ?_
    (try simp only [go_sem])
    refine IsK.go (by assumption) ?_
    refine aw_ret ?_
    (repeat (refine IsQ.go (by assumption) ?_; (try dsimp only); (try simp only [reduceCtorEq, E0])))
    cases hF
    simp only [go_sem]
theorem law11_told_ok {r0} (hF : law11_told = some r0) : APure Try.prog 23 [] (.p (vb r0)) := by
  cases hF
  exact told23

end Go.Abs
