/- The walks of these functions against the plain ones (printed by a program of this repo). -/
import Derived.Test.YtjjhmldeammecaaRHk
import Derived.Test.YtjjhmldeammecaaGHca
namespace Go.Abs
open Go Go.Proofs
set_option maxRecDepth 8000
theorem ref11_knownFault_ok {v0 : List T_api_Published} {r0} (hF : ref11_knownFault v0 = some r0) : APure Try.prog 95 [.p (.sl (v0.map T_api_Published.c))] (.p (vi r0)) := by
  refine apureZ 2 rc95_ok rfl ?_
  simp only [rc95, argEnv]
  unfold ref11_knownFault at hF
  refine aw_srH fun K hK => ?_
  (try simp only [go_sem])
  refine IsK.go (by assumption) ?_
  refine aw_seqH fun Q hQ => ?_
  refine aw_srH fun K hK => ?_
  (try simp only [go_sem])
  refine IsK.go (by assumption) ?_
  refine aw_joinX hF (fun (_ : Unit) => ⟨[], [], 0⟩) ?_ ?_
  · intro y13 hF hj13 Q hQ
    refine aw_blockH fun Q hQ => ?_
    refine aw_fact 0 rfl (fun _ _ => sl_lim) fun hl3 => ?_; simp only [List.length_map, top] at hl3
    refine aw_forL hF (fun i1 _ => ⟨[(0, .p (.sl (v0.map T_api_Published.c))), (5, .p (.sl (v0.map T_api_Published.c))), (6, .p (vi (v0.length : Int))), (7, .p (vi (i1 : Int)))], [], 0⟩) (Upd.sub (show 0 ≤ 0 by decide) (by simp [go_sem, envSub, Env.get]) trivial) ?_ ?_
    · rintro ⟨⟩ hy Q hQ
      (try dsimp only at hy ⊢)
      have hlt : decide (((v0.length : Int) : Int) < (v0.length : Int)) = false := by simp
      refine aw_srH fun K hK => ?_
      (try simp only [go_sem, hlt])
      refine IsK.go (by assumption) ?_
      refine aw_seqH fun Q hQ => ?_
      refine aw_cond rfl (fun hc => ?_) (fun hc => ?_)
      · cases hc
      refine aw_exit ?_
      (repeat (refine IsQ.go (by assumption) ?_; (try dsimp only); (try simp only [E0])))
      exact ⟨_, hy, (Upd.sub (show 0 ≤ 0 by decide) (by simp [go_sem, envSub]) trivial)⟩
    · rintro i1 x4 ⟨⟩ z13 hi hx hF hb13 hr13 Q hQ
      (try dsimp only at hF ⊢)
      have hlt : decide ((i1 : Int) < (v0.length : Int)) = true := by simp; omega
      have hw2 : IntKind.i64.wrap ((i1 : Int) + 1) = ((i1 + 1 : Nat) : Int) := by rw [wrap64 (by omega) (by omega)]; simp
      refine aw_srH fun K hK => ?_
      (try simp only [go_sem, hlt])
      refine IsK.go (by assumption) ?_
      refine aw_seqH fun Q hQ => ?_
      refine aw_cond rfl (fun hc => ?_) (fun hc => ?_)
      rotate_left; · cases hc
      refine aw_skip ?_
      (repeat (refine IsQ.go (by assumption) ?_; (try dsimp only); (try simp only [reduceCtorEq, E0])))
      refine aw_seqH fun Q hQ => ?_
      refine aw_blockH fun Q hQ => ?_
      refine aw_srH fun K hK => ?_
      (try simp only [go_sem, hx])
      refine IsK.go (by assumption) ?_
      refine aw_blockH fun Q hQ => ?_
      obtain ⟨y14, h15, hF⟩ := bind_some hF
      refine aw_srH fun K hK => ?_
      (try simp only [go_sem])
      refine call_pure (ref11_isName_ok h15) rfl (by simp only [go_sem]) (by simp only [go_sem]) ?_
      (try dsimp only); (try simp only [go_sem])
      refine IsK.go (by assumption) ?_
      refine aw_cond rfl (fun hc => ?_) (fun hc => ?_)
      · replace hF := if_t hc hF
        refine aw_srH fun K hK => ?_
        (try simp only [go_sem])
        refine IsK.go (by assumption) ?_
        refine aw_ret ?_
        (repeat (refine IsQ.go (by assumption) ?_; (try dsimp only); (try simp only [reduceCtorEq, E0])))
        cases hF
        cases (hj13 _ (hr13 _ rfl))
        simp only [go_sem]
      · replace hF := if_f hc hF
        obtain ⟨b18, h19, hF⟩ := bind_some hF
        refine aw_sdJ ⟨[(0, .p (.sl (v0.map T_api_Published.c))), (4, .bp 0 0), (5, .p (.sl (v0.map T_api_Published.c))), (6, .p (vi (v0.length : Int))), (7, .p (vi (i1 : Int))), (17, .p (vb b18))], [(0, .cells [.p (vs x4.Advisory.b), .p (vi x4.Day), .p (vi x4.Ended)])], 1⟩ (fun K hK => ?_) ?_
        · (try simp only [go_sem])
          (try simp only [go_sem])
          refine vD_split rfl ?_ ?_ <;> intro hg20 <;> (try simp only [hg20, go_sem])
          · simp only [hg20, gbS] at h19
            obtain ⟨x21, h22, h19⟩ := bind_some h19
            replace h22 := idx_map T_api_Published.c h22; (try simp only [go_sem] at h22)
            cases h19
            (try simp only [go_sem, h22])
            refine IsK.go (by assumption) ?_
            exact (Upd.sub (show 1 ≤ 1 by decide) (by simp [go_sem, envSub, Env.get]) (by simp [go_sem, heapSub, Heap.get, belowO]))
          · simp only [hg20, gbS] at h19
            cases h19
            (try simp only [go_sem, hg20])
            refine IsK.go (by assumption) ?_
            exact (Upd.sub (show 1 ≤ 1 by decide) (by simp [go_sem, envSub, Env.get]) (by simp [go_sem, heapSub, Heap.get, belowO]))
        refine aw_cond rfl (fun hc => ?_) (fun hc => ?_)
        · replace hF := if_t hc hF
          refine aw_srH fun K hK => ?_
          (try simp only [go_sem])
          refine IsK.go (by assumption) ?_
          refine aw_ret ?_
          (repeat (refine IsQ.go (by assumption) ?_; (try dsimp only); (try simp only [reduceCtorEq, E0])))
          cases hF
          cases (hj13 _ (hr13 _ rfl))
          simp only [go_sem]
        · replace hF := if_f hc hF
          obtain ⟨y23, h24, hF⟩ := bind_some hF
          refine aw_srJ ⟨[(0, .p (.sl (v0.map T_api_Published.c))), (5, .p (.sl (v0.map T_api_Published.c))), (6, .p (vi (v0.length : Int))), (7, .p (vi (i1 : Int))), (31, .p (vb ((!y23) || ((x4.Ended != (-1)) && ((decide (x4.Ended < x4.Day)) || (decide (x4.Ended > 1000000)))))))], [], 1⟩ (fun K hK => ?_) ?_
          · (try simp only [go_sem])
            (try simp only [go_sem])
            refine call_pure (ref11_isDay_ok h24) rfl (by simp only [go_sem]) (by simp only [go_sem]) ?_
            (try dsimp only); (try simp only [go_sem])
            (try simp only [go_sem])
            refine vOps_split rfl ?_ ?_ <;> intro hg25 <;> (try simp only [hg25, go_sem])
            · (try simp only [go_sem, hg25])
              refine IsK.go (by assumption) ?_
              exact (Upd.sub (show 1 ≤ 1 by decide) (by simp [go_sem, envSub, Env.get, hg25]) trivial)
            · (try simp only [go_sem, hg25])
              refine vOps_split rfl ?_ ?_ <;> intro hg26 <;> (try simp only [hg26, go_sem])
              · (try simp only [go_sem, hg25, hg26])
                refine vOps_split rfl ?_ ?_ <;> intro hg27 <;> (try simp only [hg27, go_sem])
                · (try simp only [go_sem, hg25, hg26, hg27])
                  refine IsK.go (by assumption) ?_
                  exact (Upd.sub (show 1 ≤ 1 by decide) (by simp [go_sem, envSub, Env.get, hg25, hg26, hg27]) trivial)
                · (try simp only [go_sem, hg25, hg26, hg27])
                  refine IsK.go (by assumption) ?_
                  exact (Upd.sub (show 1 ≤ 1 by decide) (by simp [go_sem, envSub, Env.get, hg25, hg26, hg27]) trivial)
              · (try simp only [go_sem, hg25, hg26])
                refine IsK.go (by assumption) ?_
                exact (Upd.sub (show 1 ≤ 1 by decide) (by simp [go_sem, envSub, Env.get, hg25, hg26]) trivial)
          refine aw_cond rfl (fun hc => ?_) (fun hc => ?_)
          · replace hF := if_t hc hF
            refine aw_srH fun K hK => ?_
            (try simp only [go_sem])
            refine IsK.go (by assumption) ?_
            refine aw_ret ?_
            (repeat (refine IsQ.go (by assumption) ?_; (try dsimp only); (try simp only [reduceCtorEq, E0])))
            cases hF
            cases (hj13 _ (hr13 _ rfl))
            simp only [go_sem]
          · replace hF := if_f hc hF
            refine aw_skip ?_
            (repeat (refine IsQ.go (by assumption) ?_; (try dsimp only); (try simp only [reduceCtorEq, E0])))
            refine aw_region ?_
            (try simp only [go_sem, hw2])
            (repeat (refine IsQ.go (by assumption) ?_; (try dsimp only); (try simp only [reduceCtorEq, E0])))
            cases hF
            exact ⟨_, rfl, (Upd.sub (show 0 ≤ 0 by decide) (by simp [go_sem, envSub, Env.get]) trivial)⟩
  rintro ⟨⟩ hF
  (try dsimp only at hF ⊢)
  (repeat (refine IsQ.go (by assumption) ?_; (try dsimp only); (try simp only [reduceCtorEq, E0])))
  refine aw_srH fun K hK => ?_
  (try simp only [go_sem])
  refine IsK.go (by assumption) ?_
  refine aw_ret ?_
  (repeat (refine IsQ.go (by assumption) ?_; (try dsimp only); (try simp only [reduceCtorEq, E0])))
  cases hF
  simp only [go_sem]
theorem ref11_Check_ok {v0 : T_api_Story} {r0} (hF : ref11_Check v0 = some r0) : APure Try.prog 35 [.p (.agg [vs v0.Product.b, .sl (v0.Releases.map T_api_Release.c), .sl (v0.Known.map T_api_Published.c), vi v0.Until])] (.p (vi r0)) := by
  refine apureZ 2 rc35_ok rfl ?_
  simp only [rc35, argEnv]
  unfold ref11_Check at hF
  refine aw_srH fun K hK => ?_
  (try simp only [go_sem])
  refine IsK.go (by assumption) ?_
  refine aw_seqH fun Q hQ => ?_
  refine aw_blockH fun Q hQ => ?_
  obtain ⟨y1, h2, hF⟩ := bind_some hF
  refine aw_srH fun K hK => ?_
  (try simp only [go_sem])
  refine call_pure (ref11_isName_ok h2) rfl (by simp only [go_sem]) (by simp only [go_sem]) ?_
  (try dsimp only); (try simp only [go_sem])
  refine IsK.go (by assumption) ?_
  refine aw_cond rfl (fun hc => ?_) (fun hc => ?_)
  · replace hF := if_t hc hF
    refine aw_srH fun K hK => ?_
    (try simp only [go_sem])
    refine IsK.go (by assumption) ?_
    refine aw_ret ?_
    (repeat (refine IsQ.go (by assumption) ?_; (try dsimp only); (try simp only [reduceCtorEq, E0])))
    cases hF
    simp only [go_sem]
  · replace hF := if_f hc hF
    obtain ⟨y3, h4, hF⟩ := bind_some hF
    refine aw_srH fun K hK => ?_
    (try simp only [go_sem])
    refine call_pure (ref11_isDay_ok h4) rfl (by simp only [go_sem]) (by simp only [go_sem]) ?_
    (try dsimp only); (try simp only [go_sem])
    refine IsK.go (by assumption) ?_
    refine aw_cond rfl (fun hc => ?_) (fun hc => ?_)
    · replace hF := if_t hc hF
      refine aw_srH fun K hK => ?_
      (try simp only [go_sem])
      refine IsK.go (by assumption) ?_
      refine aw_ret ?_
      (repeat (refine IsQ.go (by assumption) ?_; (try dsimp only); (try simp only [reduceCtorEq, E0])))
      cases hF
      simp only [go_sem]
    · replace hF := if_f hc hF
      refine aw_srJ ⟨[(1, .bp 0 0), (25, .p (vb ((decide ((v0.Releases.length : Int) > 500)) || (decide ((v0.Known.length : Int) > 2000)))))], [(0, .cells [.p (vs v0.Product.b), .p (.sl (v0.Releases.map T_api_Release.c)), .p (.sl (v0.Known.map T_api_Published.c)), .p (vi v0.Until)])], 1⟩ (fun K hK => ?_) ?_
      · (try simp only [go_sem])
        (try simp only [go_sem])
        refine vOps_split rfl ?_ ?_ <;> intro hg5 <;> (try simp only [hg5, go_sem])
        · (try simp only [go_sem, hg5])
          refine IsK.go (by assumption) ?_
          exact (Upd.sub (show 1 ≤ 1 by decide) (by simp [go_sem, envSub, Env.get, hg5]) (by simp [go_sem, heapSub, Heap.get, belowO]))
        · (try simp only [go_sem, hg5])
          refine IsK.go (by assumption) ?_
          exact (Upd.sub (show 1 ≤ 1 by decide) (by simp [go_sem, envSub, Env.get, hg5]) (by simp [go_sem, heapSub, Heap.get, belowO]))
      refine aw_cond rfl (fun hc => ?_) (fun hc => ?_)
      · replace hF := if_t hc hF
        refine aw_srH fun K hK => ?_
        (try simp only [go_sem])
        refine IsK.go (by assumption) ?_
        refine aw_ret ?_
        (repeat (refine IsQ.go (by assumption) ?_; (try dsimp only); (try simp only [reduceCtorEq, E0])))
        cases hF
        simp only [go_sem]
      · replace hF := if_f hc hF
        refine aw_skip ?_
        (repeat (refine IsQ.go (by assumption) ?_; (try dsimp only); (try simp only [reduceCtorEq, E0])))
        refine aw_srH fun K hK => ?_
        (try simp only [go_sem])
        refine IsK.go (by assumption) ?_
        refine aw_seqH fun Q hQ => ?_
        refine aw_srH fun K hK => ?_
        (try simp only [go_sem])
        refine IsK.go (by assumption) ?_
        refine aw_joinX hF (fun (_ : Unit) => ⟨[(1, .bp 0 0)], [(0, .cells [.p (vs v0.Product.b), .p (.sl (v0.Releases.map T_api_Release.c)), .p (.sl (v0.Known.map T_api_Published.c)), .p (vi v0.Until)])], 2⟩) ?_ ?_
        · intro y27 hF hj27 Q hQ
          refine aw_blockH fun Q hQ => ?_
          refine aw_fact 38 rfl (fun _ _ => sl_lim) fun hl8 => ?_; simp only [List.length_map, top] at hl8
          refine aw_forL hF (fun i6 m18 => ⟨[(1, .bp 0 0), (3, .mp 1), (38, .p (.sl (v0.Releases.map T_api_Release.c))), (39, .p (vi (v0.Releases.length : Int))), (40, .p (vi (i6 : Int)))], [(1, .map (m18.map (cM kS pB))), (0, .cells [.p (vs v0.Product.b), .p (.sl (v0.Releases.map T_api_Release.c)), .p (.sl (v0.Known.map T_api_Published.c)), .p (vi v0.Until)])], 2⟩) (Upd.sub (show 2 ≤ 2 by decide) (by simp [go_sem, envSub, Env.get]) (by simp [go_sem, heapSub, Heap.get, belowO])) ?_ ?_
          · rintro m18 hy Q hQ
            (try dsimp only at hy ⊢)
            have hlt : decide (((v0.Releases.length : Int) : Int) < (v0.Releases.length : Int)) = false := by simp
            refine aw_srH fun K hK => ?_
            (try simp only [go_sem, hlt])
            refine IsK.go (by assumption) ?_
            refine aw_seqH fun Q hQ => ?_
            refine aw_cond rfl (fun hc => ?_) (fun hc => ?_)
            · cases hc
            refine aw_exit ?_
            (repeat (refine IsQ.go (by assumption) ?_; (try dsimp only); (try simp only [E0])))
            exact ⟨_, hy, (Upd.sub (show 2 ≤ 2 by decide) (by simp [go_sem, envSub, Env.get]) (by simp [go_sem, heapSub, Heap.get, belowO]))⟩
          · rintro i6 x9 m18 z27 hi hx hF hb27 hr27 Q hQ
            (try dsimp only at hF ⊢)
            have hlt : decide ((i6 : Int) < (v0.Releases.length : Int)) = true := by simp; omega
            have hw7 : IntKind.i64.wrap ((i6 : Int) + 1) = ((i6 + 1 : Nat) : Int) := by rw [wrap64 (by omega) (by omega)]; simp
            refine aw_srH fun K hK => ?_
            (try simp only [go_sem, hlt])
            refine IsK.go (by assumption) ?_
            refine aw_seqH fun Q hQ => ?_
            refine aw_cond rfl (fun hc => ?_) (fun hc => ?_)
            rotate_left; · cases hc
            refine aw_skip ?_
            (repeat (refine IsQ.go (by assumption) ?_; (try dsimp only); (try simp only [reduceCtorEq, E0])))
            refine aw_seqH fun Q hQ => ?_
            refine aw_blockH fun Q hQ => ?_
            refine aw_srH fun K hK => ?_
            (try simp only [go_sem, hx])
            refine IsK.go (by assumption) ?_
            refine aw_seqH fun Q hQ => ?_
            refine aw_blockH fun Q hQ => ?_
            obtain ⟨y28, h29, hF⟩ := bind_some hF
            refine aw_srH fun K hK => ?_
            (try simp only [go_sem])
            refine call_pure (ref11_isName_ok h29) rfl (by simp only [go_sem]) (by simp only [go_sem]) ?_
            (try dsimp only); (try simp only [go_sem])
            refine IsK.go (by assumption) ?_
            refine aw_cond rfl (fun hc => ?_) (fun hc => ?_)
            · replace hF := if_t hc hF
              refine aw_srH fun K hK => ?_
              (try simp only [go_sem])
              refine IsK.go (by assumption) ?_
              refine aw_ret ?_
              (repeat (refine IsQ.go (by assumption) ?_; (try dsimp only); (try simp only [reduceCtorEq, E0])))
              cases hF
              cases (hj27 _ (hr27 _ rfl))
              simp only [go_sem]
            · replace hF := if_f hc hF
              refine aw_srH fun K hK => ?_
              (try simp only [go_sem])
              refine IsK.go (by assumption) ?_
              refine aw_cond rfl (fun hc => ?_) (fun hc => ?_)
              · replace hF := if_t hc hF
                refine aw_srH fun K hK => ?_
                (try simp only [go_sem])
                refine IsK.go (by assumption) ?_
                refine aw_ret ?_
                (repeat (refine IsQ.go (by assumption) ?_; (try dsimp only); (try simp only [reduceCtorEq, E0])))
                cases hF
                cases (hj27 _ (hr27 _ rfl))
                simp only [go_sem]
              · replace hF := if_f hc hF
                refine aw_srJ ⟨[(1, .bp 0 0), (3, .mp 1), (4, .p (vi (i6 : Int))), (5, .bp 2 0), (38, .p (.sl (v0.Releases.map T_api_Release.c))), (39, .p (vi (v0.Releases.length : Int))), (40, .p (vi (i6 : Int))), (55, .p (vb ((decide (x9.Day < 0)) || (decide (x9.Day > v0.Until)))))], [(2, .cells [.p (vs x9.Version.b), .p (vi x9.Day), .p (.sl (x9.Exposures.map T_api_Exposure.c))]), (1, .map (m18.map (cM kS pB))), (0, .cells [.p (vs v0.Product.b), .p (.sl (v0.Releases.map T_api_Release.c)), .p (.sl (v0.Known.map T_api_Published.c)), .p (vi v0.Until)])], 3⟩ (fun K hK => ?_) ?_
                · (try simp only [go_sem])
                  (try simp only [go_sem])
                  refine vOps_split rfl ?_ ?_ <;> intro hg30 <;> (try simp only [hg30, go_sem])
                  · (try simp only [go_sem, hg30])
                    refine IsK.go (by assumption) ?_
                    exact (Upd.sub (show 3 ≤ 3 by decide) (by simp [go_sem, envSub, Env.get, hg30]) (by simp [go_sem, heapSub, Heap.get, belowO]))
                  · (try simp only [go_sem, hg30])
                    refine IsK.go (by assumption) ?_
                    exact (Upd.sub (show 3 ≤ 3 by decide) (by simp [go_sem, envSub, Env.get, hg30]) (by simp [go_sem, heapSub, Heap.get, belowO]))
                refine aw_cond rfl (fun hc => ?_) (fun hc => ?_)
                · replace hF := if_t hc hF
                  refine aw_srH fun K hK => ?_
                  (try simp only [go_sem])
                  refine IsK.go (by assumption) ?_
                  refine aw_ret ?_
                  (repeat (refine IsQ.go (by assumption) ?_; (try dsimp only); (try simp only [reduceCtorEq, E0])))
                  cases hF
                  cases (hj27 _ (hr27 _ rfl))
                  simp only [go_sem]
                · replace hF := if_f hc hF
                  obtain ⟨b33, h34, hF⟩ := bind_some hF
                  refine aw_sdJ ⟨[(1, .bp 0 0), (3, .mp 1), (5, .bp 2 0), (38, .p (.sl (v0.Releases.map T_api_Release.c))), (39, .p (vi (v0.Releases.length : Int))), (40, .p (vi (i6 : Int))), (66, .p (vb b33))], [(2, .cells [.p (vs x9.Version.b), .p (vi x9.Day), .p (.sl (x9.Exposures.map T_api_Exposure.c))]), (1, .map (m18.map (cM kS pB))), (0, .cells [.p (vs v0.Product.b), .p (.sl (v0.Releases.map T_api_Release.c)), .p (.sl (v0.Known.map T_api_Published.c)), .p (vi v0.Until)])], 3⟩ (fun K hK => ?_) ?_
                  · (try simp only [go_sem])
                    (try simp only [go_sem])
                    refine vD_split rfl ?_ ?_ <;> intro hg35 <;> (try simp only [hg35, go_sem])
                    · simp only [hg35, gbS] at h34
                      obtain ⟨x36, h37, h34⟩ := bind_some h34
                      replace h37 := idx_map T_api_Release.c h37; (try simp only [go_sem] at h37)
                      cases h34
                      (try simp only [go_sem, h37])
                      refine IsK.go (by assumption) ?_
                      exact (Upd.sub (show 3 ≤ 3 by decide) (by simp [go_sem, envSub, Env.get]) (by simp [go_sem, heapSub, Heap.get, belowO]))
                    · simp only [hg35, gbS] at h34
                      cases h34
                      (try simp only [go_sem, hg35])
                      refine IsK.go (by assumption) ?_
                      exact (Upd.sub (show 3 ≤ 3 by decide) (by simp [go_sem, envSub, Env.get]) (by simp [go_sem, heapSub, Heap.get, belowO]))
                  refine aw_cond rfl (fun hc => ?_) (fun hc => ?_)
                  · replace hF := if_t hc hF
                    refine aw_srH fun K hK => ?_
                    (try simp only [go_sem])
                    refine IsK.go (by assumption) ?_
                    refine aw_ret ?_
                    (repeat (refine IsQ.go (by assumption) ?_; (try dsimp only); (try simp only [reduceCtorEq, E0])))
                    cases hF
                    cases (hj27 _ (hr27 _ rfl))
                    simp only [go_sem]
                  · replace hF := if_f hc hF
                    refine aw_skip ?_
                    (repeat (refine IsQ.go (by assumption) ?_; (try dsimp only); (try simp only [reduceCtorEq, E0])))
                    refine aw_srH fun K hK => ?_
                    (try simp only [go_sem])
                    refine IsK.go (by assumption) ?_
                    obtain ⟨y38, h39, hF⟩ := bind_some hF
                    refine aw_srH fun K hK => ?_
                    (try simp only [go_sem])
                    refine call_pure (ref11_exposuresFault_ok h39) rfl (by simp only [go_sem]) (by simp only [go_sem]) ?_
                    (try dsimp only); (try simp only [go_sem])
                    refine IsK.go (by assumption) ?_
                    refine aw_srH fun K hK => ?_
                    (try simp only [go_sem])
                    refine IsK.go (by assumption) ?_
                    refine aw_cond rfl (fun hc => ?_) (fun hc => ?_)
                    · replace hF := if_t hc hF
                      refine aw_srH fun K hK => ?_
                      (try simp only [go_sem])
                      refine IsK.go (by assumption) ?_
                      refine aw_ret ?_
                      (repeat (refine IsQ.go (by assumption) ?_; (try dsimp only); (try simp only [reduceCtorEq, E0])))
                      cases hF
                      cases (hj27 _ (hr27 _ rfl))
                      simp only [go_sem]
                    · replace hF := if_f hc hF
                      refine aw_skip ?_
                      (repeat (refine IsQ.go (by assumption) ?_; (try dsimp only); (try simp only [reduceCtorEq, E0])))
                      refine aw_region ?_
                      (try simp only [go_sem, hw7])
                      (repeat (refine IsQ.go (by assumption) ?_; (try dsimp only); (try simp only [reduceCtorEq, E0])))
                      cases hF
                      exact ⟨_, rfl, (Upd.sub (show 2 ≤ 2 by decide) (by simp [go_sem, envSub, Env.get]) (by simp [go_sem, heapSub, Heap.get, belowO]))⟩
        rintro ⟨⟩ hF
        (try dsimp only at hF ⊢)
        (repeat (refine IsQ.go (by assumption) ?_; (try dsimp only); (try simp only [reduceCtorEq, E0])))
        refine aw_seqH fun Q hQ => ?_
        obtain ⟨y40, h41, hF⟩ := bind_some hF
        refine aw_srH fun K hK => ?_
        (try simp only [go_sem])
        refine call_pure (ref11_knownFault_ok h41) rfl (by simp only [go_sem]) (by simp only [go_sem]) ?_
        (try dsimp only); (try simp only [go_sem])
        refine IsK.go (by assumption) ?_
        refine aw_srH fun K hK => ?_
        (try simp only [go_sem])
        refine IsK.go (by assumption) ?_
        refine aw_cond rfl (fun hc => ?_) (fun hc => ?_)
        · replace hF := if_t hc hF
          refine aw_srH fun K hK => ?_
          (try simp only [go_sem])
          refine IsK.go (by assumption) ?_
          refine aw_ret ?_
          (repeat (refine IsQ.go (by assumption) ?_; (try dsimp only); (try simp only [reduceCtorEq, E0])))
          cases hF
          simp only [go_sem]
        · replace hF := if_f hc hF
          refine aw_skip ?_
          (repeat (refine IsQ.go (by assumption) ?_; (try dsimp only); (try simp only [reduceCtorEq, E0])))
          refine aw_srH fun K hK => ?_
          (try simp only [go_sem])
          refine IsK.go (by assumption) ?_
          refine aw_seqH fun Q hQ => ?_
          refine aw_srH fun K hK => ?_
          (try simp only [go_sem])
          refine IsK.go (by assumption) ?_
          refine aw_joinX hF (fun (m47 : (List (Str × Bool))) => ⟨[(1, .bp 0 0), (8, .mp 2)], [(2, .map (m47.map (cM kS pB))), (0, .cells [.p (vs v0.Product.b), .p (.sl (v0.Releases.map T_api_Release.c)), .p (.sl (v0.Known.map T_api_Published.c)), .p (vi v0.Until)])], 3⟩) ?_ ?_
          · intro y48 hF hj48 Q hQ
            refine aw_blockH fun Q hQ => ?_
            refine aw_fact 99 rfl (fun _ _ => sl_lim) fun hl44 => ?_; simp only [List.length_map, top] at hl44
            refine aw_forL hF (fun i42 m46 => ⟨[(1, .bp 0 0), (8, .mp 2), (99, .p (.sl (v0.Known.map T_api_Published.c))), (100, .p (vi (v0.Known.length : Int))), (101, .p (vi (i42 : Int)))], [(2, .map (m46.map (cM kS pB))), (0, .cells [.p (vs v0.Product.b), .p (.sl (v0.Releases.map T_api_Release.c)), .p (.sl (v0.Known.map T_api_Published.c)), .p (vi v0.Until)])], 3⟩) (Upd.sub (show 3 ≤ 3 by decide) (by simp [go_sem, envSub, Env.get]) (by simp [go_sem, heapSub, Heap.get, belowO])) ?_ ?_
            · rintro m46 hy Q hQ
              (try dsimp only at hy ⊢)
              have hlt : decide (((v0.Known.length : Int) : Int) < (v0.Known.length : Int)) = false := by simp
              refine aw_srH fun K hK => ?_
              (try simp only [go_sem, hlt])
              refine IsK.go (by assumption) ?_
              refine aw_seqH fun Q hQ => ?_
              refine aw_cond rfl (fun hc => ?_) (fun hc => ?_)
              · cases hc
              refine aw_exit ?_
              (repeat (refine IsQ.go (by assumption) ?_; (try dsimp only); (try simp only [E0])))
              exact ⟨_, hy, (Upd.sub (show 3 ≤ 3 by decide) (by simp [go_sem, envSub, Env.get]) (by simp [go_sem, heapSub, Heap.get, belowO]))⟩
            · rintro i42 x45 m46 z48 hi hx hF hb48 hr48 Q hQ
              (try dsimp only at hF ⊢)
              have hlt : decide ((i42 : Int) < (v0.Known.length : Int)) = true := by simp; omega
              have hw43 : IntKind.i64.wrap ((i42 : Int) + 1) = ((i42 + 1 : Nat) : Int) := by rw [wrap64 (by omega) (by omega)]; simp
              refine aw_srH fun K hK => ?_
              (try simp only [go_sem, hlt])
              refine IsK.go (by assumption) ?_
              refine aw_seqH fun Q hQ => ?_
              refine aw_cond rfl (fun hc => ?_) (fun hc => ?_)
              rotate_left; · cases hc
              refine aw_skip ?_
              (repeat (refine IsQ.go (by assumption) ?_; (try dsimp only); (try simp only [reduceCtorEq, E0])))
              refine aw_seqH fun Q hQ => ?_
              refine aw_blockH fun Q hQ => ?_
              refine aw_srH fun K hK => ?_
              (try simp only [go_sem, hx])
              refine IsK.go (by assumption) ?_
              refine aw_region ?_
              (try simp only [go_sem])
              (repeat (refine IsQ.go (by assumption) ?_; (try dsimp only); (try simp only [reduceCtorEq, E0])))
              refine aw_region ?_
              (try simp only [go_sem, hw43])
              (repeat (refine IsQ.go (by assumption) ?_; (try dsimp only); (try simp only [reduceCtorEq, E0])))
              cases hF
              exact ⟨_, rfl, (Upd.sub (show 3 ≤ 3 by decide) (by simp [go_sem, envSub, Env.get]) (by simp [go_sem, heapSub, Heap.get, belowO]))⟩
          rintro m47 hF
          (try dsimp only at hF ⊢)
          (repeat (refine IsQ.go (by assumption) ?_; (try dsimp only); (try simp only [reduceCtorEq, E0])))
          refine aw_seqH fun Q hQ => ?_
          refine aw_srH fun K hK => ?_
          (try simp only [go_sem])
          refine IsK.go (by assumption) ?_
          refine aw_joinX hF (fun (_ : Unit) => ⟨[], [], 3⟩) ?_ ?_
          · intro y58 hF hj58 Q hQ
            refine aw_blockH fun Q hQ => ?_
            refine aw_fact 110 rfl (fun _ _ => sl_lim) fun hl51 => ?_; simp only [List.length_map, top] at hl51
            refine aw_forL hF (fun i49 _ => ⟨[(8, .mp 2), (110, .p (.sl (v0.Releases.map T_api_Release.c))), (111, .p (vi (v0.Releases.length : Int))), (112, .p (vi (i49 : Int)))], [(2, .map (m47.map (cM kS pB)))], 3⟩) (Upd.sub (show 3 ≤ 3 by decide) (by simp [go_sem, envSub, Env.get]) (by simp [go_sem, heapSub, Heap.get, belowO])) ?_ ?_
            · rintro ⟨⟩ hy Q hQ
              (try dsimp only at hy ⊢)
              have hlt : decide (((v0.Releases.length : Int) : Int) < (v0.Releases.length : Int)) = false := by simp
              refine aw_srH fun K hK => ?_
              (try simp only [go_sem, hlt])
              refine IsK.go (by assumption) ?_
              refine aw_seqH fun Q hQ => ?_
              refine aw_cond rfl (fun hc => ?_) (fun hc => ?_)
              · cases hc
              refine aw_exit ?_
              (repeat (refine IsQ.go (by assumption) ?_; (try dsimp only); (try simp only [E0])))
              exact ⟨_, hy, (Upd.sub (show 3 ≤ 3 by decide) (by simp [go_sem, envSub]) trivial)⟩
            · rintro i49 x52 ⟨⟩ z58 hi hx hF hb58 hr58 Q hQ
              (try dsimp only at hF ⊢)
              have hlt : decide ((i49 : Int) < (v0.Releases.length : Int)) = true := by simp; omega
              have hw50 : IntKind.i64.wrap ((i49 : Int) + 1) = ((i49 + 1 : Nat) : Int) := by rw [wrap64 (by omega) (by omega)]; simp
              refine aw_srH fun K hK => ?_
              (try simp only [go_sem, hlt])
              refine IsK.go (by assumption) ?_
              refine aw_seqH fun Q hQ => ?_
              refine aw_cond rfl (fun hc => ?_) (fun hc => ?_)
              rotate_left; · cases hc
              refine aw_skip ?_
              (repeat (refine IsQ.go (by assumption) ?_; (try dsimp only); (try simp only [reduceCtorEq, E0])))
              refine aw_seqH fun Q hQ => ?_
              refine aw_blockH fun Q hQ => ?_
              refine aw_srH fun K hK => ?_
              (try simp only [go_sem, hx])
              refine IsK.go (by assumption) ?_
              refine aw_srH fun K hK => ?_
              (try simp only [go_sem])
              refine IsK.go (by assumption) ?_
              refine aw_joinX hF (fun (_ : Unit) => ⟨[(8, .mp 2), (110, .p (.sl (v0.Releases.map T_api_Release.c))), (111, .p (vi (v0.Releases.length : Int))), (112, .p (vi (i49 : Int)))], [(2, .map (m47.map (cM kS pB)))], 4⟩) ?_ ?_
              · intro y63 hF hj63 Q hQ
                refine aw_blockH fun Q hQ => ?_
                refine aw_fact 117 rfl (fun _ _ => sl_lim) fun hl61 => ?_; simp only [List.length_map, top] at hl61
                refine aw_forL hF (fun i59 _ => ⟨[(8, .mp 2), (110, .p (.sl (v0.Releases.map T_api_Release.c))), (111, .p (vi (v0.Releases.length : Int))), (112, .p (vi (i49 : Int))), (117, .p (.sl (x52.Exposures.map T_api_Exposure.c))), (118, .p (vi (x52.Exposures.length : Int))), (119, .p (vi (i59 : Int)))], [(2, .map (m47.map (cM kS pB)))], 4⟩) (Upd.sub (show 4 ≤ 4 by decide) (by simp [go_sem, envSub, Env.get]) (by simp [go_sem, heapSub, Heap.get, belowO])) ?_ ?_
                · rintro ⟨⟩ hy Q hQ
                  (try dsimp only at hy ⊢)
                  have hlt : decide (((x52.Exposures.length : Int) : Int) < (x52.Exposures.length : Int)) = false := by simp
                  refine aw_srH fun K hK => ?_
                  (try simp only [go_sem, hlt])
                  refine IsK.go (by assumption) ?_
                  refine aw_seqH fun Q hQ => ?_
                  refine aw_cond rfl (fun hc => ?_) (fun hc => ?_)
                  · cases hc
                  refine aw_exit ?_
                  (repeat (refine IsQ.go (by assumption) ?_; (try dsimp only); (try simp only [E0])))
                  exact ⟨_, hy, (Upd.sub (show 4 ≤ 4 by decide) (by simp [go_sem, envSub, Env.get]) (by simp [go_sem, heapSub, Heap.get, belowO]))⟩
                · rintro i59 x62 ⟨⟩ z63 hi hx hF hb63 hr63 Q hQ
                  (try dsimp only at hF ⊢)
                  have hlt : decide ((i59 : Int) < (x52.Exposures.length : Int)) = true := by simp; omega
                  have hw60 : IntKind.i64.wrap ((i59 : Int) + 1) = ((i59 + 1 : Nat) : Int) := by rw [wrap64 (by omega) (by omega)]; simp
                  refine aw_srH fun K hK => ?_
                  (try simp only [go_sem, hlt])
                  refine IsK.go (by assumption) ?_
                  refine aw_seqH fun Q hQ => ?_
                  refine aw_cond rfl (fun hc => ?_) (fun hc => ?_)
                  rotate_left; · cases hc
                  refine aw_skip ?_
                  (repeat (refine IsQ.go (by assumption) ?_; (try dsimp only); (try simp only [reduceCtorEq, E0])))
                  refine aw_seqH fun Q hQ => ?_
                  refine aw_blockH fun Q hQ => ?_
                  refine aw_srH fun K hK => ?_
                  (try simp only [go_sem, hx])
                  refine IsK.go (by assumption) ?_
                  refine aw_srH fun K hK => ?_
                  (try simp only [go_sem])
                  refine IsK.go (by assumption) ?_
                  refine aw_cond rfl (fun hc => ?_) (fun hc => ?_)
                  · replace hF := if_t hc hF
                    refine aw_srH fun K hK => ?_
                    (try simp only [go_sem])
                    refine IsK.go (by assumption) ?_
                    refine aw_ret ?_
                    (repeat (refine IsQ.go (by assumption) ?_; (try dsimp only); (try simp only [reduceCtorEq, E0])))
                    cases hF
                    cases (hj63 _ (hr63 _ rfl))
                    cases (hj58 _ (hr58 _ rfl))
                    simp only [go_sem]
                  · replace hF := if_f hc hF
                    refine aw_skip ?_
                    (repeat (refine IsQ.go (by assumption) ?_; (try dsimp only); (try simp only [reduceCtorEq, E0])))
                    refine aw_region ?_
                    (try simp only [go_sem, hw60])
                    (repeat (refine IsQ.go (by assumption) ?_; (try dsimp only); (try simp only [reduceCtorEq, E0])))
                    cases hF
                    exact ⟨_, rfl, (Upd.sub (show 4 ≤ 4 by decide) (by simp [go_sem, envSub, Env.get]) (by simp [go_sem, heapSub, Heap.get, belowO]))⟩
              rintro ⟨⟩ hF
              (try dsimp only at hF ⊢)
              (repeat (refine IsQ.go (by assumption) ?_; (try dsimp only); (try simp only [reduceCtorEq, E0])))
              refine aw_region ?_
              (try simp only [go_sem, hw50])
              (repeat (refine IsQ.go (by assumption) ?_; (try dsimp only); (try simp only [reduceCtorEq, E0])))
              cases hF
              exact ⟨_, rfl, (Upd.sub (show 3 ≤ 3 by decide) (by simp [go_sem, envSub, Env.get]) (by simp [go_sem, heapSub, Heap.get, belowO]))⟩
          rintro ⟨⟩ hF
          (try dsimp only at hF ⊢)
          (repeat (refine IsQ.go (by assumption) ?_; (try dsimp only); (try simp only [reduceCtorEq, E0])))
          refine aw_srH fun K hK => ?_
          (try simp only [go_sem])
          refine IsK.go (by assumption) ?_
          refine aw_ret ?_
          (repeat (refine IsQ.go (by assumption) ?_; (try dsimp only); (try simp only [reduceCtorEq, E0])))
          cases hF
          simp only [go_sem]
theorem history_checkReleases_ok {v0 : T_api_Story} {r0} (hF : history_checkReleases v0 = some r0) : APure Try.prog 97 [.p (.agg [vs v0.Product.b, .sl (v0.Releases.map T_api_Release.c), .sl (v0.Known.map T_api_Published.c), vi v0.Until])] (.p (vi r0)) := by
  refine apureZ 2 rc97_ok rfl ?_
  simp only [rc97, argEnv]
  unfold history_checkReleases at hF
  refine aw_srH fun K hK => ?_
  (try simp only [go_sem])
  refine IsK.go (by assumption) ?_
  refine aw_srH fun K hK => ?_
  (try simp only [go_sem])
  refine IsK.go (by assumption) ?_
  refine aw_seqH fun Q hQ => ?_
  refine aw_srH fun K hK => ?_
  (try simp only [go_sem])
  refine IsK.go (by assumption) ?_
  refine aw_joinX hF (fun (_ : Unit) => ⟨[], [], 2⟩) ?_ ?_
  · intro y22 hF hj22 Q hQ
    refine aw_blockH fun Q hQ => ?_
    refine aw_fact 9 rfl (fun _ _ => sl_lim) fun hl3 => ?_; simp only [List.length_map, top] at hl3
    refine aw_forL hF (fun i1 m13 => ⟨[(1, .bp 0 0), (3, .mp 1), (9, .p (.sl (v0.Releases.map T_api_Release.c))), (10, .p (vi (v0.Releases.length : Int))), (11, .p (vi (i1 : Int)))], [(1, .map (m13.map (cM kS pB))), (0, .cells [.p (vs v0.Product.b), .p (.sl (v0.Releases.map T_api_Release.c)), .p (.sl (v0.Known.map T_api_Published.c)), .p (vi v0.Until)])], 2⟩) (Upd.sub (show 2 ≤ 2 by decide) (by simp [go_sem, envSub, Env.get]) (by simp [go_sem, heapSub, Heap.get, belowO])) ?_ ?_
    · rintro m13 hy Q hQ
      (try dsimp only at hy ⊢)
      have hlt : decide (((v0.Releases.length : Int) : Int) < (v0.Releases.length : Int)) = false := by simp
      refine aw_srH fun K hK => ?_
      (try simp only [go_sem, hlt])
      refine IsK.go (by assumption) ?_
      refine aw_seqH fun Q hQ => ?_
      refine aw_cond rfl (fun hc => ?_) (fun hc => ?_)
      · cases hc
      refine aw_exit ?_
      (repeat (refine IsQ.go (by assumption) ?_; (try dsimp only); (try simp only [E0])))
      exact ⟨_, hy, (Upd.sub (show 2 ≤ 2 by decide) (by simp [go_sem, envSub]) trivial)⟩
    · rintro i1 x4 m13 z22 hi hx hF hb22 hr22 Q hQ
      (try dsimp only at hF ⊢)
      have hlt : decide ((i1 : Int) < (v0.Releases.length : Int)) = true := by simp; omega
      have hw2 : IntKind.i64.wrap ((i1 : Int) + 1) = ((i1 + 1 : Nat) : Int) := by rw [wrap64 (by omega) (by omega)]; simp
      refine aw_srH fun K hK => ?_
      (try simp only [go_sem, hlt])
      refine IsK.go (by assumption) ?_
      refine aw_seqH fun Q hQ => ?_
      refine aw_cond rfl (fun hc => ?_) (fun hc => ?_)
      rotate_left; · cases hc
      refine aw_skip ?_
      (repeat (refine IsQ.go (by assumption) ?_; (try dsimp only); (try simp only [reduceCtorEq, E0])))
      refine aw_seqH fun Q hQ => ?_
      refine aw_blockH fun Q hQ => ?_
      refine aw_srH fun K hK => ?_
      (try simp only [go_sem, hx])
      refine IsK.go (by assumption) ?_
      refine aw_seqH fun Q hQ => ?_
      refine aw_blockH fun Q hQ => ?_
      obtain ⟨y23, h24, hF⟩ := bind_some hF
      refine aw_srH fun K hK => ?_
      (try simp only [go_sem])
      refine call_pure (history_isName_ok h24) rfl (by simp only [go_sem]) (by simp only [go_sem]) ?_
      (try dsimp only); (try simp only [go_sem])
      refine IsK.go (by assumption) ?_
      refine aw_cond rfl (fun hc => ?_) (fun hc => ?_)
      · replace hF := if_t hc hF
        refine aw_srH fun K hK => ?_
        (try simp only [go_sem])
        refine IsK.go (by assumption) ?_
        refine aw_ret ?_
        (repeat (refine IsQ.go (by assumption) ?_; (try dsimp only); (try simp only [reduceCtorEq, E0])))
        cases hF
        cases (hj22 _ (hr22 _ rfl))
        simp only [go_sem]
      · replace hF := if_f hc hF
        refine aw_srH fun K hK => ?_
        (try simp only [go_sem])
        refine IsK.go (by assumption) ?_
        refine aw_cond rfl (fun hc => ?_) (fun hc => ?_)
        · replace hF := if_t hc hF
          refine aw_srH fun K hK => ?_
          (try simp only [go_sem])
          refine IsK.go (by assumption) ?_
          refine aw_ret ?_
          (repeat (refine IsQ.go (by assumption) ?_; (try dsimp only); (try simp only [reduceCtorEq, E0])))
          cases hF
          cases (hj22 _ (hr22 _ rfl))
          simp only [go_sem]
        · replace hF := if_f hc hF
          refine aw_srJ ⟨[(1, .bp 0 0), (3, .mp 1), (4, .p (vi (i1 : Int))), (5, .bp 2 0), (9, .p (.sl (v0.Releases.map T_api_Release.c))), (10, .p (vi (v0.Releases.length : Int))), (11, .p (vi (i1 : Int))), (26, .p (vb ((decide (x4.Day < 0)) || (decide (x4.Day > v0.Until)))))], [(2, .cells [.p (vs x4.Version.b), .p (vi x4.Day), .p (.sl (x4.Exposures.map T_api_Exposure.c))]), (1, .map (m13.map (cM kS pB))), (0, .cells [.p (vs v0.Product.b), .p (.sl (v0.Releases.map T_api_Release.c)), .p (.sl (v0.Known.map T_api_Published.c)), .p (vi v0.Until)])], 3⟩ (fun K hK => ?_) ?_
          · (try simp only [go_sem])
            (try simp only [go_sem])
            refine vOps_split rfl ?_ ?_ <;> intro hg25 <;> (try simp only [hg25, go_sem])
            · (try simp only [go_sem, hg25])
              refine IsK.go (by assumption) ?_
              exact (Upd.sub (show 3 ≤ 3 by decide) (by simp [go_sem, envSub, Env.get, hg25]) (by simp [go_sem, heapSub, Heap.get, belowO]))
            · (try simp only [go_sem, hg25])
              refine IsK.go (by assumption) ?_
              exact (Upd.sub (show 3 ≤ 3 by decide) (by simp [go_sem, envSub, Env.get, hg25]) (by simp [go_sem, heapSub, Heap.get, belowO]))
          refine aw_cond rfl (fun hc => ?_) (fun hc => ?_)
          · replace hF := if_t hc hF
            refine aw_srH fun K hK => ?_
            (try simp only [go_sem])
            refine IsK.go (by assumption) ?_
            refine aw_ret ?_
            (repeat (refine IsQ.go (by assumption) ?_; (try dsimp only); (try simp only [reduceCtorEq, E0])))
            cases hF
            cases (hj22 _ (hr22 _ rfl))
            simp only [go_sem]
          · replace hF := if_f hc hF
            obtain ⟨b28, h29, hF⟩ := bind_some hF
            refine aw_sdJ ⟨[(1, .bp 0 0), (3, .mp 1), (5, .bp 2 0), (9, .p (.sl (v0.Releases.map T_api_Release.c))), (10, .p (vi (v0.Releases.length : Int))), (11, .p (vi (i1 : Int))), (37, .p (vb b28))], [(2, .cells [.p (vs x4.Version.b), .p (vi x4.Day), .p (.sl (x4.Exposures.map T_api_Exposure.c))]), (1, .map (m13.map (cM kS pB))), (0, .cells [.p (vs v0.Product.b), .p (.sl (v0.Releases.map T_api_Release.c)), .p (.sl (v0.Known.map T_api_Published.c)), .p (vi v0.Until)])], 3⟩ (fun K hK => ?_) ?_
            · (try simp only [go_sem])
              (try simp only [go_sem])
              refine vD_split rfl ?_ ?_ <;> intro hg30 <;> (try simp only [hg30, go_sem])
              · simp only [hg30, gbS] at h29
                obtain ⟨x31, h32, h29⟩ := bind_some h29
                replace h32 := idx_map T_api_Release.c h32; (try simp only [go_sem] at h32)
                cases h29
                (try simp only [go_sem, h32])
                refine IsK.go (by assumption) ?_
                exact (Upd.sub (show 3 ≤ 3 by decide) (by simp [go_sem, envSub, Env.get]) (by simp [go_sem, heapSub, Heap.get, belowO]))
              · simp only [hg30, gbS] at h29
                cases h29
                (try simp only [go_sem, hg30])
                refine IsK.go (by assumption) ?_
                exact (Upd.sub (show 3 ≤ 3 by decide) (by simp [go_sem, envSub, Env.get]) (by simp [go_sem, heapSub, Heap.get, belowO]))
            refine aw_cond rfl (fun hc => ?_) (fun hc => ?_)
            · replace hF := if_t hc hF
              refine aw_srH fun K hK => ?_
              (try simp only [go_sem])
              refine IsK.go (by assumption) ?_
              refine aw_ret ?_
              (repeat (refine IsQ.go (by assumption) ?_; (try dsimp only); (try simp only [reduceCtorEq, E0])))
              cases hF
              cases (hj22 _ (hr22 _ rfl))
              simp only [go_sem]
            · replace hF := if_f hc hF
              refine aw_skip ?_
              (repeat (refine IsQ.go (by assumption) ?_; (try dsimp only); (try simp only [reduceCtorEq, E0])))
              refine aw_srH fun K hK => ?_
              (try simp only [go_sem])
              refine IsK.go (by assumption) ?_
              obtain ⟨y33, h34, hF⟩ := bind_some hF
              refine aw_srH fun K hK => ?_
              (try simp only [go_sem])
              refine call_pure (history_checkExposures_ok h34) rfl (by simp only [go_sem]) (by simp only [go_sem]) ?_
              (try dsimp only); (try simp only [go_sem])
              refine IsK.go (by assumption) ?_
              refine aw_srH fun K hK => ?_
              (try simp only [go_sem])
              refine IsK.go (by assumption) ?_
              refine aw_cond rfl (fun hc => ?_) (fun hc => ?_)
              · replace hF := if_t hc hF
                refine aw_srH fun K hK => ?_
                (try simp only [go_sem])
                refine IsK.go (by assumption) ?_
                refine aw_ret ?_
                (repeat (refine IsQ.go (by assumption) ?_; (try dsimp only); (try simp only [reduceCtorEq, E0])))
                cases hF
                cases (hj22 _ (hr22 _ rfl))
                simp only [go_sem]
              · replace hF := if_f hc hF
                refine aw_skip ?_
                (repeat (refine IsQ.go (by assumption) ?_; (try dsimp only); (try simp only [reduceCtorEq, E0])))
                refine aw_region ?_
                (try simp only [go_sem, hw2])
                (repeat (refine IsQ.go (by assumption) ?_; (try dsimp only); (try simp only [reduceCtorEq, E0])))
                cases hF
                exact ⟨_, rfl, (Upd.sub (show 2 ≤ 2 by decide) (by simp [go_sem, envSub, Env.get]) (by simp [go_sem, heapSub, Heap.get, belowO]))⟩
  rintro ⟨⟩ hF
  (try dsimp only at hF ⊢)
  (repeat (refine IsQ.go (by assumption) ?_; (try dsimp only); (try simp only [reduceCtorEq, E0])))
  refine aw_srH fun K hK => ?_
  (try simp only [go_sem])
  refine IsK.go (by assumption) ?_
  refine aw_ret ?_
  (repeat (refine IsQ.go (by assumption) ?_; (try dsimp only); (try simp only [reduceCtorEq, E0])))
  cases hF
  simp only [go_sem]
theorem history_Check_ok {v0 : T_api_Story} {r0} (hF : history_Check v0 = some r0) : APure Try.prog 36 [.p (.agg [vs v0.Product.b, .sl (v0.Releases.map T_api_Release.c), .sl (v0.Known.map T_api_Published.c), vi v0.Until])] (.p (vi r0)) := by
  refine apureZ 2 rc36_ok rfl ?_
  simp only [rc36, argEnv]
  unfold history_Check at hF
  refine aw_srH fun K hK => ?_
  (try simp only [go_sem])
  refine IsK.go (by assumption) ?_
  refine aw_seqH fun Q hQ => ?_
  refine aw_blockH fun Q hQ => ?_
  obtain ⟨y1, h2, hF⟩ := bind_some hF
  refine aw_srH fun K hK => ?_
  (try simp only [go_sem])
  refine call_pure (history_isName_ok h2) rfl (by simp only [go_sem]) (by simp only [go_sem]) ?_
  (try dsimp only); (try simp only [go_sem])
  refine IsK.go (by assumption) ?_
  refine aw_cond rfl (fun hc => ?_) (fun hc => ?_)
  · replace hF := if_t hc hF
    refine aw_srH fun K hK => ?_
    (try simp only [go_sem])
    refine IsK.go (by assumption) ?_
    refine aw_ret ?_
    (repeat (refine IsQ.go (by assumption) ?_; (try dsimp only); (try simp only [reduceCtorEq, E0])))
    cases hF
    simp only [go_sem]
  · replace hF := if_f hc hF
    obtain ⟨y3, h4, hF⟩ := bind_some hF
    refine aw_srH fun K hK => ?_
    (try simp only [go_sem])
    refine call_pure (history_isDay_ok h4) rfl (by simp only [go_sem]) (by simp only [go_sem]) ?_
    (try dsimp only); (try simp only [go_sem])
    refine IsK.go (by assumption) ?_
    refine aw_cond rfl (fun hc => ?_) (fun hc => ?_)
    · replace hF := if_t hc hF
      refine aw_srH fun K hK => ?_
      (try simp only [go_sem])
      refine IsK.go (by assumption) ?_
      refine aw_ret ?_
      (repeat (refine IsQ.go (by assumption) ?_; (try dsimp only); (try simp only [reduceCtorEq, E0])))
      cases hF
      simp only [go_sem]
    · replace hF := if_f hc hF
      refine aw_srJ ⟨[(1, .bp 0 0), (21, .p (vb ((decide ((v0.Releases.length : Int) > 500)) || (decide ((v0.Known.length : Int) > 2000)))))], [(0, .cells [.p (vs v0.Product.b), .p (.sl (v0.Releases.map T_api_Release.c)), .p (.sl (v0.Known.map T_api_Published.c)), .p (vi v0.Until)])], 1⟩ (fun K hK => ?_) ?_
      · (try simp only [go_sem])
        (try simp only [go_sem])
        refine vOps_split rfl ?_ ?_ <;> intro hg5 <;> (try simp only [hg5, go_sem])
        · (try simp only [go_sem, hg5])
          refine IsK.go (by assumption) ?_
          exact (Upd.sub (show 1 ≤ 1 by decide) (by simp [go_sem, envSub, Env.get, hg5]) (by simp [go_sem, heapSub, Heap.get, belowO]))
        · (try simp only [go_sem, hg5])
          refine IsK.go (by assumption) ?_
          exact (Upd.sub (show 1 ≤ 1 by decide) (by simp [go_sem, envSub, Env.get, hg5]) (by simp [go_sem, heapSub, Heap.get, belowO]))
      refine aw_cond rfl (fun hc => ?_) (fun hc => ?_)
      · replace hF := if_t hc hF
        refine aw_srH fun K hK => ?_
        (try simp only [go_sem])
        refine IsK.go (by assumption) ?_
        refine aw_ret ?_
        (repeat (refine IsQ.go (by assumption) ?_; (try dsimp only); (try simp only [reduceCtorEq, E0])))
        cases hF
        simp only [go_sem]
      · replace hF := if_f hc hF
        refine aw_skip ?_
        (repeat (refine IsQ.go (by assumption) ?_; (try dsimp only); (try simp only [reduceCtorEq, E0])))
        refine aw_seqH fun Q hQ => ?_
        obtain ⟨y6, h7, hF⟩ := bind_some hF
        refine aw_srH fun K hK => ?_
        (try simp only [go_sem])
        refine call_pure (history_checkReleases_ok h7) rfl (by simp only [go_sem]) (by simp only [go_sem]) ?_
        (try dsimp only); (try simp only [go_sem])
        refine IsK.go (by assumption) ?_
        refine aw_srH fun K hK => ?_
        (try simp only [go_sem])
        refine IsK.go (by assumption) ?_
        refine aw_cond rfl (fun hc => ?_) (fun hc => ?_)
        · replace hF := if_t hc hF
          refine aw_srH fun K hK => ?_
          (try simp only [go_sem])
          refine IsK.go (by assumption) ?_
          refine aw_ret ?_
          (repeat (refine IsQ.go (by assumption) ?_; (try dsimp only); (try simp only [reduceCtorEq, E0])))
          cases hF
          simp only [go_sem]
        · replace hF := if_f hc hF
          refine aw_skip ?_
          (repeat (refine IsQ.go (by assumption) ?_; (try dsimp only); (try simp only [reduceCtorEq, E0])))
          refine aw_srH fun K hK => ?_
          (try simp only [go_sem])
          refine IsK.go (by assumption) ?_
          refine aw_seqH fun Q hQ => ?_
          refine aw_srH fun K hK => ?_
          (try simp only [go_sem])
          refine IsK.go (by assumption) ?_
          refine aw_joinX hF (fun (m29 : (List (Str × Bool))) => ⟨[(1, .bp 0 0), (4, .mp 1)], [(1, .map (m29.map (cM kS pB))), (0, .cells [.p (vs v0.Product.b), .p (.sl (v0.Releases.map T_api_Release.c)), .p (.sl (v0.Known.map T_api_Published.c)), .p (vi v0.Until)])], 2⟩) ?_ ?_
          · intro y30 hF hj30 Q hQ
            refine aw_blockH fun Q hQ => ?_
            refine aw_fact 39 rfl (fun _ _ => sl_lim) fun hl10 => ?_; simp only [List.length_map, top] at hl10
            refine aw_forL hF (fun i8 m20 => ⟨[(1, .bp 0 0), (4, .mp 1), (39, .p (.sl (v0.Known.map T_api_Published.c))), (40, .p (vi (v0.Known.length : Int))), (41, .p (vi (i8 : Int)))], [(1, .map (m20.map (cM kS pB))), (0, .cells [.p (vs v0.Product.b), .p (.sl (v0.Releases.map T_api_Release.c)), .p (.sl (v0.Known.map T_api_Published.c)), .p (vi v0.Until)])], 2⟩) (Upd.sub (show 2 ≤ 2 by decide) (by simp [go_sem, envSub, Env.get]) (by simp [go_sem, heapSub, Heap.get, belowO])) ?_ ?_
            · rintro m20 hy Q hQ
              (try dsimp only at hy ⊢)
              have hlt : decide (((v0.Known.length : Int) : Int) < (v0.Known.length : Int)) = false := by simp
              refine aw_srH fun K hK => ?_
              (try simp only [go_sem, hlt])
              refine IsK.go (by assumption) ?_
              refine aw_seqH fun Q hQ => ?_
              refine aw_cond rfl (fun hc => ?_) (fun hc => ?_)
              · cases hc
              refine aw_exit ?_
              (repeat (refine IsQ.go (by assumption) ?_; (try dsimp only); (try simp only [E0])))
              exact ⟨_, hy, (Upd.sub (show 2 ≤ 2 by decide) (by simp [go_sem, envSub, Env.get]) (by simp [go_sem, heapSub, Heap.get, belowO]))⟩
            · rintro i8 x11 m20 z30 hi hx hF hb30 hr30 Q hQ
              (try dsimp only at hF ⊢)
              have hlt : decide ((i8 : Int) < (v0.Known.length : Int)) = true := by simp; omega
              have hw9 : IntKind.i64.wrap ((i8 : Int) + 1) = ((i8 + 1 : Nat) : Int) := by rw [wrap64 (by omega) (by omega)]; simp
              refine aw_srH fun K hK => ?_
              (try simp only [go_sem, hlt])
              refine IsK.go (by assumption) ?_
              refine aw_seqH fun Q hQ => ?_
              refine aw_cond rfl (fun hc => ?_) (fun hc => ?_)
              rotate_left; · cases hc
              refine aw_skip ?_
              (repeat (refine IsQ.go (by assumption) ?_; (try dsimp only); (try simp only [reduceCtorEq, E0])))
              refine aw_seqH fun Q hQ => ?_
              refine aw_blockH fun Q hQ => ?_
              refine aw_srH fun K hK => ?_
              (try simp only [go_sem, hx])
              refine IsK.go (by assumption) ?_
              refine aw_seqH fun Q hQ => ?_
              refine aw_blockH fun Q hQ => ?_
              obtain ⟨y31, h32, hF⟩ := bind_some hF
              refine aw_srH fun K hK => ?_
              (try simp only [go_sem])
              refine call_pure (history_isName_ok h32) rfl (by simp only [go_sem]) (by simp only [go_sem]) ?_
              (try dsimp only); (try simp only [go_sem])
              refine IsK.go (by assumption) ?_
              refine aw_cond rfl (fun hc => ?_) (fun hc => ?_)
              · replace hF := if_t hc hF
                refine aw_srH fun K hK => ?_
                (try simp only [go_sem])
                refine IsK.go (by assumption) ?_
                refine aw_ret ?_
                (repeat (refine IsQ.go (by assumption) ?_; (try dsimp only); (try simp only [reduceCtorEq, E0])))
                cases hF
                cases (hj30 _ (hr30 _ rfl))
                simp only [go_sem]
              · replace hF := if_f hc hF
                obtain ⟨b35, h36, hF⟩ := bind_some hF
                refine aw_sdJ ⟨[(1, .bp 0 0), (4, .mp 1), (6, .bp 2 0), (39, .p (.sl (v0.Known.map T_api_Published.c))), (40, .p (vi (v0.Known.length : Int))), (41, .p (vi (i8 : Int))), (51, .p (vb b35))], [(2, .cells [.p (vs x11.Advisory.b), .p (vi x11.Day), .p (vi x11.Ended)]), (1, .map (m20.map (cM kS pB))), (0, .cells [.p (vs v0.Product.b), .p (.sl (v0.Releases.map T_api_Release.c)), .p (.sl (v0.Known.map T_api_Published.c)), .p (vi v0.Until)])], 3⟩ (fun K hK => ?_) ?_
                · (try simp only [go_sem])
                  (try simp only [go_sem])
                  refine vD_split rfl ?_ ?_ <;> intro hg37 <;> (try simp only [hg37, go_sem])
                  · simp only [hg37, gbS] at h36
                    obtain ⟨x38, h39, h36⟩ := bind_some h36
                    replace h39 := idx_map T_api_Published.c h39; (try simp only [go_sem] at h39)
                    cases h36
                    (try simp only [go_sem, h39])
                    refine IsK.go (by assumption) ?_
                    exact (Upd.sub (show 3 ≤ 3 by decide) (by simp [go_sem, envSub, Env.get]) (by simp [go_sem, heapSub, Heap.get, belowO]))
                  · simp only [hg37, gbS] at h36
                    cases h36
                    (try simp only [go_sem, hg37])
                    refine IsK.go (by assumption) ?_
                    exact (Upd.sub (show 3 ≤ 3 by decide) (by simp [go_sem, envSub, Env.get]) (by simp [go_sem, heapSub, Heap.get, belowO]))
                refine aw_cond rfl (fun hc => ?_) (fun hc => ?_)
                · replace hF := if_t hc hF
                  refine aw_srH fun K hK => ?_
                  (try simp only [go_sem])
                  refine IsK.go (by assumption) ?_
                  refine aw_ret ?_
                  (repeat (refine IsQ.go (by assumption) ?_; (try dsimp only); (try simp only [reduceCtorEq, E0])))
                  cases hF
                  cases (hj30 _ (hr30 _ rfl))
                  simp only [go_sem]
                · replace hF := if_f hc hF
                  obtain ⟨y40, h41, hF⟩ := bind_some hF
                  refine aw_srJ ⟨[(1, .bp 0 0), (4, .mp 1), (6, .bp 2 0), (39, .p (.sl (v0.Known.map T_api_Published.c))), (40, .p (vi (v0.Known.length : Int))), (41, .p (vi (i8 : Int))), (66, .p (vb ((!y40) || ((x11.Ended != (-1)) && ((decide (x11.Ended < x11.Day)) || (decide (x11.Ended > 1000000)))))))], [(2, .cells [.p (vs x11.Advisory.b), .p (vi x11.Day), .p (vi x11.Ended)]), (1, .map (m20.map (cM kS pB))), (0, .cells [.p (vs v0.Product.b), .p (.sl (v0.Releases.map T_api_Release.c)), .p (.sl (v0.Known.map T_api_Published.c)), .p (vi v0.Until)])], 3⟩ (fun K hK => ?_) ?_
                  · (try simp only [go_sem])
                    (try simp only [go_sem])
                    refine call_pure (history_isDay_ok h41) rfl (by simp only [go_sem]) (by simp only [go_sem]) ?_
                    (try dsimp only); (try simp only [go_sem])
                    (try simp only [go_sem])
                    refine vOps_split rfl ?_ ?_ <;> intro hg42 <;> (try simp only [hg42, go_sem])
                    · (try simp only [go_sem, hg42])
                      refine IsK.go (by assumption) ?_
                      exact (Upd.sub (show 3 ≤ 3 by decide) (by simp [go_sem, envSub, Env.get, hg42]) (by simp [go_sem, heapSub, Heap.get, belowO]))
                    · (try simp only [go_sem, hg42])
                      refine vOps_split rfl ?_ ?_ <;> intro hg43 <;> (try simp only [hg43, go_sem])
                      · (try simp only [go_sem, hg42, hg43])
                        refine vOps_split rfl ?_ ?_ <;> intro hg44 <;> (try simp only [hg44, go_sem])
                        · (try simp only [go_sem, hg42, hg43, hg44])
                          refine IsK.go (by assumption) ?_
                          exact (Upd.sub (show 3 ≤ 3 by decide) (by simp [go_sem, envSub, Env.get, hg42, hg43, hg44]) (by simp [go_sem, heapSub, Heap.get, belowO]))
                        · (try simp only [go_sem, hg42, hg43, hg44])
                          refine IsK.go (by assumption) ?_
                          exact (Upd.sub (show 3 ≤ 3 by decide) (by simp [go_sem, envSub, Env.get, hg42, hg43, hg44]) (by simp [go_sem, heapSub, Heap.get, belowO]))
                      · (try simp only [go_sem, hg42, hg43])
                        refine IsK.go (by assumption) ?_
                        exact (Upd.sub (show 3 ≤ 3 by decide) (by simp [go_sem, envSub, Env.get, hg42, hg43]) (by simp [go_sem, heapSub, Heap.get, belowO]))
                  refine aw_cond rfl (fun hc => ?_) (fun hc => ?_)
                  · replace hF := if_t hc hF
                    refine aw_srH fun K hK => ?_
                    (try simp only [go_sem])
                    refine IsK.go (by assumption) ?_
                    refine aw_ret ?_
                    (repeat (refine IsQ.go (by assumption) ?_; (try dsimp only); (try simp only [reduceCtorEq, E0])))
                    cases hF
                    cases (hj30 _ (hr30 _ rfl))
                    simp only [go_sem]
                  · replace hF := if_f hc hF
                    refine aw_skip ?_
                    (repeat (refine IsQ.go (by assumption) ?_; (try dsimp only); (try simp only [reduceCtorEq, E0])))
                    refine aw_region ?_
                    (try simp only [go_sem])
                    (repeat (refine IsQ.go (by assumption) ?_; (try dsimp only); (try simp only [reduceCtorEq, E0])))
                    refine aw_region ?_
                    (try simp only [go_sem, hw9])
                    (repeat (refine IsQ.go (by assumption) ?_; (try dsimp only); (try simp only [reduceCtorEq, E0])))
                    cases hF
                    exact ⟨_, rfl, (Upd.sub (show 2 ≤ 2 by decide) (by simp [go_sem, envSub, Env.get]) (by simp [go_sem, heapSub, Heap.get, belowO]))⟩
          rintro m29 hF
          (try dsimp only at hF ⊢)
          (repeat (refine IsQ.go (by assumption) ?_; (try dsimp only); (try simp only [reduceCtorEq, E0])))
          refine aw_seqH fun Q hQ => ?_
          refine aw_srH fun K hK => ?_
          (try simp only [go_sem])
          refine IsK.go (by assumption) ?_
          refine aw_joinX hF (fun (_ : Unit) => ⟨[], [], 2⟩) ?_ ?_
          · intro y54 hF hj54 Q hQ
            refine aw_blockH fun Q hQ => ?_
            refine aw_fact 93 rfl (fun _ _ => sl_lim) fun hl47 => ?_; simp only [List.length_map, top] at hl47
            refine aw_forL hF (fun i45 _ => ⟨[(4, .mp 1), (93, .p (.sl (v0.Releases.map T_api_Release.c))), (94, .p (vi (v0.Releases.length : Int))), (95, .p (vi (i45 : Int)))], [(1, .map (m29.map (cM kS pB)))], 2⟩) (Upd.sub (show 2 ≤ 2 by decide) (by simp [go_sem, envSub, Env.get]) (by simp [go_sem, heapSub, Heap.get, belowO])) ?_ ?_
            · rintro ⟨⟩ hy Q hQ
              (try dsimp only at hy ⊢)
              have hlt : decide (((v0.Releases.length : Int) : Int) < (v0.Releases.length : Int)) = false := by simp
              refine aw_srH fun K hK => ?_
              (try simp only [go_sem, hlt])
              refine IsK.go (by assumption) ?_
              refine aw_seqH fun Q hQ => ?_
              refine aw_cond rfl (fun hc => ?_) (fun hc => ?_)
              · cases hc
              refine aw_exit ?_
              (repeat (refine IsQ.go (by assumption) ?_; (try dsimp only); (try simp only [E0])))
              exact ⟨_, hy, (Upd.sub (show 2 ≤ 2 by decide) (by simp [go_sem, envSub]) trivial)⟩
            · rintro i45 x48 ⟨⟩ z54 hi hx hF hb54 hr54 Q hQ
              (try dsimp only at hF ⊢)
              have hlt : decide ((i45 : Int) < (v0.Releases.length : Int)) = true := by simp; omega
              have hw46 : IntKind.i64.wrap ((i45 : Int) + 1) = ((i45 + 1 : Nat) : Int) := by rw [wrap64 (by omega) (by omega)]; simp
              refine aw_srH fun K hK => ?_
              (try simp only [go_sem, hlt])
              refine IsK.go (by assumption) ?_
              refine aw_seqH fun Q hQ => ?_
              refine aw_cond rfl (fun hc => ?_) (fun hc => ?_)
              rotate_left; · cases hc
              refine aw_skip ?_
              (repeat (refine IsQ.go (by assumption) ?_; (try dsimp only); (try simp only [reduceCtorEq, E0])))
              refine aw_seqH fun Q hQ => ?_
              refine aw_blockH fun Q hQ => ?_
              refine aw_srH fun K hK => ?_
              (try simp only [go_sem, hx])
              refine IsK.go (by assumption) ?_
              refine aw_srH fun K hK => ?_
              (try simp only [go_sem])
              refine IsK.go (by assumption) ?_
              refine aw_joinX hF (fun (_ : Unit) => ⟨[(4, .mp 1), (93, .p (.sl (v0.Releases.map T_api_Release.c))), (94, .p (vi (v0.Releases.length : Int))), (95, .p (vi (i45 : Int)))], [(1, .map (m29.map (cM kS pB)))], 3⟩) ?_ ?_
              · intro y59 hF hj59 Q hQ
                refine aw_blockH fun Q hQ => ?_
                refine aw_fact 100 rfl (fun _ _ => sl_lim) fun hl57 => ?_; simp only [List.length_map, top] at hl57
                refine aw_forL hF (fun i55 _ => ⟨[(4, .mp 1), (93, .p (.sl (v0.Releases.map T_api_Release.c))), (94, .p (vi (v0.Releases.length : Int))), (95, .p (vi (i45 : Int))), (100, .p (.sl (x48.Exposures.map T_api_Exposure.c))), (101, .p (vi (x48.Exposures.length : Int))), (102, .p (vi (i55 : Int)))], [(1, .map (m29.map (cM kS pB)))], 3⟩) (Upd.sub (show 3 ≤ 3 by decide) (by simp [go_sem, envSub, Env.get]) (by simp [go_sem, heapSub, Heap.get, belowO])) ?_ ?_
                · rintro ⟨⟩ hy Q hQ
                  (try dsimp only at hy ⊢)
                  have hlt : decide (((x48.Exposures.length : Int) : Int) < (x48.Exposures.length : Int)) = false := by simp
                  refine aw_srH fun K hK => ?_
                  (try simp only [go_sem, hlt])
                  refine IsK.go (by assumption) ?_
                  refine aw_seqH fun Q hQ => ?_
                  refine aw_cond rfl (fun hc => ?_) (fun hc => ?_)
                  · cases hc
                  refine aw_exit ?_
                  (repeat (refine IsQ.go (by assumption) ?_; (try dsimp only); (try simp only [E0])))
                  exact ⟨_, hy, (Upd.sub (show 3 ≤ 3 by decide) (by simp [go_sem, envSub, Env.get]) (by simp [go_sem, heapSub, Heap.get, belowO]))⟩
                · rintro i55 x58 ⟨⟩ z59 hi hx hF hb59 hr59 Q hQ
                  (try dsimp only at hF ⊢)
                  have hlt : decide ((i55 : Int) < (x48.Exposures.length : Int)) = true := by simp; omega
                  have hw56 : IntKind.i64.wrap ((i55 : Int) + 1) = ((i55 + 1 : Nat) : Int) := by rw [wrap64 (by omega) (by omega)]; simp
                  refine aw_srH fun K hK => ?_
                  (try simp only [go_sem, hlt])
                  refine IsK.go (by assumption) ?_
                  refine aw_seqH fun Q hQ => ?_
                  refine aw_cond rfl (fun hc => ?_) (fun hc => ?_)
                  rotate_left; · cases hc
                  refine aw_skip ?_
                  (repeat (refine IsQ.go (by assumption) ?_; (try dsimp only); (try simp only [reduceCtorEq, E0])))
                  refine aw_seqH fun Q hQ => ?_
                  refine aw_blockH fun Q hQ => ?_
                  refine aw_srH fun K hK => ?_
                  (try simp only [go_sem, hx])
                  refine IsK.go (by assumption) ?_
                  refine aw_srH fun K hK => ?_
                  (try simp only [go_sem])
                  refine IsK.go (by assumption) ?_
                  refine aw_cond rfl (fun hc => ?_) (fun hc => ?_)
                  · replace hF := if_t hc hF
                    refine aw_srH fun K hK => ?_
                    (try simp only [go_sem])
                    refine IsK.go (by assumption) ?_
                    refine aw_ret ?_
                    (repeat (refine IsQ.go (by assumption) ?_; (try dsimp only); (try simp only [reduceCtorEq, E0])))
                    cases hF
                    cases (hj59 _ (hr59 _ rfl))
                    cases (hj54 _ (hr54 _ rfl))
                    simp only [go_sem]
                  · replace hF := if_f hc hF
                    refine aw_skip ?_
                    (repeat (refine IsQ.go (by assumption) ?_; (try dsimp only); (try simp only [reduceCtorEq, E0])))
                    refine aw_region ?_
                    (try simp only [go_sem, hw56])
                    (repeat (refine IsQ.go (by assumption) ?_; (try dsimp only); (try simp only [reduceCtorEq, E0])))
                    cases hF
                    exact ⟨_, rfl, (Upd.sub (show 3 ≤ 3 by decide) (by simp [go_sem, envSub, Env.get]) (by simp [go_sem, heapSub, Heap.get, belowO]))⟩
              rintro ⟨⟩ hF
              (try dsimp only at hF ⊢)
              (repeat (refine IsQ.go (by assumption) ?_; (try dsimp only); (try simp only [reduceCtorEq, E0])))
              refine aw_region ?_
              (try simp only [go_sem, hw46])
              (repeat (refine IsQ.go (by assumption) ?_; (try dsimp only); (try simp only [reduceCtorEq, E0])))
              cases hF
              exact ⟨_, rfl, (Upd.sub (show 2 ≤ 2 by decide) (by simp [go_sem, envSub, Env.get]) (by simp [go_sem, heapSub, Heap.get, belowO]))⟩
          rintro ⟨⟩ hF
          (try dsimp only at hF ⊢)
          (repeat (refine IsQ.go (by assumption) ?_; (try dsimp only); (try simp only [reduceCtorEq, E0])))
          refine aw_srH fun K hK => ?_
          (try simp only [go_sem])
          refine IsK.go (by assumption) ?_
          refine aw_ret ?_
          (repeat (refine IsQ.go (by assumption) ?_; (try dsimp only); (try simp only [reduceCtorEq, E0])))
          cases hF
          simp only [go_sem]
theorem slices_Clone_Exposure_Exposure_ok {v0 : List T_api_Exposure} {r0} (hF : slices_Clone_Exposure_Exposure v0 = some r0) : APure Try.prog 129 [.p (.sl (v0.map T_api_Exposure.c))] (.p (.sl (r0.map T_api_Exposure.c))) := by
  refine apureZ 2 rc129_ok rfl ?_
  simp only [rc129, argEnv]
  unfold slices_Clone_Exposure_Exposure at hF
  obtain ⟨h1, h2⟩ := app_some hF
  simp only [go_sem] at h1 h2
  refine aw_srH fun K hK => ?_
  simp only [go_sem]
  refine IsK.go (by assumption) ?_
  refine aw_seqH fun Q hQ => ?_
  refine aw_srH fun K hK => ?_
  simp only [go_sem]
  intro b hb
  refine IsK.go (by assumption) ?_
  cases b with
  | true =>
    have hv : v0 = [] := Classical.byContradiction fun hne => by
      have := hb (by simpa using hne)
      cases this
    subst hv
    refine aw_cond rfl (fun hc => ?_) (fun hc => by cases hc)
    refine aw_srH fun K hK => ?_
    simp only [go_sem]
    refine IsK.go (by assumption) ?_
    refine aw_ret ?_
    (repeat (refine IsQ.go (by assumption) ?_; (try dsimp only); (try simp only [reduceCtorEq, E0])))
    subst h2
    simp only [go_sem]
  | false =>
    refine aw_cond rfl (fun hc => by cases hc) (fun hc => ?_)
    refine aw_skip ?_
    (repeat (refine IsQ.go (by assumption) ?_; (try dsimp only); (try simp only [reduceCtorEq, E0])))
    refine aw_srH fun K hK => ?_
    simp only [go_sem, h1]
    refine IsK.go (by assumption) ?_
    refine aw_ret ?_
    (repeat (refine IsQ.go (by assumption) ?_; (try dsimp only); (try simp only [reduceCtorEq, E0])))
    subst h2
    simp only [go_sem]

theorem history_copied_ok {v0 : T_api_Release} {r0} (hF : history_copied v0 = some r0) : APure Try.prog 89 [.p (.agg [vs v0.Version.b, vi v0.Day, .sl (v0.Exposures.map T_api_Exposure.c)])] (.p (.agg [vs r0.Version.b, vi r0.Day, .sl (r0.Exposures.map T_api_Exposure.c)])) := by
  refine apureZ 2 rc89_ok rfl ?_
  simp only [rc89, argEnv]
  unfold history_copied at hF
  refine aw_srH fun K hK => ?_
  (try simp only [go_sem])
  refine IsK.go (by assumption) ?_
  obtain ⟨y1, h2, hF⟩ := bind_some hF
  refine aw_srH fun K hK => ?_
  (try simp only [go_sem])
  refine call_pure (slices_Clone_Exposure_Exposure_ok h2) rfl (by simp only [go_sem]) (by simp only [go_sem]) ?_
  (try dsimp only); (try simp only [go_sem])
  refine IsK.go (by assumption) ?_
  refine aw_srH fun K hK => ?_
  (try simp only [go_sem])
  refine IsK.go (by assumption) ?_
  refine aw_ret ?_
  (repeat (refine IsQ.go (by assumption) ?_; (try dsimp only); (try simp only [reduceCtorEq, E0])))
  cases hF
  simp only [go_sem]
end Go.Abs
