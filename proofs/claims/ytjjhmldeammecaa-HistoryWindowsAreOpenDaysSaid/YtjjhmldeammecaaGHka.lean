/- The walks of these functions against the plain ones (printed by a program of this repo). -/
import Derived.Test.YtjjhmldeammecaaRHk
import Derived.Test.YtjjhmldeammecaaGHca
namespace Go.Abs
open Go Go.Proofs
set_option maxRecDepth 8000
theorem ref11_knownFault_ok {v0 : List T_api_Published} {r0} (hF : ref11_knownFault v0 = some r0) : APure Try.prog 95 [.p (.sl (v0.map T_api_Published.c))] (.p (vi r0)) := by
  refine apureZ 2 rc95_ok rfl ?_
  simp only [rc95, argEnv]
  unfold ref11_knownFault at hF
  refine aw_srH fun K hK => ?_
  (try simp only [go_sem])
  refine IsK.go (by assumption) ?_
  refine aw_seqH fun Q hQ => ?_
  refine aw_srH fun K hK => ?_
  (try simp only [go_sem])
  refine IsK.go (by assumption) ?_
  refine aw_joinX hF (fun (_ : Unit) => ⟨[], [], 0⟩) ?_ ?_
  · intro y13 hF hj13 Q hQ
    refine aw_blockH fun Q hQ => ?_
    refine aw_fact 0 rfl (fun _ _ => sl_lim) fun hl3 => ?_; simp only [List.length_map, top] at hl3
    refine aw_forL hF (fun i1 _ => ⟨[(0, .p (.sl (v0.map T_api_Published.c))), (5, .p (.sl (v0.map T_api_Published.c))), (6, .p (vi (v0.length : Int))), (7, .p (vi (i1 : Int)))], [], 0⟩) (Upd.sub (show 0 ≤ 0 by decide) (by simp [go_sem, envSub, Env.get]) trivial) ?_ ?_
    · rintro ⟨⟩ hy Q hQ
      (try dsimp only at hy ⊢)
      have hlt : decide (((v0.length : Int) : Int) < (v0.length : Int)) = false := by simp
      refine aw_srH fun K hK => ?_
      (try simp only [go_sem, hlt])
      refine IsK.go (by assumption) ?_
      refine aw_seqH fun Q hQ => ?_
      refine aw_cond rfl (fun hc => ?_) (fun hc => ?_)
      · cases hc
      refine aw_exit ?_
      (repeat (refine IsQ.go (by assumption) ?_; (try dsimp only); (try simp only [E0])))
      exact ⟨_, hy, (Upd.sub (show 0 ≤ 0 by decide) (by simp [go_sem, envSub]) trivial)⟩
    · rintro i1 x4 ⟨⟩ z13 hi hx hF hb13 hr13 Q hQ
      (try dsimp only at hF ⊢)
      have hlt : decide ((i1 : Int) < (v0.length : Int)) = true := by simp; omega
      have hw2 : IntKind.i64.wrap ((i1 : Int) + 1) = ((i1 + 1 : Nat) : Int) := by rw [wrap64 (by omega) (by omega)]; simp
      refine aw_srH fun K hK => ?_
      (try simp only [go_sem, hlt])
      refine IsK.go (by assumption) ?_
      refine aw_seqH fun Q hQ => ?_
      refine aw_cond rfl (fun hc => ?_) (fun hc => ?_)
      rotate_left; · cases hc
      refine aw_skip ?_
      (repeat (refine IsQ.go (by assumption) ?_; (try dsimp only); (try simp only [reduceCtorEq, E0])))
      refine aw_seqH fun Q hQ => ?_
      refine aw_blockH fun Q hQ => ?_
      refine aw_srH fun K hK => ?_
      (try simp only [go_sem, hx])
      refine IsK.go (by assumption) ?_
      refine aw_blockH fun Q hQ => ?_
      obtain ⟨y14, h15, hF⟩ := bind_some hF
      refine aw_srH fun K hK => ?_
      (try simp only [go_sem])
      refine call_pure (ref11_isName_ok h15) rfl (by simp only [go_sem]) (by simp only [go_sem]) ?_
      (try dsimp only); (try simp only [go_sem])
      refine IsK.go (by assumption) ?_
      refine aw_cond rfl (fun hc => ?_) (fun hc => ?_)
      · replace hF := if_t hc hF
        refine aw_srH fun K hK => ?_
        (try simp only [go_sem])
        refine IsK.go (by assumption) ?_
        refine aw_ret ?_
        (repeat (refine IsQ.go (by assumption) ?_; (try dsimp only); (try simp only [reduceCtorEq, E0])))
        cases hF
        cases (hj13 _ (hr13 _ rfl))
        simp only [go_sem]
      · replace hF := if_f hc hF
        obtain ⟨b18, h19, hF⟩ := bind_some hF
        refine aw_sdJ ⟨[(0, .p (.sl (v0.map T_api_Published.c))), (4, .bp 0 0), (5, .p (.sl (v0.map T_api_Published.c))), (6, .p (vi (v0.length : Int))), (7, .p (vi (i1 : Int))), (17, .p (vb b18))], [(0, .cells [.p (vs x4.Advisory.b), .p (vi x4.Day), .p (vi x4.Ended)])], 1⟩ (fun K hK => ?_) ?_
        · (try simp only [go_sem])
          (try simp only [go_sem])
          refine vD_split rfl ?_ ?_ <;> intro hg20 <;> (try simp only [hg20, go_sem])
          · simp only [hg20, gbS] at h19
            obtain ⟨x21, h22, h19⟩ := bind_some h19
            replace h22 := idx_map T_api_Published.c h22; (try simp only [go_sem] at h22)
            cases h19
            (try simp only [go_sem, h22])
            refine IsK.go (by assumption) ?_
            exact (Upd.sub (show 1 ≤ 1 by decide) (by simp [go_sem, envSub, Env.get]) (by simp [go_sem, heapSub, Heap.get, belowO]))
          · simp only [hg20, gbS] at h19
            cases h19
            (try simp only [go_sem, hg20])
            refine IsK.go (by assumption) ?_
            exact (Upd.sub (show 1 ≤ 1 by decide) (by simp [go_sem, envSub, Env.get]) (by simp [go_sem, heapSub, Heap.get, belowO]))
        refine aw_cond rfl (fun hc => ?_) (fun hc => ?_)
        · replace hF := if_t hc hF
          refine aw_srH fun K hK => ?_
          (try simp only [go_sem])
          refine IsK.go (by assumption) ?_
          refine aw_ret ?_
          (repeat (refine IsQ.go (by assumption) ?_; (try dsimp only); (try simp only [reduceCtorEq, E0])))
          cases hF
          cases (hj13 _ (hr13 _ rfl))
          simp only [go_sem]
        · replace hF := if_f hc hF
          obtain ⟨y23, h24, hF⟩ := bind_some hF
          refine aw_srJ ⟨[(0, .p (.sl (v0.map T_api_Published.c))), (5, .p (.sl (v0.map T_api_Published.c))), (6, .p (vi (v0.length : Int))), (7, .p (vi (i1 : Int))), (31, .p (vb ((!y23) || ((x4.Ended != (-1)) && ((decide (x4.Ended < x4.Day)) || (decide (x4.Ended > 1000000)))))))], [], 1⟩ (fun K hK => ?_) ?_
          · (try simp only [go_sem])
            (try simp only [go_sem])
            refine call_pure (ref11_isDay_ok h24) rfl (by simp only [go_sem]) (by simp only [go_sem]) ?_
            (try dsimp only); (try simp only [go_sem])
            (try simp only [go_sem])
            refine vOps_split rfl ?_ ?_ <;> intro hg25 <;> (try simp only [hg25, go_sem])
            · (try simp only [go_sem, hg25])
              refine IsK.go (by assumption) ?_
              exact (Upd.sub (show 1 ≤ 1 by decide) (by simp [go_sem, envSub, Env.get, hg25]) trivial)
            · (try simp only [go_sem, hg25])
              refine vOps_split rfl ?_ ?_ <;> intro hg26 <;> (try simp only [hg26, go_sem])
              · (try simp only [go_sem, hg25, hg26])
                refine vOps_split rfl ?_ ?_ <;> intro hg27 <;> (try simp only [hg27, go_sem])
                · (try simp only [go_sem, hg25, hg26, hg27])
                  refine IsK.go (by assumption) ?_
                  exact (Upd.sub (show 1 ≤ 1 by decide) (by simp [go_sem, envSub, Env.get, hg25, hg26, hg27]) trivial)
                · (try simp only [go_sem, hg25, hg26, hg27])
                  refine IsK.go (by assumption) ?_
                  exact (Upd.sub (show 1 ≤ 1 by decide) (by simp [go_sem, envSub, Env.get, hg25, hg26, hg27]) trivial)
              · (try simp only [go_sem, hg25, hg26])
                refine IsK.go (by assumption) ?_
                exact (Upd.sub (show 1 ≤ 1 by decide) (by simp [go_sem, envSub, Env.get, hg25, hg26]) trivial)
          refine aw_cond rfl (fun hc => ?_) (fun hc => ?_)
          · replace hF := if_t hc hF
            refine aw_srH fun K hK => ?_
            (try simp only [go_sem])
            refine IsK.go (by assumption) ?_
            refine aw_ret ?_
            (repeat (refine IsQ.go (by assumption) ?_; (try dsimp only); (try simp only [reduceCtorEq, E0])))
            cases hF
            cases (hj13 _ (hr13 _ rfl))
            simp only [go_sem]
          · replace hF := if_f hc hF
            refine aw_skip ?_
            (repeat (refine IsQ.go (by assumption) ?_; (try dsimp only); (try simp only [reduceCtorEq, E0])))
            refine aw_region ?_
            (try simp only [go_sem, hw2])
            (repeat (refine IsQ.go (by assumption) ?_; (try dsimp only); (try simp only [reduceCtorEq, E0])))
            cases hF
            exact ⟨_, rfl, (Upd.sub (show 0 ≤ 0 by decide) (by simp [go_sem, envSub, Env.get]) trivial)⟩
  rintro ⟨⟩ hF
  (try dsimp only at hF ⊢)
  (repeat (refine IsQ.go (by assumption) ?_; (try dsimp only); (try simp only [reduceCtorEq, E0])))
  refine aw_srH fun K hK => ?_
  (try simp only [go_sem])
  refine IsK.go (by assumption) ?_
  refine aw_ret ?_
  (repeat (refine IsQ.go (by assumption) ?_; (try dsimp only); (try simp only [reduceCtorEq, E0])))
  cases hF
  simp only [go_sem]
theorem ref11_Check_ok {v0 : T_api_Story} {r0} (hF : ref11_Check v0 = some r0) : APure Try.prog 35 [.p (.agg [vs v0.Product.b, .sl (v0.Releases.map T_api_Release.c), .sl (v0.Known.map T_api_Published.c), vi v0.Until])] (.p (vi r0)) := by
  refine apureZ 2 rc35_ok rfl ?_
  simp only [rc35, argEnv]
  unfold ref11_Check at hF
  refine aw_srH fun K hK => ?_
  (try simp only [go_sem])
  refine IsK.go (by assumption) ?_
  refine aw_seqH fun Q hQ => ?_
  refine aw_blockH fun Q hQ => ?_
  obtain ⟨y1, h2, hF⟩ := bind_some hF
  refine aw_srH fun K hK => ?_
  (try simp only [go_sem])
  refine call_pure (ref11_isName_ok h2) rfl (by simp only [go_sem]) (by simp only [go_sem]) ?_
  (try dsimp only); (try simp only [go_sem])
  refine IsK.go (by assumption) ?_
  refine aw_cond rfl (fun hc => ?_) (fun hc => ?_)
  · replace hF := if_t hc hF
    refine aw_srH fun K hK => ?_
    (try simp only [go_sem])
    refine IsK.go (by assumption) ?_
    refine aw_ret ?_
    (repeat (refine IsQ.go (by assumption) ?_; (try dsimp only); (try simp only [reduceCtorEq, E0])))
    cases hF
    simp only [go_sem]
  · replace hF := if_f hc hF
    obtain ⟨y3, h4, hF⟩ := bind_some hF
    refine aw_srH fun K hK => ?_
    (try simp only [go_sem])
    refine call_pure (ref11_isDay_ok h4) rfl (by simp only [go_sem]) (by simp only [go_sem]) ?_
    (try dsimp only); (try simp only [go_sem])
    refine IsK.go (by assumption) ?_
    refine aw_cond rfl (fun hc => ?_) (fun hc => ?_)
    · replace hF := if_t hc hF
      refine aw_srH fun K hK => ?_
      (try simp only [go_sem])
      refine IsK.go (by assumption) ?_
      refine aw_ret ?_
      (repeat (refine IsQ.go (by assumption) ?_; (try dsimp only); (try simp only [reduceCtorEq, E0])))
      cases hF
      simp only [go_sem]
    · replace hF := if_f hc hF
      refine aw_srJ ⟨[(1, .bp 0 0), (25, .p (vb ((decide ((v0.Releases.length : Int) > 500)) || (decide ((v0.Known.length : Int) > 2000)))))], [(0, .cells [.p (vs v0.Product.b), .p (.sl (v0.Releases.map T_api_Release.c)), .p (.sl (v0.Known.map T_api_Published.c)), .p (vi v0.Until)])], 1⟩ (fun K hK => ?_) ?_
      · (try simp only [go_sem])
        (try simp only [go_sem])
        refine vOps_split rfl ?_ ?_ <;> intro hg5 <;> (try simp only [hg5, go_sem])
        · (try simp only [go_sem, hg5])
          refine IsK.go (by assumption) ?_
          exact (Upd.sub (show 1 ≤ 1 by decide) (by simp [go_sem, envSub, Env.get, hg5]) (by simp [go_sem, heapSub, Heap.get, belowO]))
        · (try simp only [go_sem, hg5])
          refine IsK.go (by assumption) ?_
          exact (Upd.sub (show 1 ≤ 1 by decide) (by simp [go_sem, envSub, Env.get, hg5]) (by simp [go_sem, heapSub, Heap.get, belowO]))
      refine aw_cond rfl (fun hc => ?_) (fun hc => ?_)
      · replace hF := if_t hc hF
        refine aw_srH fun K hK => ?_
        (try simp only [go_sem])
        refine IsK.go (by assumption) ?_
        refine aw_ret ?_
        (repeat (refine IsQ.go (by assumption) ?_; (try dsimp only); (try simp only [reduceCtorEq, E0])))
        cases hF
        simp only [go_sem]
      · replace hF := if_f hc hF
        refine aw_skip ?_
        (repeat (refine IsQ.go (by assumption) ?_; (try dsimp only); (try simp only [reduceCtorEq, E0])))
        refine aw_srH fun K hK => ?_
        (try simp only [go_sem])
        refine IsK.go (by assumption) ?_
        refine aw_seqH fun Q hQ => ?_
        refine aw_srH fun K hK => ?_
        (try simp only [go_sem])
        refine IsK.go (by assumption) ?_
        refine aw_joinX hF (fun (_ : Unit) => ⟨[(1, .bp 0 0)], [(0, .cells [.p (vs v0.Product.b), .p (.sl (v0.Releases.map T_api_Release.c)), .p (.sl (v0.Known.map T_api_Published.c)), .p (vi v0.Until)])], 2⟩) ?_ ?_
        · intro y27 hF hj27 Q hQ
          refine aw_blockH fun Q hQ => ?_
          refine aw_fact 38 rfl (fun _ _ => sl_lim) fun hl8 => ?_; simp only [List.length_map, top] at hl8
          refine aw_forL hF (fun i6 m18 => ⟨[(1, .bp 0 0), (3, .mp 1), (38, .p (.sl (v0.Releases.map T_api_Release.c))), (39, .p (vi (v0.Releases.length : Int))), (40, .p (vi (i6 : Int)))], [(1, .map (m18.map (cM kS pB))), (0, .cells [.p (vs v0.Product.b), .p (.sl (v0.Releases.map T_api_Release.c)), .p (.sl (v0.Known.map T_api_Published.c)), .p (vi v0.Until)])], 2⟩) (Upd.sub (show 2 ≤ 2 by decide) (by simp [go_sem, envSub, Env.get]) (by simp [go_sem, heapSub, Heap.get, belowO])) ?_ ?_
          · rintro m18 hy Q hQ
            (try dsimp only at hy ⊢)
            have hlt : decide (((v0.Releases.length : Int) : Int) < (v0.Releases.length : Int)) = false := by simp
            refine aw_srH fun K hK => ?_
            (try simp only [go_sem, hlt])
            refine IsK.go (by assumption) ?_
            refine aw_seqH fun Q hQ => ?_
            refine aw_cond rfl (fun hc => ?_) (fun hc => ?_)
            · cases hc
            refine aw_exit ?_
            (repeat (refine IsQ.go (by assumption) ?_; (try dsimp only); (try simp only [E0])))
            exact ⟨_, hy, (Upd.sub (show 2 ≤ 2 by decide) (by simp [go_sem, envSub, Env.get]) (by simp [go_sem, heapSub, Heap.get, belowO]))⟩
          · rintro i6 x9 m18 z27 hi hx hF hb27 hr27 Q hQ
            (try dsimp only at hF ⊢)
            have hlt : decide ((i6 : Int) < (v0.Releases.length : Int)) = true := by simp; omega
            have hw7 : IntKind.i64.wrap ((i6 : Int) + 1) = ((i6 + 1 : Nat) : Int) := by rw [wrap64 (by omega) (by omega)]; simp
            refine aw_srH fun K hK => ?_
            (try simp only [go_sem, hlt])
            refine IsK.go (by assumption) ?_
            refine aw_seqH fun Q hQ => ?_
            refine aw_cond rfl (fun hc => ?_) (fun hc => ?_)
            rotate_left; · cases hc
            refine aw_skip ?_
            (repeat (refine IsQ.go (by assumption) ?_; (try dsimp only); (try simp only [reduceCtorEq, E0])))
            refine aw_seqH fun Q hQ => ?_
            refine aw_blockH fun Q hQ => ?_
            refine aw_srH fun K hK => ?_
            (try simp only [go_sem, hx])
            refine IsK.go (by assumption) ?_
            refine aw_seqH fun Q hQ => ?_
            refine aw_blockH fun Q hQ => ?_
            obtain ⟨y28, h29, hF⟩ := bind_some hF
            refine aw_srH fun K hK => ?_
            (try simp only [go_sem])
            refine call_pure (ref11_isName_ok h29) rfl (by simp only [go_sem]) (by simp only [go_sem]) ?_
            (try dsimp only); (try simp only [go_sem])
            refine IsK.go (by assumption) ?_
            refine aw_cond rfl (fun hc => ?_) (fun hc => ?_)
            · replace hF := if_t hc hF
              refine aw_srH fun K hK => ?_
              (try simp only [go_sem])
              refine IsK.go (by assumption) ?_
              refine aw_ret ?_
              (repeat (refine IsQ.go (by assumption) ?_; (try dsimp only); (try simp only [reduceCtorEq, E0])))
              cases hF
              cases (hj27 _ (hr27 _ rfl))
              simp only [go_sem]
            · replace hF := if_f hc hF
              refine aw_srH fun K hK => ?_
              (try simp only [go_sem])
              refine IsK.go (by assumption) ?_
              refine aw_cond rfl (fun hc => ?_) (fun hc => ?_)
              · replace hF := if_t hc hF
                refine aw_srH fun K hK => ?_
                (try simp only [go_sem])
                refine IsK.go (by assumption) ?_
                refine aw_ret ?_
                (repeat (refine IsQ.go (by assumption) ?_; (try dsimp only); (try simp only [reduceCtorEq, E0])))
                cases hF
                cases (hj27 _ (hr27 _ rfl))
                simp only [go_sem]
              · replace hF := if_f hc hF
                refine aw_srJ ⟨[(1, .bp 0 0), (3, .mp 1), (4, .p (vi (i6 : Int))), (5, .bp 2 0), (38, .p (.sl (v0.Releases.map T_api_Release.c))), (39, .p (vi (v0.Releases.length : Int))), (40, .p (vi (i6 : Int))), (55, .p (vb ((decide (x9.Day < 0)) || (decide (x9.Day > v0.Until)))))], [(2, .cells [.p (vs x9.Version.b), .p (vi x9.Day), .p (.sl (x9.Exposures.map T_api_Exposure.c))]), (1, .map (m18.map (cM kS pB))), (0, .cells [.p (vs v0.Product.b), .p (.sl (v0.Releases.map T_api_Release.c)), .p (.sl (v0.Known.map T_api_Published.c)), .p (vi v0.Until)])], 3⟩ (fun K hK => ?_) ?_
                · (try simp only [go_sem])
                  (try simp only [go_sem])
                  refine vOps_split rfl ?_ ?_ <;> intro hg30 <;> (try simp only [hg30, go_sem])
                  · (try simp only [go_sem, hg30])
                    refine IsK.go (by assumption) ?_
                    exact (Upd.sub (show 3 ≤ 3 by decide) (by simp [go_sem, envSub, Env.get, hg30]) (by simp [go_sem, heapSub, Heap.get, belowO]))
                  · (try simp only [go_sem, hg30])
                    refine IsK.go (by assumption) ?_
                    exact (Upd.sub (show 3 ≤ 3 by decide) (by simp [go_sem, envSub, Env.get, hg30]) (by simp [go_sem, heapSub, Heap.get, belowO]))
                refine aw_cond rfl (fun hc => ?_) (fun hc => ?_)
                · replace hF := if_t hc hF
                  refine aw_srH fun K hK => ?_
                  (try simp only [go_sem])
                  refine IsK.go (by assumption) ?_
                  refine aw_ret ?_
                  (repeat (refine IsQ.go (by assumption) ?_; (try dsimp only); (try simp only [reduceCtorEq, E0])))
                  cases hF
                  cases (hj27 _ (hr27 _ rfl))
                  simp only [go_sem]
                · replace hF := if_f hc hF
                  obtain ⟨b33, h34, hF⟩ := bind_some hF
                  refine aw_sdJ ⟨[(1, .bp 0 0), (3, .mp 1), (5, .bp 2 0), (38, .p (.sl (v0.Releases.map T_api_Release.c))), (39, .p (vi (v0.Releases.length : Int))), (40, .p (vi (i6 : Int))), (66, .p (vb b33))], [(2, .cells [.p (vs x9.Version.b), .p (vi x9.Day), .p (.sl (x9.Exposures.map T_api_Exposure.c))]), (1, .map (m18.map (cM kS pB))), (0, .cells [.p (vs v0.Product.b), .p (.sl (v0.Releases.map T_api_Release.c)), .p (.sl (v0.Known.map T_api_Published.c)), .p (vi v0.Until)])], 3⟩ (fun K hK => ?_) ?_
                  · (try simp only [go_sem])
                    (try simp only [go_sem])
                    refine vD_split rfl ?_ ?_ <;> intro hg35 <;> (try simp only [hg35, go_sem])
                    · simp only [hg35, gbS] at h34
                      obtain ⟨x36, h37, h34⟩ := bind_some h34
                      replace h37 := idx_map T_api_Release.c h37; (try simp only [go_sem] at h37)
                      cases h34
                      (try simp only [go_sem, h37])
                      refine IsK.go (by assumption) ?_
                      exact (Upd.sub (show 3 ≤ 3 by decide) (by simp [go_sem, envSub, Env.get]) (by simp [go_sem, heapSub, Heap.get, belowO]))
                    · simp only [hg35, gbS] at h34
                      cases h34
                      (try simp only [go_sem, hg35])
                      refine IsK.go (by assumption) ?_
                      exact (Upd.sub (show 3 ≤ 3 by decide) (by simp [go_sem, envSub, Env.get]) (by simp [go_sem, heapSub, Heap.get, belowO]))
                  refine aw_cond rfl (fun hc => ?_) (fun hc => ?_)
                  · replace hF := if_t hc hF
                    refine aw_srH fun K hK => ?_
                    (try simp only [go_sem])
                    refine IsK.go (by assumption) ?_
                    refine aw_ret ?_
                    (repeat (refine IsQ.go (by assumption) ?_; (try dsimp only); (try simp only [reduceCtorEq, E0])))
                    cases hF
                    cases (hj27 _ (hr27 _ rfl))
                    simp only [go_sem]
                  · replace hF := if_f hc hF
                    refine aw_skip ?_
                    (repeat (refine IsQ.go (by assumption) ?_; (try dsimp only); (try simp only [reduceCtorEq, E0])))
                    refine aw_srH fun K hK => ?_
                    (try simp only [go_sem])
                    refine IsK.go (by assumption) ?_
                    obtain ⟨y38, h39, hF⟩ := bind_some hF
                    refine aw_srH fun K hK => ?_
                    (try simp only [go_sem])
                    refine call_pure (ref11_exposuresFault_ok h39) rfl (by simp only [go_sem]) (by simp only [go_sem]) ?_
                    (try dsimp only); (try simp only [go_sem])
                    refine IsK.go (by assumption) ?_
                    refine aw_srH fun K hK => ?_
                    (try simp only [go_sem])
                    refine IsK.go (by assumption) ?_
                    refine aw_cond rfl (fun hc => ?_) (fun hc => ?_)
                    · replace hF := if_t hc hF
                      refine aw_srH fun K hK => ?_
                      (try simp only [go_sem])
                      refine IsK.go (by assumption) ?_
                      refine aw_ret ?_
                      (repeat (refine IsQ.go (by assumption) ?_; (try dsimp only); (try simp only [reduceCtorEq, E0])))
                      cases hF
                      cases (hj27 _ (hr27 _ rfl))
                      simp only [go_sem]
                    · replace hF := if_f hc hF
                      refine aw_skip ?_
                      (repeat (refine IsQ.go (by assumption) ?_; (try dsimp only); (try simp only [reduceCtorEq, E0])))
                      refine aw_region ?_
                      (try simp only [go_sem, hw7])
                      (repeat (refine IsQ.go (by assumption) ?_; (try dsimp only); (try simp only [reduceCtorEq, E0])))
                      cases hF
                      exact ⟨_, rfl, (Upd.sub (show 2 ≤ 2 by decide) (by simp [go_sem, envSub, Env.get]) (by simp [go_sem, heapSub, Heap.get, belowO]))⟩
        rintro ⟨⟩ hF
        (try dsimp only at hF ⊢)
        (repeat (refine IsQ.go (by assumption) ?_; (try dsimp only); (try simp only [reduceCtorEq, E0])))
        refine aw_seqH fun Q hQ => ?_
        obtain ⟨y40, h41, hF⟩ := bind_some hF
        refine aw_srH fun K hK => ?_
        (try simp only [go_sem])
        refine call_pure (ref11_knownFault_ok h41) rfl (by simp only [go_sem]) (by simp only [go_sem]) ?_
        (try dsimp only); (try simp only [go_sem])
        refine IsK.go (by assumption) ?_
        refine aw_srH fun K hK => ?_
        (try simp only [go_sem])
        refine IsK.go (by assumption) ?_
        refine aw_cond rfl (fun hc => ?_) (fun hc => ?_)
        · replace hF := if_t hc hF
          refine aw_srH fun K hK => ?_
          (try simp only [go_sem])
          refine IsK.go (by assumption) ?_
          refine aw_ret ?_
          (repeat (refine IsQ.go (by assumption) ?_; (try dsimp only); (try simp only [reduceCtorEq, E0])))
          cases hF
          simp only [go_sem]
        · replace hF := if_f hc hF
          refine aw_skip ?_
          (repeat (refine IsQ.go (by assumption) ?_; (try dsimp only); (try simp only [reduceCtorEq, E0])))
          refine aw_srH fun K hK => ?_
          (try simp only [go_sem])
          refine IsK.go (by assumption) ?_
          refine aw_seqH fun Q hQ => ?_
          refine aw_srH fun K hK => ?_
          (try simp only [go_sem])
          refine IsK.go (by assumption) ?_
          refine aw_joinX hF (fun (m47 : (List (Str × Bool))) => ⟨[(1, .bp 0 0), (8, .mp 2)], [(2, .map (m47.map (cM kS pB))), (0, .cells [.p (vs v0.Product.b), .p (.sl (v0.Releases.map T_api_Release.c)), .p (.sl (v0.Known.map T_api_Published.c)), .p (vi v0.Until)])], 3⟩) ?_ ?_
          · intro y48 hF hj48 Q hQ
            refine aw_blockH fun Q hQ => ?_
            refine aw_fact 99 rfl (fun _ _ => sl_lim) fun hl44 => ?_; simp only [List.length_map, top] at hl44
            refine aw_forL hF (fun i42 m46 => ⟨[(1, .bp 0 0), (8, .mp 2), (99, .p (.sl (v0.Known.map T_api_Published.c))), (100, .p (vi (v0.Known.length : Int))), (101, .p (vi (i42 : Int)))], [(2, .map (m46.map (cM kS pB))), (0, .cells [.p (vs v0.Product.b), .p (.sl (v0.Releases.map T_api_Release.c)), .p (.sl (v0.Known.map T_api_Published.c)), .p (vi v0.Until)])], 3⟩) (Upd.sub (show 3 ≤ 3 by decide) (by simp [go_sem, envSub, Env.get]) (by simp [go_sem, heapSub, Heap.get, belowO])) ?_ ?_
            · rintro m46 hy Q hQ
              (try dsimp only at hy ⊢)
              have hlt : decide (((v0.Known.length : Int) : Int) < (v0.Known.length : Int)) = false := by simp
              refine aw_srH fun K hK => ?_
              (try simp only [go_sem, hlt])
              refine IsK.go (by assumption) ?_
              refine aw_seqH fun Q hQ => ?_
              refine aw_cond rfl (fun hc => ?_) (fun hc => ?_)
              · cases hc
              refine aw_exit ?_
              (repeat (refine IsQ.go (by assumption) ?_; (try dsimp only); (try simp only [E0])))
              exact ⟨_, hy, (Upd.sub (show 3 ≤ 3 by decide) (by simp [go_sem, envSub, Env.get]) (by simp [go_sem, heapSub, Heap.get, belowO]))⟩
            · rintro i42 x45 m46 z48 hi hx hF hb48 hr48 Q hQ
              (try dsimp only at hF ⊢)
              have hlt : decide ((i42 : Int) < (v0.Known.length : Int)) = true := by simp; omega
              have hw43 : IntKind.i64.wrap ((i42 : Int) + 1) = ((i42 + 1 : Nat) : Int) := by rw [wrap64 (by omega) (by omega)]; simp
              refine aw_srH fun K hK => ?_
              (try simp only [go_sem, hlt])
              refine IsK.go (by assumption) ?_
              refine aw_seqH fun Q hQ => ?_
              refine aw_cond rfl (fun hc => ?_) (fun hc => ?_)
              rotate_left; · cases hc
              refine aw_skip ?_
              (repeat (refine IsQ.go (by assumption) ?_; (try dsimp only); (try simp only [reduceCtorEq, E0])))
              refine aw_seqH fun Q hQ => ?_
              refine aw_blockH fun Q hQ => ?_
              refine aw_srH fun K hK => ?_
              (try simp only [go_sem, hx])
              refine IsK.go (by assumption) ?_
              refine aw_region ?_
              (try simp only [go_sem])
              (repeat (refine IsQ.go (by assumption) ?_; (try dsimp only); (try simp only [reduceCtorEq, E0])))
              refine aw_region ?_
              (try simp only [go_sem, hw43])
              (repeat (refine IsQ.go (by assumption) ?_; (try dsimp only); (try simp only [reduceCtorEq, E0])))
              cases hF
              exact ⟨_, rfl, (Upd.sub (show 3 ≤ 3 by decide) (by simp [go_sem, envSub, Env.get]) (by simp [go_sem, heapSub, Heap.get, belowO]))⟩
          rintro m47 hF
          (try dsimp only at hF ⊢)
          (repeat (refine IsQ.go (by assumption) ?_; (try dsimp only); (try simp only [reduceCtorEq, E0])))
          refine aw_seqH fun Q hQ => ?_
          refine aw_srH fun K hK => ?_
          (try simp only [go_sem])
          refine IsK.go (by assumption) ?_
          refine aw_joinX hF (fun (_ : Unit) => ⟨[], [], 3⟩) ?_ ?_
          · intro y58 hF hj58 Q hQ
            refine aw_blockH fun Q hQ => ?_
            refine aw_fact 110 rfl (fun _ _ => sl_lim) fun hl51 => ?_; simp only [List.length_map, top] at hl51
            refine aw_forL hF (fun i49 _ => ⟨[(8, .mp 2), (110, .p (.sl (v0.Releases.map T_api_Release.c))), (111, .p (vi (v0.Releases.length : Int))), (112, .p (vi (i49 : Int)))], [(2, .map (m47.map (cM kS pB)))], 3⟩) (Upd.sub (show 3 ≤ 3 by decide) (by simp [go_sem, envSub, Env.get]) (by simp [go_sem, heapSub, Heap.get, belowO])) ?_ ?_
            · rintro ⟨⟩ hy Q hQ
              (try dsimp only at hy ⊢)
              have hlt : decide (((v0.Releases.length : Int) : Int) < (v0.Releases.length : Int)) = false := by simp
              refine aw_srH fun K hK => ?_
              (try simp only [go_sem, hlt])
              refine IsK.go (by assumption) ?_
              refine aw_seqH fun Q hQ => ?_
              refine aw_cond rfl (fun hc => ?_) (fun hc => ?_)
              · cases hc
              refine aw_exit ?_
              (repeat (refine IsQ.go (by assumption) ?_; (try dsimp only); (try simp only [E0])))
              exact ⟨_, hy, (Upd.sub (show 3 ≤ 3 by decide) (by simp [go_sem, envSub]) trivial)⟩
            · rintro i49 x52 ⟨⟩ z58 hi hx hF hb58 hr58 Q hQ
              (try dsimp only at hF ⊢)
              have hlt : decide ((i49 : Int) < (v0.Releases.length : Int)) = true := by simp; omega
              have hw50 : IntKind.i64.wrap ((i49 : Int) + 1) = ((i49 + 1 : Nat) : Int) := by rw [wrap64 (by omega) (by omega)]; simp
              refine aw_srH fun K hK => ?_
              (try simp only [go_sem, hlt])
              refine IsK.go (by assumption) ?_
              refine aw_seqH fun Q hQ => ?_
              refine aw_cond rfl (fun hc => ?_) (fun hc => ?_)
              rotate_left; · cases hc
              refine aw_skip ?_
              (repeat (refine IsQ.go (by assumption) ?_; (try dsimp only); (try simp only [reduceCtorEq, E0])))
              refine aw_seqH fun Q hQ => ?_
              refine aw_blockH fun Q hQ => ?_
              refine aw_srH fun K hK => ?_
              (try simp only [go_sem, hx])
              refine IsK.go (by assumption) ?_
              refine aw_srH fun K hK => ?_
              (try simp only [go_sem])
              refine IsK.go (by assumption) ?_
              refine aw_joinX hF (fun (_ : Unit) => ⟨[(8, .mp 2), (110, .p (.sl (v0.Releases.map T_api_Release.c))), (111, .p (vi (v0.Releases.length : Int))), (112, .p (vi (i49 : Int)))], [(2, .map (m47.map (cM kS pB)))], 4⟩) ?_ ?_
              · intro y63 hF hj63 Q hQ
                refine aw_blockH fun Q hQ => ?_
                refine aw_fact 117 rfl (fun _ _ => sl_lim) fun hl61 => ?_; simp only [List.length_map, top] at hl61
                refine aw_forL hF (fun i59 _ => ⟨[(8, .mp 2), (110, .p (.sl (v0.Releases.map T_api_Release.c))), (111, .p (vi (v0.Releases.length : Int))), (112, .p (vi (i49 : Int))), (117, .p (.sl (x52.Exposures.map T_api_Exposure.c))), (118, .p (vi (x52.Exposures.length : Int))), (119, .p (vi (i59 : Int)))], [(2, .map (m47.map (cM kS pB)))], 4⟩) (Upd.sub (show 4 ≤ 4 by decide) (by simp [go_sem, envSub, Env.get]) (by simp [go_sem, heapSub, Heap.get, belowO])) ?_ ?_
                · rintro ⟨⟩ hy Q hQ
                  (try dsimp only at hy ⊢)
                  have hlt : decide (((x52.Exposures.length : Int) : Int) < (x52.Exposures.length : Int)) = false := by simp
                  refine aw_srH fun K hK => ?_
                  (try simp only [go_sem, hlt])
                  refine IsK.go (by assumption) ?_
                  refine aw_seqH fun Q hQ => ?_
                  refine aw_cond rfl (fun hc => ?_) (fun hc => ?_)
                  · cases hc
                  refine aw_exit ?_
                  (repeat (refine IsQ.go (by assumption) ?_; (try dsimp only); (try simp only [E0])))
                  exact ⟨_, hy, (Upd.sub (show 4 ≤ 4 by decide) (by simp [go_sem, envSub, Env.get]) (by simp [go_sem, heapSub, Heap.get, belowO]))⟩
                · rintro i59 x62 ⟨⟩ z63 hi hx hF hb63 hr63 Q hQ
                  (try dsimp only at hF ⊢)
                  have hlt : decide ((i59 : Int) < (x52.Exposures.length : Int)) = true := by simp; omega
                  have hw60 : IntKind.i64.wrap ((i59 : Int) + 1) = ((i59 + 1 : Nat) : Int) := by rw [wrap64 (by omega) (by omega)]; simp
                  refine aw_srH fun K hK => ?_
                  (try simp only [go_sem, hlt])
                  refine IsK.go (by assumption) ?_
                  refine aw_seqH fun Q hQ => ?_
                  refine aw_cond rfl (fun hc => ?_) (fun hc => ?_)
                  rotate_left; · cases hc
                  refine aw_skip ?_
                  (repeat (refine IsQ.go (by assumption) ?_; (try dsimp only); (try simp only [reduceCtorEq, E0])))
                  refine aw_seqH fun Q hQ => ?_
                  refine aw_blockH fun Q hQ => ?_
                  refine aw_srH fun K hK => ?_
                  (try simp only [go_sem, hx])
                  refine IsK.go (by assumption) ?_
                  refine aw_srH fun K hK => ?_
                  (try simp only [go_sem])
                  refine IsK.go (by assumption) ?_
                  refine aw_cond rfl (fun hc => ?_) (fun hc => ?_)
                  · replace hF := if_t hc hF
                    refine aw_srH fun K hK => ?_
                    (try simp only [go_sem])
                    refine IsK.go (by assumption) ?_
                    refine aw_ret ?_
                    (repeat (refine IsQ.go (by assumption) ?_; (try dsimp only); (try simp only [reduceCtorEq, E0])))
                    cases hF
                    cases (hj63 _ (hr63 _ rfl))
                    cases (hj58 _ (hr58 _ rfl))
                    simp only [go_sem]
                  · replace hF := if_f hc hF
                    refine aw_skip ?_
                    (repeat (refine IsQ.go (by assumption) ?_; (try dsimp only); (try simp only [reduceCtorEq, E0])))
                    refine aw_region ?_
                    (try simp only [go_sem, hw60])
                    (repeat (refine IsQ.go (by assumption) ?_; (try dsimp only); (try simp only [reduceCtorEq, E0])))
                    cases hF
                    exact ⟨_, rfl, (Upd.sub (show 4 ≤ 4 by decide) (by simp [go_sem, envSub, Env.get]) (by simp [go_sem, heapSub, Heap.get, belowO]))⟩
              rintro ⟨⟩ hF
              (try dsimp only at hF ⊢)
              (repeat (refine IsQ.go (by assumption) ?_; (try dsimp only); (try simp only [reduceCtorEq, E0])))
              refine aw_region ?_
              (try simp only [go_sem, hw50])
              (repeat (refine IsQ.go (by assumption) ?_; (try dsimp only); (try simp only [reduceCtorEq, E0])))
              cases hF
              exact ⟨_, rfl, (Upd.sub (show 3 ≤ 3 by decide) (by simp [go_sem, envSub, Env.get]) (by simp [go_sem, heapSub, Heap.get, belowO]))⟩
          rintro ⟨⟩ hF
          (try dsimp only at hF ⊢)
          (repeat (refine IsQ.go (by assumption) ?_; (try dsimp only); (try simp only [reduceCtorEq, E0])))
          refine aw_srH fun K hK => ?_
          (try simp only [go_sem])
          refine IsK.go (by assumption) ?_
          refine aw_ret ?_
          (repeat (refine IsQ.go (by assumption) ?_; (try dsimp only); (try simp only [reduceCtorEq, E0])))
          cases hF
          simp only [go_sem]
theorem ref11_used_ok {v0 : T_api_Story} {v1 : Int} {r0 r1} (hF : ref11_used v0 v1 = some (r0, r1)) : APure Try.prog 87 [.p (.agg [vs v0.Product.b, .sl (v0.Releases.map T_api_Release.c), .sl (v0.Known.map T_api_Published.c), vi v0.Until]), .p (vi v1)] (.tup [.p (.agg [vs r0.Version.b, vi r0.Day, .sl (r0.Exposures.map T_api_Exposure.c)]), .p (vb r1)]) := by
  refine apureZ 2 rc87_ok rfl ?_
  simp only [rc87, argEnv, Nat.reduceAdd]
  unfold ref11_used at hF
  refine aw_srH fun K hK => ?_
  (try simp only [go_sem])
  refine IsK.go (by assumption) ?_
  refine aw_srH fun K hK => ?_
  (try simp only [go_sem])
  refine IsK.go (by assumption) ?_
  refine aw_seqH fun Q hQ => ?_
  refine aw_srH fun K hK => ?_
  (try simp only [go_sem])
  refine IsK.go (by assumption) ?_
  refine aw_upd (Upd.nzCell _ 2 2 (by simp only [go_sem]; rfl) rfl) ?_; simp only [go_sem]
  refine aw_joinX hF (fun ((b9, s10, n11, l12) : Bool × Str × Int × (List T_api_Exposure)) => ⟨[(1, .p (vi v1)), (2, .bp 0 0), (4, .bp 1 0), (6, .bp 2 0), (7, .p (vb b9))], [(2, .cells [.p (vs s10.b), .p (vi n11), .p (.sl (l12.map T_api_Exposure.c))]), (1, .cells [.p (vs str_.b), .p (vi 0), .p (.c (.slice none 0 0))]), (0, .cells [.p (vs v0.Product.b), .p (.sl (v0.Releases.map T_api_Release.c)), .p (.sl (v0.Known.map T_api_Published.c)), .p (vi v0.Until)])], 3⟩) ?_ ?_
  · intro y13 hF hj13 Q hQ
    refine aw_blockH fun Q hQ => ?_
    refine aw_fact 12 rfl (fun _ _ => sl_lim) fun hl3 => ?_; simp only [List.length_map, top] at hl3
    refine aw_forL hF (fun i1 (b5, s6, n7, l8) => ⟨[(1, .p (vi v1)), (2, .bp 0 0), (4, .bp 1 0), (6, .bp 2 0), (7, .p (vb b5)), (12, .p (.sl (v0.Releases.map T_api_Release.c))), (13, .p (vi (v0.Releases.length : Int))), (14, .p (vi (i1 : Int)))], [(2, .cells [.p (vs s6.b), .p (vi n7), .p (.sl (l8.map T_api_Exposure.c))]), (1, .cells [.p (vs str_.b), .p (vi 0), .p (.c (.slice none 0 0))]), (0, .cells [.p (vs v0.Product.b), .p (.sl (v0.Releases.map T_api_Release.c)), .p (.sl (v0.Known.map T_api_Published.c)), .p (vi v0.Until)])], 3⟩) (Upd.sub (show 3 ≤ 3 by decide) (by simp [go_sem, envSub, Env.get]) (by simp [go_sem, heapSub, Heap.get, belowO])) ?_ ?_
    · rintro ⟨b5, s6, n7, l8⟩ hy Q hQ
      (try dsimp only at hy ⊢)
      have hlt : decide (((v0.Releases.length : Int) : Int) < (v0.Releases.length : Int)) = false := by simp
      refine aw_srH fun K hK => ?_
      (try simp only [go_sem, hlt])
      refine IsK.go (by assumption) ?_
      refine aw_seqH fun Q hQ => ?_
      refine aw_cond rfl (fun hc => ?_) (fun hc => ?_)
      · cases hc
      refine aw_exit ?_
      (repeat (refine IsQ.go (by assumption) ?_; (try dsimp only); (try simp only [E0])))
      exact ⟨_, hy, (Upd.sub (show 3 ≤ 3 by decide) (by simp [go_sem, envSub, Env.get]) (by simp [go_sem, heapSub, Heap.get, belowO]))⟩
    · rintro i1 x4 ⟨b5, s6, n7, l8⟩ z13 hi hx hF hb13 hr13 Q hQ
      (try dsimp only at hF ⊢)
      have hlt : decide ((i1 : Int) < (v0.Releases.length : Int)) = true := by simp; omega
      have hw2 : IntKind.i64.wrap ((i1 : Int) + 1) = ((i1 + 1 : Nat) : Int) := by rw [wrap64 (by omega) (by omega)]; simp
      refine aw_srH fun K hK => ?_
      (try simp only [go_sem, hlt])
      refine IsK.go (by assumption) ?_
      refine aw_seqH fun Q hQ => ?_
      refine aw_cond rfl (fun hc => ?_) (fun hc => ?_)
      rotate_left; · cases hc
      refine aw_skip ?_
      (repeat (refine IsQ.go (by assumption) ?_; (try dsimp only); (try simp only [reduceCtorEq, E0])))
      refine aw_seqH fun Q hQ => ?_
      refine aw_blockH fun Q hQ => ?_
      refine aw_srH fun K hK => ?_
      (try simp only [go_sem, hx])
      refine IsK.go (by assumption) ?_
      refine aw_srH fun K hK => ?_
      (try simp only [go_sem])
      refine IsK.go (by assumption) ?_
      refine aw_cond rfl (fun hc => ?_) (fun hc => ?_)
      · replace hF := if_t hc hF
        refine aw_region ?_
        (try simp only [go_sem])
        (repeat (refine IsQ.go (by assumption) ?_; (try dsimp only); (try simp only [reduceCtorEq, E0])))
        refine aw_region ?_
        (try simp only [go_sem, hw2])
        (repeat (refine IsQ.go (by assumption) ?_; (try dsimp only); (try simp only [reduceCtorEq, E0])))
        cases hF
        exact ⟨_, rfl, (Upd.sub (show 3 ≤ 3 by decide) (by simp [go_sem, envSub, Env.get]) (by simp [go_sem, heapSub, Heap.get, belowO]))⟩
      · replace hF := if_f hc hF
        refine aw_skip ?_
        (repeat (refine IsQ.go (by assumption) ?_; (try dsimp only); (try simp only [reduceCtorEq, E0])))
        refine aw_region ?_
        (try simp only [go_sem, hw2])
        (repeat (refine IsQ.go (by assumption) ?_; (try dsimp only); (try simp only [reduceCtorEq, E0])))
        cases hF
        exact ⟨_, rfl, (Upd.sub (show 3 ≤ 3 by decide) (by simp [go_sem, envSub, Env.get]) (by simp [go_sem, heapSub, Heap.get, belowO]))⟩
  rintro ⟨b9, s10, n11, l12⟩ hF
  (try dsimp only at hF ⊢)
  (repeat (refine IsQ.go (by assumption) ?_; (try dsimp only); (try simp only [reduceCtorEq, E0])))
  refine aw_seqH fun Q hQ => ?_
  refine aw_srJ ⟨[(4, .bp 1 0), (6, .bp 2 0), (31, .p (vb ((!b9) || (decide (v1 ≥ v0.Until)))))], [(2, .cells [.p (vs s10.b), .p (vi n11), .p (.sl (l12.map T_api_Exposure.c))]), (1, .cells [.p (vs str_.b), .p (vi 0), .p (.c (.slice none 0 0))])], 3⟩ (fun K hK => ?_) ?_
  · (try simp only [go_sem])
    (try simp only [go_sem])
    refine vOps_split rfl ?_ ?_ <;> intro hg14 <;> (try simp only [hg14, go_sem])
    · (try simp only [go_sem, hg14])
      refine IsK.go (by assumption) ?_
      exact (Upd.sub (show 3 ≤ 3 by decide) (by simp [go_sem, envSub, Env.get, hg14]) (by simp [go_sem, heapSub, Heap.get, belowO]))
    · (try simp only [go_sem, hg14])
      refine IsK.go (by assumption) ?_
      exact (Upd.sub (show 3 ≤ 3 by decide) (by simp [go_sem, envSub, Env.get, hg14]) (by simp [go_sem, heapSub, Heap.get, belowO]))
  refine aw_cond rfl (fun hc => ?_) (fun hc => ?_)
  · replace hF := if_t hc hF
    refine aw_srH fun K hK => ?_
    (try simp only [go_sem])
    refine IsK.go (by assumption) ?_
    refine aw_ret ?_
    (repeat (refine IsQ.go (by assumption) ?_; (try dsimp only); (try simp only [reduceCtorEq, E0])))
    cases hF
    simp only [go_sem]
  · replace hF := if_f hc hF
    refine aw_skip ?_
    (repeat (refine IsQ.go (by assumption) ?_; (try dsimp only); (try simp only [reduceCtorEq, E0])))
    refine aw_srH fun K hK => ?_
    (try simp only [go_sem])
    refine IsK.go (by assumption) ?_
    refine aw_ret ?_
    (repeat (refine IsQ.go (by assumption) ?_; (try dsimp only); (try simp only [reduceCtorEq, E0])))
    cases hF
    simp only [go_sem]
theorem history_checkReleases_ok {v0 : T_api_Story} {r0} (hF : history_checkReleases v0 = some r0) : APure Try.prog 97 [.p (.agg [vs v0.Product.b, .sl (v0.Releases.map T_api_Release.c), .sl (v0.Known.map T_api_Published.c), vi v0.Until])] (.p (vi r0)) := by
  refine apureZ 2 rc97_ok rfl ?_
  simp only [rc97, argEnv]
  unfold history_checkReleases at hF
  refine aw_srH fun K hK => ?_
  (try simp only [go_sem])
  refine IsK.go (by assumption) ?_
  refine aw_srH fun K hK => ?_
  (try simp only [go_sem])
  refine IsK.go (by assumption) ?_
  refine aw_seqH fun Q hQ => ?_
  refine aw_srH fun K hK => ?_
  (try simp only [go_sem])
  refine IsK.go (by assumption) ?_
  refine aw_joinX hF (fun (_ : Unit) => ⟨[], [], 2⟩) ?_ ?_
  · intro y22 hF hj22 Q hQ
    refine aw_blockH fun Q hQ => ?_
    refine aw_fact 9 rfl (fun _ _ => sl_lim) fun hl3 => ?_; simp only [List.length_map, top] at hl3
    refine aw_forL hF (fun i1 m13 => ⟨[(1, .bp 0 0), (3, .mp 1), (9, .p (.sl (v0.Releases.map T_api_Release.c))), (10, .p (vi (v0.Releases.length : Int))), (11, .p (vi (i1 : Int)))], [(1, .map (m13.map (cM kS pB))), (0, .cells [.p (vs v0.Product.b), .p (.sl (v0.Releases.map T_api_Release.c)), .p (.sl (v0.Known.map T_api_Published.c)), .p (vi v0.Until)])], 2⟩) (Upd.sub (show 2 ≤ 2 by decide) (by simp [go_sem, envSub, Env.get]) (by simp [go_sem, heapSub, Heap.get, belowO])) ?_ ?_
    · rintro m13 hy Q hQ
      (try dsimp only at hy ⊢)
      have hlt : decide (((v0.Releases.length : Int) : Int) < (v0.Releases.length : Int)) = false := by simp
      refine aw_srH fun K hK => ?_
      (try simp only [go_sem, hlt])
      refine IsK.go (by assumption) ?_
      refine aw_seqH fun Q hQ => ?_
      refine aw_cond rfl (fun hc => ?_) (fun hc => ?_)
      · cases hc
      refine aw_exit ?_
      (repeat (refine IsQ.go (by assumption) ?_; (try dsimp only); (try simp only [E0])))
      exact ⟨_, hy, (Upd.sub (show 2 ≤ 2 by decide) (by simp [go_sem, envSub]) trivial)⟩
    · rintro i1 x4 m13 z22 hi hx hF hb22 hr22 Q hQ
      (try dsimp only at hF ⊢)
      have hlt : decide ((i1 : Int) < (v0.Releases.length : Int)) = true := by simp; omega
      have hw2 : IntKind.i64.wrap ((i1 : Int) + 1) = ((i1 + 1 : Nat) : Int) := by rw [wrap64 (by omega) (by omega)]; simp
      refine aw_srH fun K hK => ?_
      (try simp only [go_sem, hlt])
      refine IsK.go (by assumption) ?_
      refine aw_seqH fun Q hQ => ?_
      refine aw_cond rfl (fun hc => ?_) (fun hc => ?_)
      rotate_left; · cases hc
      refine aw_skip ?_
      (repeat (refine IsQ.go (by assumption) ?_; (try dsimp only); (try simp only [reduceCtorEq, E0])))
      refine aw_seqH fun Q hQ => ?_
      refine aw_blockH fun Q hQ => ?_
      refine aw_srH fun K hK => ?_
      (try simp only [go_sem, hx])
      refine IsK.go (by assumption) ?_
      refine aw_seqH fun Q hQ => ?_
      refine aw_blockH fun Q hQ => ?_
      obtain ⟨y23, h24, hF⟩ := bind_some hF
      refine aw_srH fun K hK => ?_
      (try simp only [go_sem])
      refine call_pure (history_isName_ok h24) rfl (by simp only [go_sem]) (by simp only [go_sem]) ?_
      (try dsimp only); (try simp only [go_sem])
      refine IsK.go (by assumption) ?_
      refine aw_cond rfl (fun hc => ?_) (fun hc => ?_)
      · replace hF := if_t hc hF
        refine aw_srH fun K hK => ?_
        (try simp only [go_sem])
        refine IsK.go (by assumption) ?_
        refine aw_ret ?_
        (repeat (refine IsQ.go (by assumption) ?_; (try dsimp only); (try simp only [reduceCtorEq, E0])))
        cases hF
        cases (hj22 _ (hr22 _ rfl))
        simp only [go_sem]
      · replace hF := if_f hc hF
        refine aw_srH fun K hK => ?_
        (try simp only [go_sem])
        refine IsK.go (by assumption) ?_
        refine aw_cond rfl (fun hc => ?_) (fun hc => ?_)
        · replace hF := if_t hc hF
          refine aw_srH fun K hK => ?_
          (try simp only [go_sem])
          refine IsK.go (by assumption) ?_
          refine aw_ret ?_
          (repeat (refine IsQ.go (by assumption) ?_; (try dsimp only); (try simp only [reduceCtorEq, E0])))
          cases hF
          cases (hj22 _ (hr22 _ rfl))
          simp only [go_sem]
        · replace hF := if_f hc hF
          refine aw_srJ ⟨[(1, .bp 0 0), (3, .mp 1), (4, .p (vi (i1 : Int))), (5, .bp 2 0), (9, .p (.sl (v0.Releases.map T_api_Release.c))), (10, .p (vi (v0.Releases.length : Int))), (11, .p (vi (i1 : Int))), (26, .p (vb ((decide (x4.Day < 0)) || (decide (x4.Day > v0.Until)))))], [(2, .cells [.p (vs x4.Version.b), .p (vi x4.Day), .p (.sl (x4.Exposures.map T_api_Exposure.c))]), (1, .map (m13.map (cM kS pB))), (0, .cells [.p (vs v0.Product.b), .p (.sl (v0.Releases.map T_api_Release.c)), .p (.sl (v0.Known.map T_api_Published.c)), .p (vi v0.Until)])], 3⟩ (fun K hK => ?_) ?_
          · (try simp only [go_sem])
            (try simp only [go_sem])
            refine vOps_split rfl ?_ ?_ <;> intro hg25 <;> (try simp only [hg25, go_sem])
            · (try simp only [go_sem, hg25])
              refine IsK.go (by assumption) ?_
              exact (Upd.sub (show 3 ≤ 3 by decide) (by simp [go_sem, envSub, Env.get, hg25]) (by simp [go_sem, heapSub, Heap.get, belowO]))
            · (try simp only [go_sem, hg25])
              refine IsK.go (by assumption) ?_
              exact (Upd.sub (show 3 ≤ 3 by decide) (by simp [go_sem, envSub, Env.get, hg25]) (by simp [go_sem, heapSub, Heap.get, belowO]))
          refine aw_cond rfl (fun hc => ?_) (fun hc => ?_)
          · replace hF := if_t hc hF
            refine aw_srH fun K hK => ?_
            (try simp only [go_sem])
            refine IsK.go (by assumption) ?_
            refine aw_ret ?_
            (repeat (refine IsQ.go (by assumption) ?_; (try dsimp only); (try simp only [reduceCtorEq, E0])))
            cases hF
            cases (hj22 _ (hr22 _ rfl))
            simp only [go_sem]
          · replace hF := if_f hc hF
            obtain ⟨b28, h29, hF⟩ := bind_some hF
            refine aw_sdJ ⟨[(1, .bp 0 0), (3, .mp 1), (5, .bp 2 0), (9, .p (.sl (v0.Releases.map T_api_Release.c))), (10, .p (vi (v0.Releases.length : Int))), (11, .p (vi (i1 : Int))), (37, .p (vb b28))], [(2, .cells [.p (vs x4.Version.b), .p (vi x4.Day), .p (.sl (x4.Exposures.map T_api_Exposure.c))]), (1, .map (m13.map (cM kS pB))), (0, .cells [.p (vs v0.Product.b), .p (.sl (v0.Releases.map T_api_Release.c)), .p (.sl (v0.Known.map T_api_Published.c)), .p (vi v0.Until)])], 3⟩ (fun K hK => ?_) ?_
            · (try simp only [go_sem])
              (try simp only [go_sem])
              refine vD_split rfl ?_ ?_ <;> intro hg30 <;> (try simp only [hg30, go_sem])
              · simp only [hg30, gbS] at h29
                obtain ⟨x31, h32, h29⟩ := bind_some h29
                replace h32 := idx_map T_api_Release.c h32; (try simp only [go_sem] at h32)
                cases h29
                (try simp only [go_sem, h32])
                refine IsK.go (by assumption) ?_
                exact (Upd.sub (show 3 ≤ 3 by decide) (by simp [go_sem, envSub, Env.get]) (by simp [go_sem, heapSub, Heap.get, belowO]))
              · simp only [hg30, gbS] at h29
                cases h29
                (try simp only [go_sem, hg30])
                refine IsK.go (by assumption) ?_
                exact (Upd.sub (show 3 ≤ 3 by decide) (by simp [go_sem, envSub, Env.get]) (by simp [go_sem, heapSub, Heap.get, belowO]))
            refine aw_cond rfl (fun hc => ?_) (fun hc => ?_)
            · replace hF := if_t hc hF
              refine aw_srH fun K hK => ?_
              (try simp only [go_sem])
              refine IsK.go (by assumption) ?_
              refine aw_ret ?_
              (repeat (refine IsQ.go (by assumption) ?_; (try dsimp only); (try simp only [reduceCtorEq, E0])))
              cases hF
              cases (hj22 _ (hr22 _ rfl))
              simp only [go_sem]
            · replace hF := if_f hc hF
              refine aw_skip ?_
              (repeat (refine IsQ.go (by assumption) ?_; (try dsimp only); (try simp only [reduceCtorEq, E0])))
              refine aw_srH fun K hK => ?_
              (try simp only [go_sem])
              refine IsK.go (by assumption) ?_
              obtain ⟨y33, h34, hF⟩ := bind_some hF
              refine aw_srH fun K hK => ?_
              (try simp only [go_sem])
              refine call_pure (history_checkExposures_ok h34) rfl (by simp only [go_sem]) (by simp only [go_sem]) ?_
              (try dsimp only); (try simp only [go_sem])
              refine IsK.go (by assumption) ?_
              refine aw_srH fun K hK => ?_
              (try simp only [go_sem])
              refine IsK.go (by assumption) ?_
              refine aw_cond rfl (fun hc => ?_) (fun hc => ?_)
              · replace hF := if_t hc hF
                refine aw_srH fun K hK => ?_
                (try simp only [go_sem])
                refine IsK.go (by assumption) ?_
                refine aw_ret ?_
                (repeat (refine IsQ.go (by assumption) ?_; (try dsimp only); (try simp only [reduceCtorEq, E0])))
                cases hF
                cases (hj22 _ (hr22 _ rfl))
                simp only [go_sem]
              · replace hF := if_f hc hF
                refine aw_skip ?_
                (repeat (refine IsQ.go (by assumption) ?_; (try dsimp only); (try simp only [reduceCtorEq, E0])))
                refine aw_region ?_
                (try simp only [go_sem, hw2])
                (repeat (refine IsQ.go (by assumption) ?_; (try dsimp only); (try simp only [reduceCtorEq, E0])))
                cases hF
                exact ⟨_, rfl, (Upd.sub (show 2 ≤ 2 by decide) (by simp [go_sem, envSub, Env.get]) (by simp [go_sem, heapSub, Heap.get, belowO]))⟩
  rintro ⟨⟩ hF
  (try dsimp only at hF ⊢)
  (repeat (refine IsQ.go (by assumption) ?_; (try dsimp only); (try simp only [reduceCtorEq, E0])))
  refine aw_srH fun K hK => ?_
  (try simp only [go_sem])
  refine IsK.go (by assumption) ?_
  refine aw_ret ?_
  (repeat (refine IsQ.go (by assumption) ?_; (try dsimp only); (try simp only [reduceCtorEq, E0])))
  cases hF
  simp only [go_sem]
theorem history_Check_ok {v0 : T_api_Story} {r0} (hF : history_Check v0 = some r0) : APure Try.prog 36 [.p (.agg [vs v0.Product.b, .sl (v0.Releases.map T_api_Release.c), .sl (v0.Known.map T_api_Published.c), vi v0.Until])] (.p (vi r0)) := by
  refine apureZ 2 rc36_ok rfl ?_
  simp only [rc36, argEnv]
  unfold history_Check at hF
  refine aw_srH fun K hK => ?_
  (try simp only [go_sem])
  refine IsK.go (by assumption) ?_
  refine aw_seqH fun Q hQ => ?_
  refine aw_blockH fun Q hQ => ?_
  obtain ⟨y1, h2, hF⟩ := bind_some hF
  refine aw_srH fun K hK => ?_
  (try simp only [go_sem])
  refine call_pure (history_isName_ok h2) rfl (by simp only [go_sem]) (by simp only [go_sem]) ?_
  (try dsimp only); (try simp only [go_sem])
  refine IsK.go (by assumption) ?_
  refine aw_cond rfl (fun hc => ?_) (fun hc => ?_)
  · replace hF := if_t hc hF
    refine aw_srH fun K hK => ?_
    (try simp only [go_sem])
    refine IsK.go (by assumption) ?_
    refine aw_ret ?_
    (repeat (refine IsQ.go (by assumption) ?_; (try dsimp only); (try simp only [reduceCtorEq, E0])))
    cases hF
    simp only [go_sem]
  · replace hF := if_f hc hF
    obtain ⟨y3, h4, hF⟩ := bind_some hF
    refine aw_srH fun K hK => ?_
    (try simp only [go_sem])
    refine call_pure (history_isDay_ok h4) rfl (by simp only [go_sem]) (by simp only [go_sem]) ?_
    (try dsimp only); (try simp only [go_sem])
    refine IsK.go (by assumption) ?_
    refine aw_cond rfl (fun hc => ?_) (fun hc => ?_)
    · replace hF := if_t hc hF
      refine aw_srH fun K hK => ?_
      (try simp only [go_sem])
      refine IsK.go (by assumption) ?_
      refine aw_ret ?_
      (repeat (refine IsQ.go (by assumption) ?_; (try dsimp only); (try simp only [reduceCtorEq, E0])))
      cases hF
      simp only [go_sem]
    · replace hF := if_f hc hF
      refine aw_srJ ⟨[(1, .bp 0 0), (21, .p (vb ((decide ((v0.Releases.length : Int) > 500)) || (decide ((v0.Known.length : Int) > 2000)))))], [(0, .cells [.p (vs v0.Product.b), .p (.sl (v0.Releases.map T_api_Release.c)), .p (.sl (v0.Known.map T_api_Published.c)), .p (vi v0.Until)])], 1⟩ (fun K hK => ?_) ?_
      · (try simp only [go_sem])
        (try simp only [go_sem])
        refine vOps_split rfl ?_ ?_ <;> intro hg5 <;> (try simp only [hg5, go_sem])
        · (try simp only [go_sem, hg5])
          refine IsK.go (by assumption) ?_
          exact (Upd.sub (show 1 ≤ 1 by decide) (by simp [go_sem, envSub, Env.get, hg5]) (by simp [go_sem, heapSub, Heap.get, belowO]))
        · (try simp only [go_sem, hg5])
          refine IsK.go (by assumption) ?_
          exact (Upd.sub (show 1 ≤ 1 by decide) (by simp [go_sem, envSub, Env.get, hg5]) (by simp [go_sem, heapSub, Heap.get, belowO]))
      refine aw_cond rfl (fun hc => ?_) (fun hc => ?_)
      · replace hF := if_t hc hF
        refine aw_srH fun K hK => ?_
        (try simp only [go_sem])
        refine IsK.go (by assumption) ?_
        refine aw_ret ?_
        (repeat (refine IsQ.go (by assumption) ?_; (try dsimp only); (try simp only [reduceCtorEq, E0])))
        cases hF
        simp only [go_sem]
      · replace hF := if_f hc hF
        refine aw_skip ?_
        (repeat (refine IsQ.go (by assumption) ?_; (try dsimp only); (try simp only [reduceCtorEq, E0])))
        refine aw_seqH fun Q hQ => ?_
        obtain ⟨y6, h7, hF⟩ := bind_some hF
        refine aw_srH fun K hK => ?_
        (try simp only [go_sem])
        refine call_pure (history_checkReleases_ok h7) rfl (by simp only [go_sem]) (by simp only [go_sem]) ?_
        (try dsimp only); (try simp only [go_sem])
        refine IsK.go (by assumption) ?_
        refine aw_srH fun K hK => ?_
        (try simp only [go_sem])
        refine IsK.go (by assumption) ?_
        refine aw_cond rfl (fun hc => ?_) (fun hc => ?_)
        · replace hF := if_t hc hF
          refine aw_srH fun K hK => ?_
          (try simp only [go_sem])
          refine IsK.go (by assumption) ?_
          refine aw_ret ?_
          (repeat (refine IsQ.go (by assumption) ?_; (try dsimp only); (try simp only [reduceCtorEq, E0])))
          cases hF
          simp only [go_sem]
        · replace hF := if_f hc hF
          refine aw_skip ?_
          (repeat (refine IsQ.go (by assumption) ?_; (try dsimp only); (try simp only [reduceCtorEq, E0])))
          refine aw_srH fun K hK => ?_
          (try simp only [go_sem])
          refine IsK.go (by assumption) ?_
          refine aw_seqH fun Q hQ => ?_
          refine aw_srH fun K hK => ?_
          (try simp only [go_sem])
          refine IsK.go (by assumption) ?_
          refine aw_joinX hF (fun (m29 : (List (Str × Bool))) => ⟨[(1, .bp 0 0), (4, .mp 1)], [(1, .map (m29.map (cM kS pB))), (0, .cells [.p (vs v0.Product.b), .p (.sl (v0.Releases.map T_api_Release.c)), .p (.sl (v0.Known.map T_api_Published.c)), .p (vi v0.Until)])], 2⟩) ?_ ?_
          · intro y30 hF hj30 Q hQ
            refine aw_blockH fun Q hQ => ?_
            refine aw_fact 39 rfl (fun _ _ => sl_lim) fun hl10 => ?_; simp only [List.length_map, top] at hl10
            refine aw_forL hF (fun i8 m20 => ⟨[(1, .bp 0 0), (4, .mp 1), (39, .p (.sl (v0.Known.map T_api_Published.c))), (40, .p (vi (v0.Known.length : Int))), (41, .p (vi (i8 : Int)))], [(1, .map (m20.map (cM kS pB))), (0, .cells [.p (vs v0.Product.b), .p (.sl (v0.Releases.map T_api_Release.c)), .p (.sl (v0.Known.map T_api_Published.c)), .p (vi v0.Until)])], 2⟩) (Upd.sub (show 2 ≤ 2 by decide) (by simp [go_sem, envSub, Env.get]) (by simp [go_sem, heapSub, Heap.get, belowO])) ?_ ?_
            · rintro m20 hy Q hQ
              (try dsimp only at hy ⊢)
              have hlt : decide (((v0.Known.length : Int) : Int) < (v0.Known.length : Int)) = false := by simp
              refine aw_srH fun K hK => ?_
              (try simp only [go_sem, hlt])
              refine IsK.go (by assumption) ?_
              refine aw_seqH fun Q hQ => ?_
              refine aw_cond rfl (fun hc => ?_) (fun hc => ?_)
              · cases hc
              refine aw_exit ?_
              (repeat (refine IsQ.go (by assumption) ?_; (try dsimp only); (try simp only [E0])))
              exact ⟨_, hy, (Upd.sub (show 2 ≤ 2 by decide) (by simp [go_sem, envSub, Env.get]) (by simp [go_sem, heapSub, Heap.get, belowO]))⟩
            · rintro i8 x11 m20 z30 hi hx hF hb30 hr30 Q hQ
              (try dsimp only at hF ⊢)
              have hlt : decide ((i8 : Int) < (v0.Known.length : Int)) = true := by simp; omega
              have hw9 : IntKind.i64.wrap ((i8 : Int) + 1) = ((i8 + 1 : Nat) : Int) := by rw [wrap64 (by omega) (by omega)]; simp
              refine aw_srH fun K hK => ?_
              (try simp only [go_sem, hlt])
              refine IsK.go (by assumption) ?_
              refine aw_seqH fun Q hQ => ?_
              refine aw_cond rfl (fun hc => ?_) (fun hc => ?_)
              rotate_left; · cases hc
              refine aw_skip ?_
              (repeat (refine IsQ.go (by assumption) ?_; (try dsimp only); (try simp only [reduceCtorEq, E0])))
              refine aw_seqH fun Q hQ => ?_
              refine aw_blockH fun Q hQ => ?_
              refine aw_srH fun K hK => ?_
              (try simp only [go_sem, hx])
              refine IsK.go (by assumption) ?_
              refine aw_seqH fun Q hQ => ?_
              refine aw_blockH fun Q hQ => ?_
              obtain ⟨y31, h32, hF⟩ := bind_some hF
              refine aw_srH fun K hK => ?_
              (try simp only [go_sem])
              refine call_pure (history_isName_ok h32) rfl (by simp only [go_sem]) (by simp only [go_sem]) ?_
              (try dsimp only); (try simp only [go_sem])
              refine IsK.go (by assumption) ?_
              refine aw_cond rfl (fun hc => ?_) (fun hc => ?_)
              · replace hF := if_t hc hF
                refine aw_srH fun K hK => ?_
                (try simp only [go_sem])
                refine IsK.go (by assumption) ?_
                refine aw_ret ?_
                (repeat (refine IsQ.go (by assumption) ?_; (try dsimp only); (try simp only [reduceCtorEq, E0])))
                cases hF
                cases (hj30 _ (hr30 _ rfl))
                simp only [go_sem]
              · replace hF := if_f hc hF
                obtain ⟨b35, h36, hF⟩ := bind_some hF
                refine aw_sdJ ⟨[(1, .bp 0 0), (4, .mp 1), (6, .bp 2 0), (39, .p (.sl (v0.Known.map T_api_Published.c))), (40, .p (vi (v0.Known.length : Int))), (41, .p (vi (i8 : Int))), (51, .p (vb b35))], [(2, .cells [.p (vs x11.Advisory.b), .p (vi x11.Day), .p (vi x11.Ended)]), (1, .map (m20.map (cM kS pB))), (0, .cells [.p (vs v0.Product.b), .p (.sl (v0.Releases.map T_api_Release.c)), .p (.sl (v0.Known.map T_api_Published.c)), .p (vi v0.Until)])], 3⟩ (fun K hK => ?_) ?_
                · (try simp only [go_sem])
                  (try simp only [go_sem])
                  refine vD_split rfl ?_ ?_ <;> intro hg37 <;> (try simp only [hg37, go_sem])
                  · simp only [hg37, gbS] at h36
                    obtain ⟨x38, h39, h36⟩ := bind_some h36
                    replace h39 := idx_map T_api_Published.c h39; (try simp only [go_sem] at h39)
                    cases h36
                    (try simp only [go_sem, h39])
                    refine IsK.go (by assumption) ?_
                    exact (Upd.sub (show 3 ≤ 3 by decide) (by simp [go_sem, envSub, Env.get]) (by simp [go_sem, heapSub, Heap.get, belowO]))
                  · simp only [hg37, gbS] at h36
                    cases h36
                    (try simp only [go_sem, hg37])
                    refine IsK.go (by assumption) ?_
                    exact (Upd.sub (show 3 ≤ 3 by decide) (by simp [go_sem, envSub, Env.get]) (by simp [go_sem, heapSub, Heap.get, belowO]))
                refine aw_cond rfl (fun hc => ?_) (fun hc => ?_)
                · replace hF := if_t hc hF
                  refine aw_srH fun K hK => ?_
                  (try simp only [go_sem])
                  refine IsK.go (by assumption) ?_
                  refine aw_ret ?_
                  (repeat (refine IsQ.go (by assumption) ?_; (try dsimp only); (try simp only [reduceCtorEq, E0])))
                  cases hF
                  cases (hj30 _ (hr30 _ rfl))
                  simp only [go_sem]
                · replace hF := if_f hc hF
                  obtain ⟨y40, h41, hF⟩ := bind_some hF
                  refine aw_srJ ⟨[(1, .bp 0 0), (4, .mp 1), (6, .bp 2 0), (39, .p (.sl (v0.Known.map T_api_Published.c))), (40, .p (vi (v0.Known.length : Int))), (41, .p (vi (i8 : Int))), (66, .p (vb ((!y40) || ((x11.Ended != (-1)) && ((decide (x11.Ended < x11.Day)) || (decide (x11.Ended > 1000000)))))))], [(2, .cells [.p (vs x11.Advisory.b), .p (vi x11.Day), .p (vi x11.Ended)]), (1, .map (m20.map (cM kS pB))), (0, .cells [.p (vs v0.Product.b), .p (.sl (v0.Releases.map T_api_Release.c)), .p (.sl (v0.Known.map T_api_Published.c)), .p (vi v0.Until)])], 3⟩ (fun K hK => ?_) ?_
                  · (try simp only [go_sem])
                    (try simp only [go_sem])
                    refine call_pure (history_isDay_ok h41) rfl (by simp only [go_sem]) (by simp only [go_sem]) ?_
                    (try dsimp only); (try simp only [go_sem])
                    (try simp only [go_sem])
                    refine vOps_split rfl ?_ ?_ <;> intro hg42 <;> (try simp only [hg42, go_sem])
                    · (try simp only [go_sem, hg42])
                      refine IsK.go (by assumption) ?_
                      exact (Upd.sub (show 3 ≤ 3 by decide) (by simp [go_sem, envSub, Env.get, hg42]) (by simp [go_sem, heapSub, Heap.get, belowO]))
                    · (try simp only [go_sem, hg42])
                      refine vOps_split rfl ?_ ?_ <;> intro hg43 <;> (try simp only [hg43, go_sem])
                      · (try simp only [go_sem, hg42, hg43])
                        refine vOps_split rfl ?_ ?_ <;> intro hg44 <;> (try simp only [hg44, go_sem])
                        · (try simp only [go_sem, hg42, hg43, hg44])
                          refine IsK.go (by assumption) ?_
                          exact (Upd.sub (show 3 ≤ 3 by decide) (by simp [go_sem, envSub, Env.get, hg42, hg43, hg44]) (by simp [go_sem, heapSub, Heap.get, belowO]))
                        · (try simp only [go_sem, hg42, hg43, hg44])
                          refine IsK.go (by assumption) ?_
                          exact (Upd.sub (show 3 ≤ 3 by decide) (by simp [go_sem, envSub, Env.get, hg42, hg43, hg44]) (by simp [go_sem, heapSub, Heap.get, belowO]))
                      · (try simp only [go_sem, hg42, hg43])
                        refine IsK.go (by assumption) ?_
                        exact (Upd.sub (show 3 ≤ 3 by decide) (by simp [go_sem, envSub, Env.get, hg42, hg43]) (by simp [go_sem, heapSub, Heap.get, belowO]))
                  refine aw_cond rfl (fun hc => ?_) (fun hc => ?_)
                  · replace hF := if_t hc hF
                    refine aw_srH fun K hK => ?_
                    (try simp only [go_sem])
                    refine IsK.go (by assumption) ?_
                    refine aw_ret ?_
                    (repeat (refine IsQ.go (by assumption) ?_; (try dsimp only); (try simp only [reduceCtorEq, E0])))
                    cases hF
                    cases (hj30 _ (hr30 _ rfl))
                    simp only [go_sem]
                  · replace hF := if_f hc hF
                    refine aw_skip ?_
                    (repeat (refine IsQ.go (by assumption) ?_; (try dsimp only); (try simp only [reduceCtorEq, E0])))
                    refine aw_region ?_
                    (try simp only [go_sem])
                    (repeat (refine IsQ.go (by assumption) ?_; (try dsimp only); (try simp only [reduceCtorEq, E0])))
                    refine aw_region ?_
                    (try simp only [go_sem, hw9])
                    (repeat (refine IsQ.go (by assumption) ?_; (try dsimp only); (try simp only [reduceCtorEq, E0])))
                    cases hF
                    exact ⟨_, rfl, (Upd.sub (show 2 ≤ 2 by decide) (by simp [go_sem, envSub, Env.get]) (by simp [go_sem, heapSub, Heap.get, belowO]))⟩
          rintro m29 hF
          (try dsimp only at hF ⊢)
          (repeat (refine IsQ.go (by assumption) ?_; (try dsimp only); (try simp only [reduceCtorEq, E0])))
          refine aw_seqH fun Q hQ => ?_
          refine aw_srH fun K hK => ?_
          (try simp only [go_sem])
          refine IsK.go (by assumption) ?_
          refine aw_joinX hF (fun (_ : Unit) => ⟨[], [], 2⟩) ?_ ?_
          · intro y54 hF hj54 Q hQ
            refine aw_blockH fun Q hQ => ?_
            refine aw_fact 93 rfl (fun _ _ => sl_lim) fun hl47 => ?_; simp only [List.length_map, top] at hl47
            refine aw_forL hF (fun i45 _ => ⟨[(4, .mp 1), (93, .p (.sl (v0.Releases.map T_api_Release.c))), (94, .p (vi (v0.Releases.length : Int))), (95, .p (vi (i45 : Int)))], [(1, .map (m29.map (cM kS pB)))], 2⟩) (Upd.sub (show 2 ≤ 2 by decide) (by simp [go_sem, envSub, Env.get]) (by simp [go_sem, heapSub, Heap.get, belowO])) ?_ ?_
            · rintro ⟨⟩ hy Q hQ
              (try dsimp only at hy ⊢)
              have hlt : decide (((v0.Releases.length : Int) : Int) < (v0.Releases.length : Int)) = false := by simp
              refine aw_srH fun K hK => ?_
              (try simp only [go_sem, hlt])
              refine IsK.go (by assumption) ?_
              refine aw_seqH fun Q hQ => ?_
              refine aw_cond rfl (fun hc => ?_) (fun hc => ?_)
              · cases hc
              refine aw_exit ?_
              (repeat (refine IsQ.go (by assumption) ?_; (try dsimp only); (try simp only [E0])))
              exact ⟨_, hy, (Upd.sub (show 2 ≤ 2 by decide) (by simp [go_sem, envSub]) trivial)⟩
            · rintro i45 x48 ⟨⟩ z54 hi hx hF hb54 hr54 Q hQ
              (try dsimp only at hF ⊢)
              have hlt : decide ((i45 : Int) < (v0.Releases.length : Int)) = true := by simp; omega
              have hw46 : IntKind.i64.wrap ((i45 : Int) + 1) = ((i45 + 1 : Nat) : Int) := by rw [wrap64 (by omega) (by omega)]; simp
              refine aw_srH fun K hK => ?_
              (try simp only [go_sem, hlt])
              refine IsK.go (by assumption) ?_
              refine aw_seqH fun Q hQ => ?_
              refine aw_cond rfl (fun hc => ?_) (fun hc => ?_)
              rotate_left; · cases hc
              refine aw_skip ?_
              (repeat (refine IsQ.go (by assumption) ?_; (try dsimp only); (try simp only [reduceCtorEq, E0])))
              refine aw_seqH fun Q hQ => ?_
              refine aw_blockH fun Q hQ => ?_
              refine aw_srH fun K hK => ?_
              (try simp only [go_sem, hx])
              refine IsK.go (by assumption) ?_
              refine aw_srH fun K hK => ?_
              (try simp only [go_sem])
              refine IsK.go (by assumption) ?_
              refine aw_joinX hF (fun (_ : Unit) => ⟨[(4, .mp 1), (93, .p (.sl (v0.Releases.map T_api_Release.c))), (94, .p (vi (v0.Releases.length : Int))), (95, .p (vi (i45 : Int)))], [(1, .map (m29.map (cM kS pB)))], 3⟩) ?_ ?_
              · intro y59 hF hj59 Q hQ
                refine aw_blockH fun Q hQ => ?_
                refine aw_fact 100 rfl (fun _ _ => sl_lim) fun hl57 => ?_; simp only [List.length_map, top] at hl57
                refine aw_forL hF (fun i55 _ => ⟨[(4, .mp 1), (93, .p (.sl (v0.Releases.map T_api_Release.c))), (94, .p (vi (v0.Releases.length : Int))), (95, .p (vi (i45 : Int))), (100, .p (.sl (x48.Exposures.map T_api_Exposure.c))), (101, .p (vi (x48.Exposures.length : Int))), (102, .p (vi (i55 : Int)))], [(1, .map (m29.map (cM kS pB)))], 3⟩) (Upd.sub (show 3 ≤ 3 by decide) (by simp [go_sem, envSub, Env.get]) (by simp [go_sem, heapSub, Heap.get, belowO])) ?_ ?_
                · rintro ⟨⟩ hy Q hQ
                  (try dsimp only at hy ⊢)
                  have hlt : decide (((x48.Exposures.length : Int) : Int) < (x48.Exposures.length : Int)) = false := by simp
                  refine aw_srH fun K hK => ?_
                  (try simp only [go_sem, hlt])
                  refine IsK.go (by assumption) ?_
                  refine aw_seqH fun Q hQ => ?_
                  refine aw_cond rfl (fun hc => ?_) (fun hc => ?_)
                  · cases hc
                  refine aw_exit ?_
                  (repeat (refine IsQ.go (by assumption) ?_; (try dsimp only); (try simp only [E0])))
                  exact ⟨_, hy, (Upd.sub (show 3 ≤ 3 by decide) (by simp [go_sem, envSub, Env.get]) (by simp [go_sem, heapSub, Heap.get, belowO]))⟩
                · rintro i55 x58 ⟨⟩ z59 hi hx hF hb59 hr59 Q hQ
                  (try dsimp only at hF ⊢)
                  have hlt : decide ((i55 : Int) < (x48.Exposures.length : Int)) = true := by simp; omega
                  have hw56 : IntKind.i64.wrap ((i55 : Int) + 1) = ((i55 + 1 : Nat) : Int) := by rw [wrap64 (by omega) (by omega)]; simp
                  refine aw_srH fun K hK => ?_
                  (try simp only [go_sem, hlt])
                  refine IsK.go (by assumption) ?_
                  refine aw_seqH fun Q hQ => ?_
                  refine aw_cond rfl (fun hc => ?_) (fun hc => ?_)
                  rotate_left; · cases hc
                  refine aw_skip ?_
                  (repeat (refine IsQ.go (by assumption) ?_; (try dsimp only); (try simp only [reduceCtorEq, E0])))
                  refine aw_seqH fun Q hQ => ?_
                  refine aw_blockH fun Q hQ => ?_
                  refine aw_srH fun K hK => ?_
                  (try simp only [go_sem, hx])
                  refine IsK.go (by assumption) ?_
                  refine aw_srH fun K hK => ?_
                  (try simp only [go_sem])
                  refine IsK.go (by assumption) ?_
                  refine aw_cond rfl (fun hc => ?_) (fun hc => ?_)
                  · replace hF := if_t hc hF
                    refine aw_srH fun K hK => ?_
                    (try simp only [go_sem])
                    refine IsK.go (by assumption) ?_
                    refine aw_ret ?_
                    (repeat (refine IsQ.go (by assumption) ?_; (try dsimp only); (try simp only [reduceCtorEq, E0])))
                    cases hF
                    cases (hj59 _ (hr59 _ rfl))
                    cases (hj54 _ (hr54 _ rfl))
                    simp only [go_sem]
                  · replace hF := if_f hc hF
                    refine aw_skip ?_
                    (repeat (refine IsQ.go (by assumption) ?_; (try dsimp only); (try simp only [reduceCtorEq, E0])))
                    refine aw_region ?_
                    (try simp only [go_sem, hw56])
                    (repeat (refine IsQ.go (by assumption) ?_; (try dsimp only); (try simp only [reduceCtorEq, E0])))
                    cases hF
                    exact ⟨_, rfl, (Upd.sub (show 3 ≤ 3 by decide) (by simp [go_sem, envSub, Env.get]) (by simp [go_sem, heapSub, Heap.get, belowO]))⟩
              rintro ⟨⟩ hF
              (try dsimp only at hF ⊢)
              (repeat (refine IsQ.go (by assumption) ?_; (try dsimp only); (try simp only [reduceCtorEq, E0])))
              refine aw_region ?_
              (try simp only [go_sem, hw46])
              (repeat (refine IsQ.go (by assumption) ?_; (try dsimp only); (try simp only [reduceCtorEq, E0])))
              cases hF
              exact ⟨_, rfl, (Upd.sub (show 2 ≤ 2 by decide) (by simp [go_sem, envSub, Env.get]) (by simp [go_sem, heapSub, Heap.get, belowO]))⟩
          rintro ⟨⟩ hF
          (try dsimp only at hF ⊢)
          (repeat (refine IsQ.go (by assumption) ?_; (try dsimp only); (try simp only [reduceCtorEq, E0])))
          refine aw_srH fun K hK => ?_
          (try simp only [go_sem])
          refine IsK.go (by assumption) ?_
          refine aw_ret ?_
          (repeat (refine IsQ.go (by assumption) ?_; (try dsimp only); (try simp only [reduceCtorEq, E0])))
          cases hF
          simp only [go_sem]
theorem ref11_viewOf_ok {v0 : T_api_Story} {r0} (hF : ref11_viewOf v0 = some r0) : APure Try.prog 90 [.p (.agg [vs v0.Product.b, .sl (v0.Releases.map T_api_Release.c), .sl (v0.Known.map T_api_Published.c), vi v0.Until])] (.p (.agg [vs r0.s.Product.b, .sl (r0.s.Releases.map T_api_Release.c), .sl (r0.s.Known.map T_api_Published.c), vi r0.s.Until, .mp (r0.known.map (cM kS (pA T_api_Published.c)))])) := by
  refine apureZ 2 rc90_ok rfl ?_
  simp only [rc90, argEnv]
  unfold ref11_viewOf at hF
  refine aw_srH fun K hK => ?_
  (try simp only [go_sem])
  refine IsK.go (by assumption) ?_
  refine aw_srH fun K hK => ?_
  (try simp only [go_sem])
  refine IsK.go (by assumption) ?_
  refine aw_seqH fun Q hQ => ?_
  refine aw_srH fun K hK => ?_
  (try simp only [go_sem])
  refine IsK.go (by assumption) ?_
  refine aw_joinX hF (fun (m6 : (List (Str × T_api_Published))) => ⟨[(2, .bp 1 0), (3, .bp 3 0)], [(3, .cells [.p (vs v0.Product.b), .p (.sl (v0.Releases.map T_api_Release.c)), .p (.sl (v0.Known.map T_api_Published.c)), .p (vi v0.Until), .mp 2]), (2, .map (m6.map (cM kS (pA T_api_Published.c)))), (1, .cells [.p (vs str_.b), .p (.c (.slice none 0 0)), .p (.c (.slice none 0 0)), .p (vi 0), .p (.c (.map none))])], 4⟩) ?_ ?_
  · intro y7 hF hj7 Q hQ
    refine aw_blockH fun Q hQ => ?_
    refine aw_fact 10 rfl (fun _ _ => sl_lim) fun hl3 => ?_; simp only [List.length_map, top] at hl3
    refine aw_forL hF (fun i1 m5 => ⟨[(2, .bp 1 0), (3, .bp 3 0), (10, .p (.sl (v0.Known.map T_api_Published.c))), (11, .p (vi (v0.Known.length : Int))), (12, .p (vi (i1 : Int)))], [(3, .cells [.p (vs v0.Product.b), .p (.sl (v0.Releases.map T_api_Release.c)), .p (.sl (v0.Known.map T_api_Published.c)), .p (vi v0.Until), .mp 2]), (2, .map (m5.map (cM kS (pA T_api_Published.c)))), (1, .cells [.p (vs str_.b), .p (.c (.slice none 0 0)), .p (.c (.slice none 0 0)), .p (vi 0), .p (.c (.map none))])], 4⟩) (Upd.sub (show 4 ≤ 4 by decide) (by simp [go_sem, envSub, Env.get]) (by simp [go_sem, heapSub, Heap.get, belowO])) ?_ ?_
    · rintro m5 hy Q hQ
      (try dsimp only at hy ⊢)
      have hlt : decide (((v0.Known.length : Int) : Int) < (v0.Known.length : Int)) = false := by simp
      refine aw_srH fun K hK => ?_
      (try simp only [go_sem, hlt])
      refine IsK.go (by assumption) ?_
      refine aw_seqH fun Q hQ => ?_
      refine aw_cond rfl (fun hc => ?_) (fun hc => ?_)
      · cases hc
      refine aw_exit ?_
      (repeat (refine IsQ.go (by assumption) ?_; (try dsimp only); (try simp only [E0])))
      exact ⟨_, hy, (Upd.sub (show 4 ≤ 4 by decide) (by simp [go_sem, envSub, Env.get]) (by simp [go_sem, heapSub, Heap.get, belowO]))⟩
    · rintro i1 x4 m5 z7 hi hx hF hb7 hr7 Q hQ
      (try dsimp only at hF ⊢)
      have hlt : decide ((i1 : Int) < (v0.Known.length : Int)) = true := by simp; omega
      have hw2 : IntKind.i64.wrap ((i1 : Int) + 1) = ((i1 + 1 : Nat) : Int) := by rw [wrap64 (by omega) (by omega)]; simp
      refine aw_srH fun K hK => ?_
      (try simp only [go_sem, hlt])
      refine IsK.go (by assumption) ?_
      refine aw_seqH fun Q hQ => ?_
      refine aw_cond rfl (fun hc => ?_) (fun hc => ?_)
      rotate_left; · cases hc
      refine aw_skip ?_
      (repeat (refine IsQ.go (by assumption) ?_; (try dsimp only); (try simp only [reduceCtorEq, E0])))
      refine aw_seqH fun Q hQ => ?_
      refine aw_blockH fun Q hQ => ?_
      refine aw_srH fun K hK => ?_
      (try simp only [go_sem, hx])
      refine IsK.go (by assumption) ?_
      refine aw_region ?_
      (try simp only [go_sem])
      (repeat (refine IsQ.go (by assumption) ?_; (try dsimp only); (try simp only [reduceCtorEq, E0])))
      refine aw_region ?_
      (try simp only [go_sem, hw2])
      (repeat (refine IsQ.go (by assumption) ?_; (try dsimp only); (try simp only [reduceCtorEq, E0])))
      cases hF
      exact ⟨_, rfl, (Upd.sub (show 4 ≤ 4 by decide) (by simp [go_sem, envSub, Env.get]) (by simp [go_sem, heapSub, Heap.get, belowO]))⟩
  rintro m6 hF
  (try dsimp only at hF ⊢)
  (repeat (refine IsQ.go (by assumption) ?_; (try dsimp only); (try simp only [reduceCtorEq, E0])))
  refine aw_srH fun K hK => ?_
  (try simp only [go_sem])
  refine IsK.go (by assumption) ?_
  refine aw_ret ?_
  (repeat (refine IsQ.go (by assumption) ?_; (try dsimp only); (try simp only [reduceCtorEq, E0])))
  cases hF
  simp only [go_sem]
theorem ref11_view_isOpen_ok {v0 : T_provenderref11_view} {v1 : T_api_Exposure} {v2 : Int} {r0} (hF : ref11_view_isOpen v0 v1 v2 = some r0) : APure Try.prog 130 [.p (.agg [vs v0.s.Product.b, .sl (v0.s.Releases.map T_api_Release.c), .sl (v0.s.Known.map T_api_Published.c), vi v0.s.Until, .mp (v0.known.map (cM kS (pA T_api_Published.c)))]), .p (.agg [vs v1.Advisory.b, vs v1.Component.b, vi v1.Severity]), .p (vi v2)] (.p (vb r0)) := by
  refine apureZ 2 rc130_ok rfl ?_
  simp only [rc130, argEnv, Nat.reduceAdd]
  unfold ref11_view_isOpen at hF
  refine aw_srH fun K hK => ?_
  (try simp only [go_sem])
  refine IsK.go (by assumption) ?_
  refine aw_srH fun K hK => ?_
  (try simp only [go_sem])
  refine IsK.go (by assumption) ?_
  refine aw_srJ ⟨[(6, .p (vb ((decide (((mget kEqS v1.Advisory v0.known).getD (T_api_Published.mk str_ 0 0)).Day ≤ v2)) && ((((mget kEqS v1.Advisory v0.known).getD (T_api_Published.mk str_ 0 0)).Ended == (-1)) || (decide (((mget kEqS v1.Advisory v0.known).getD (T_api_Published.mk str_ 0 0)).Ended > v2))))))], [], 3⟩ (fun K hK => ?_) ?_
  · (try simp only [go_sem])
    (try simp only [go_sem])
    refine vOps_split rfl ?_ ?_ <;> intro hg1 <;> (try simp only [hg1, go_sem])
    · (try simp only [go_sem, hg1])
      refine vOps_split rfl ?_ ?_ <;> intro hg2 <;> (try simp only [hg2, go_sem])
      · (try simp only [go_sem, hg1, hg2])
        refine IsK.go (by assumption) ?_
        exact (Upd.sub (show 3 ≤ 3 by decide) (by simp [go_sem, envSub, Env.get, hg1, hg2]) trivial)
      · (try simp only [go_sem, hg1, hg2])
        refine IsK.go (by assumption) ?_
        exact (Upd.sub (show 3 ≤ 3 by decide) (by simp [go_sem, envSub, Env.get, hg1, hg2]) trivial)
    · (try simp only [go_sem, hg1])
      refine IsK.go (by assumption) ?_
      exact (Upd.sub (show 3 ≤ 3 by decide) (by simp [go_sem, envSub, Env.get, hg1]) trivial)
  refine aw_ret ?_
  (repeat (refine IsQ.go (by assumption) ?_; (try dsimp only); (try simp only [reduceCtorEq, E0])))
  cases hF
  simp only [go_sem]
theorem ref11_view_open_ok {v0 : T_provenderref11_view} {v1 : Int} {r0} (hF : ref11_view_open v0 v1 = some r0) : APure Try.prog 91 [.p (.agg [vs v0.s.Product.b, .sl (v0.s.Releases.map T_api_Release.c), .sl (v0.s.Known.map T_api_Published.c), vi v0.s.Until, .mp (v0.known.map (cM kS (pA T_api_Published.c)))]), .p (vi v1)] (.p (.sl (r0.map T_api_Exposure.c))) := by
  refine apureZ 2 rc91_ok rfl ?_
  simp only [rc91, argEnv, Nat.reduceAdd]
  unfold ref11_view_open at hF
  refine aw_srH fun K hK => ?_
  (try simp only [go_sem])
  refine IsK.go (by assumption) ?_
  obtain ⟨⟨y1, y2⟩, h3, hF⟩ := bind_some hF
  (try dsimp only at hF)
  refine aw_srH fun K hK => ?_
  (try simp only [go_sem])
  refine call_pure (ref11_used_ok h3) rfl (by simp only [go_sem]) (by simp only [go_sem]) ?_
  (try dsimp only); (try simp only [go_sem])
  refine IsK.go (by assumption) ?_
  refine aw_srH fun K hK => ?_
  (try simp only [go_sem])
  refine IsK.go (by assumption) ?_
  refine aw_seqH fun Q hQ => ?_
  refine aw_srH fun K hK => ?_
  (try simp only [go_sem])
  refine IsK.go (by assumption) ?_
  refine aw_upd (Upd.ownTmp _ 7 rfl) ?_; dsimp only
  refine aw_joinX hF (fun (l21 : (List T_api_Exposure)) => ⟨[(7, .os 2 0 l21.length)], [(2, .slice (l21.map T_api_Exposure.c))], 3⟩) ?_ ?_
  · intro y22 hF hj22 Q hQ
    refine aw_blockH fun Q hQ => ?_
    refine aw_fact 18 rfl (fun _ _ => sl_lim) fun hl6 => ?_; simp only [List.length_map, top] at hl6
    refine aw_forL hF (fun i4 l16 => ⟨[(1, .p (vi v1)), (2, .bp 0 0), (7, .os 2 0 l16.length), (18, .p (.sl (y1.Exposures.map T_api_Exposure.c))), (19, .p (vi (y1.Exposures.length : Int))), (20, .p (vi (i4 : Int)))], [(2, .slice (l16.map T_api_Exposure.c)), (0, .cells [.p (vs v0.s.Product.b), .p (.sl (v0.s.Releases.map T_api_Release.c)), .p (.sl (v0.s.Known.map T_api_Published.c)), .p (vi v0.s.Until), .p (.mp (v0.known.map (cM kS (pA T_api_Published.c))))])], 3⟩) (Upd.sub (show 3 ≤ 3 by decide) (by simp [go_sem, envSub, Env.get]) (by simp [go_sem, heapSub, Heap.get, belowO])) ?_ ?_
    · rintro l16 hy Q hQ
      (try dsimp only at hy ⊢)
      have hlt : decide (((y1.Exposures.length : Int) : Int) < (y1.Exposures.length : Int)) = false := by simp
      refine aw_srH fun K hK => ?_
      (try simp only [go_sem, hlt])
      refine IsK.go (by assumption) ?_
      refine aw_seqH fun Q hQ => ?_
      refine aw_cond rfl (fun hc => ?_) (fun hc => ?_)
      · cases hc
      refine aw_exit ?_
      (repeat (refine IsQ.go (by assumption) ?_; (try dsimp only); (try simp only [E0])))
      exact ⟨_, hy, (Upd.sub (show 3 ≤ 3 by decide) (by simp [go_sem, envSub, Env.get]) (by simp [go_sem, heapSub, Heap.get, belowO]))⟩
    · rintro i4 x7 l16 z22 hi hx hF hb22 hr22 Q hQ
      (try dsimp only at hF ⊢)
      have hlt : decide ((i4 : Int) < (y1.Exposures.length : Int)) = true := by simp; omega
      have hw5 : IntKind.i64.wrap ((i4 : Int) + 1) = ((i4 + 1 : Nat) : Int) := by rw [wrap64 (by omega) (by omega)]; simp
      refine aw_srH fun K hK => ?_
      (try simp only [go_sem, hlt])
      refine IsK.go (by assumption) ?_
      refine aw_seqH fun Q hQ => ?_
      refine aw_cond rfl (fun hc => ?_) (fun hc => ?_)
      rotate_left; · cases hc
      refine aw_skip ?_
      (repeat (refine IsQ.go (by assumption) ?_; (try dsimp only); (try simp only [reduceCtorEq, E0])))
      refine aw_seqH fun Q hQ => ?_
      refine aw_blockH fun Q hQ => ?_
      refine aw_srH fun K hK => ?_
      (try simp only [go_sem, hx])
      refine IsK.go (by assumption) ?_
      obtain ⟨y23, h24, hF⟩ := bind_some hF
      refine aw_srH fun K hK => ?_
      (try simp only [go_sem])
      refine call_pure (ref11_view_isOpen_ok h24) rfl (by simp only [go_sem]) (by simp only [go_sem]) ?_
      (try dsimp only); (try simp only [go_sem])
      refine IsK.go (by assumption) ?_
      refine aw_cond rfl (fun hc => ?_) (fun hc => ?_)
      · replace hF := if_t hc hF
        obtain ⟨l25, h26, hF⟩ := bind_some hF
        obtain ⟨h26, h26v⟩ := app_some h26; (try simp only [go_sem] at h26)
        refine aw_region ?_
        (try simp only [go_sem, h26])
        (repeat (refine IsQ.go (by assumption) ?_; (try dsimp only); (try simp only [reduceCtorEq, E0])))
        refine aw_region ?_
        (try simp only [go_sem, hw5])
        (repeat (refine IsQ.go (by assumption) ?_; (try dsimp only); (try simp only [reduceCtorEq, E0])))
        cases hF
        exact ⟨_, rfl, (Upd.sub (show 3 ≤ 3 by decide) (by simp [go_sem, envSub, Env.get, h26v]) (by simp [go_sem, heapSub, Heap.get, belowO, h26v]))⟩
      · replace hF := if_f hc hF
        refine aw_skip ?_
        (repeat (refine IsQ.go (by assumption) ?_; (try dsimp only); (try simp only [reduceCtorEq, E0])))
        refine aw_region ?_
        (try simp only [go_sem, hw5])
        (repeat (refine IsQ.go (by assumption) ?_; (try dsimp only); (try simp only [reduceCtorEq, E0])))
        cases hF
        exact ⟨_, rfl, (Upd.sub (show 3 ≤ 3 by decide) (by simp [go_sem, envSub, Env.get]) (by simp [go_sem, heapSub, Heap.get, belowO]))⟩
  rintro l21 hF
  (try dsimp only at hF ⊢)
  (repeat (refine IsQ.go (by assumption) ?_; (try dsimp only); (try simp only [reduceCtorEq, E0])))
  refine aw_srH fun K hK => ?_
  (try simp only [go_sem])
  refine IsK.go (by assumption) ?_
  refine aw_ret ?_
  (repeat (refine IsQ.go (by assumption) ?_; (try dsimp only); (try simp only [reduceCtorEq, E0])))
  cases hF
  simp only [go_sem]
theorem ref11_OpenOn_ok {v0 : T_api_Story} {v1 : Int} {r0 r1} (hF : ref11_OpenOn v0 v1 = some (r0, r1)) : APure Try.prog 33 [.p (.agg [vs v0.Product.b, .sl (v0.Releases.map T_api_Release.c), .sl (v0.Known.map T_api_Published.c), vi v0.Until]), .p (vi v1)] (.tup [.p (.sl (r0.map T_api_Exposure.c)), .p (vi r1)]) := by
  refine apureZ 2 rc33_ok rfl ?_
  simp only [rc33, argEnv, Nat.reduceAdd]
  unfold ref11_OpenOn at hF
  refine aw_srH fun K hK => ?_
  (try simp only [go_sem])
  refine IsK.go (by assumption) ?_
  refine aw_seqH fun Q hQ => ?_
  obtain ⟨y1, h2, hF⟩ := bind_some hF
  refine aw_srH fun K hK => ?_
  (try simp only [go_sem])
  refine call_pure (ref11_Check_ok h2) rfl (by simp only [go_sem]) (by simp only [go_sem]) ?_
  (try dsimp only); (try simp only [go_sem])
  refine IsK.go (by assumption) ?_
  refine aw_srH fun K hK => ?_
  (try simp only [go_sem])
  refine IsK.go (by assumption) ?_
  refine aw_cond rfl (fun hc => ?_) (fun hc => ?_)
  · replace hF := if_t hc hF
    refine aw_srH fun K hK => ?_
    (try simp only [go_sem])
    refine IsK.go (by assumption) ?_
    refine aw_ret ?_
    (repeat (refine IsQ.go (by assumption) ?_; (try dsimp only); (try simp only [reduceCtorEq, E0])))
    cases hF
    simp only [go_sem]
  · replace hF := if_f hc hF
    refine aw_skip ?_
    (repeat (refine IsQ.go (by assumption) ?_; (try dsimp only); (try simp only [reduceCtorEq, E0])))
    refine aw_seqH fun Q hQ => ?_
    obtain ⟨y3, h4, hF⟩ := bind_some hF
    refine aw_srH fun K hK => ?_
    (try simp only [go_sem])
    refine call_pure (ref11_isDay_ok h4) rfl (by simp only [go_sem]) (by simp only [go_sem]) ?_
    (try dsimp only); (try simp only [go_sem])
    refine IsK.go (by assumption) ?_
    refine aw_cond rfl (fun hc => ?_) (fun hc => ?_)
    · replace hF := if_t hc hF
      refine aw_srH fun K hK => ?_
      (try simp only [go_sem])
      refine IsK.go (by assumption) ?_
      refine aw_ret ?_
      (repeat (refine IsQ.go (by assumption) ?_; (try dsimp only); (try simp only [reduceCtorEq, E0])))
      cases hF
      simp only [go_sem]
    · replace hF := if_f hc hF
      refine aw_skip ?_
      (repeat (refine IsQ.go (by assumption) ?_; (try dsimp only); (try simp only [reduceCtorEq, E0])))
      obtain ⟨y5, h6, hF⟩ := bind_some hF
      obtain ⟨y7, h8, hF⟩ := bind_some hF
      refine aw_srH fun K hK => ?_
      (try simp only [go_sem])
      refine call_pure (ref11_viewOf_ok h6) rfl (by simp only [go_sem]) (by simp only [go_sem]) ?_
      (try dsimp only); (try simp only [go_sem])
      refine call_pure (ref11_view_open_ok h8) rfl (by simp only [go_sem]) (by simp only [go_sem]) ?_
      (try dsimp only); (try simp only [go_sem])
      refine IsK.go (by assumption) ?_
      refine aw_ret ?_
      (repeat (refine IsQ.go (by assumption) ?_; (try dsimp only); (try simp only [reduceCtorEq, E0])))
      cases hF
      simp only [go_sem]
theorem history_pieces_ok {v0 : T_api_Story} {r0} (hF : history_pieces v0 = some r0) : APure Try.prog 92 [.p (.agg [vs v0.Product.b, .sl (v0.Releases.map T_api_Release.c), .sl (v0.Known.map T_api_Published.c), vi v0.Until])] (.p (.sl (r0.map T_history_piece.c))) := by
  refine apureZ 2 rc92_ok rfl ?_
  simp only [rc92, argEnv]
  unfold history_pieces at hF
  refine aw_srH fun K hK => ?_
  (try simp only [go_sem])
  refine IsK.go (by assumption) ?_
  refine aw_srH fun K hK => ?_
  (try simp only [go_sem])
  refine IsK.go (by assumption) ?_
  refine aw_seqH fun Q hQ => ?_
  refine aw_srH fun K hK => ?_
  (try simp only [go_sem])
  refine IsK.go (by assumption) ?_
  refine aw_joinX hF (fun (m6 : (List (Str × T_api_Published))) => ⟨[(1, .bp 0 0), (3, .mp 1)], [(1, .map (m6.map (cM kS (pA T_api_Published.c)))), (0, .cells [.p (vs v0.Product.b), .p (.sl (v0.Releases.map T_api_Release.c)), .p (.sl (v0.Known.map T_api_Published.c)), .p (vi v0.Until)])], 2⟩) ?_ ?_
  · intro y7 hF hj7 Q hQ
    refine aw_blockH fun Q hQ => ?_
    refine aw_fact 16 rfl (fun _ _ => sl_lim) fun hl3 => ?_; simp only [List.length_map, top] at hl3
    refine aw_forL hF (fun i1 m5 => ⟨[(1, .bp 0 0), (3, .mp 1), (16, .p (.sl (v0.Known.map T_api_Published.c))), (17, .p (vi (v0.Known.length : Int))), (18, .p (vi (i1 : Int)))], [(1, .map (m5.map (cM kS (pA T_api_Published.c)))), (0, .cells [.p (vs v0.Product.b), .p (.sl (v0.Releases.map T_api_Release.c)), .p (.sl (v0.Known.map T_api_Published.c)), .p (vi v0.Until)])], 2⟩) (Upd.sub (show 2 ≤ 2 by decide) (by simp [go_sem, envSub, Env.get]) (by simp [go_sem, heapSub, Heap.get, belowO])) ?_ ?_
    · rintro m5 hy Q hQ
      (try dsimp only at hy ⊢)
      have hlt : decide (((v0.Known.length : Int) : Int) < (v0.Known.length : Int)) = false := by simp
      refine aw_srH fun K hK => ?_
      (try simp only [go_sem, hlt])
      refine IsK.go (by assumption) ?_
      refine aw_seqH fun Q hQ => ?_
      refine aw_cond rfl (fun hc => ?_) (fun hc => ?_)
      · cases hc
      refine aw_exit ?_
      (repeat (refine IsQ.go (by assumption) ?_; (try dsimp only); (try simp only [E0])))
      exact ⟨_, hy, (Upd.sub (show 2 ≤ 2 by decide) (by simp [go_sem, envSub, Env.get]) (by simp [go_sem, heapSub, Heap.get, belowO]))⟩
    · rintro i1 x4 m5 z7 hi hx hF hb7 hr7 Q hQ
      (try dsimp only at hF ⊢)
      have hlt : decide ((i1 : Int) < (v0.Known.length : Int)) = true := by simp; omega
      have hw2 : IntKind.i64.wrap ((i1 : Int) + 1) = ((i1 + 1 : Nat) : Int) := by rw [wrap64 (by omega) (by omega)]; simp
      refine aw_srH fun K hK => ?_
      (try simp only [go_sem, hlt])
      refine IsK.go (by assumption) ?_
      refine aw_seqH fun Q hQ => ?_
      refine aw_cond rfl (fun hc => ?_) (fun hc => ?_)
      rotate_left; · cases hc
      refine aw_skip ?_
      (repeat (refine IsQ.go (by assumption) ?_; (try dsimp only); (try simp only [reduceCtorEq, E0])))
      refine aw_seqH fun Q hQ => ?_
      refine aw_blockH fun Q hQ => ?_
      refine aw_srH fun K hK => ?_
      (try simp only [go_sem, hx])
      refine IsK.go (by assumption) ?_
      refine aw_region ?_
      (try simp only [go_sem])
      (repeat (refine IsQ.go (by assumption) ?_; (try dsimp only); (try simp only [reduceCtorEq, E0])))
      refine aw_region ?_
      (try simp only [go_sem, hw2])
      (repeat (refine IsQ.go (by assumption) ?_; (try dsimp only); (try simp only [reduceCtorEq, E0])))
      cases hF
      exact ⟨_, rfl, (Upd.sub (show 2 ≤ 2 by decide) (by simp [go_sem, envSub, Env.get]) (by simp [go_sem, heapSub, Heap.get, belowO]))⟩
  rintro m6 hF
  (try dsimp only at hF ⊢)
  (repeat (refine IsQ.go (by assumption) ?_; (try dsimp only); (try simp only [reduceCtorEq, E0])))
  refine aw_srH fun K hK => ?_
  (try simp only [go_sem])
  refine IsK.go (by assumption) ?_
  refine aw_seqH fun Q hQ => ?_
  refine aw_srH fun K hK => ?_
  (try simp only [go_sem])
  refine IsK.go (by assumption) ?_
  refine aw_upd (Upd.ownTmp _ 6 rfl) ?_; dsimp only
  refine aw_joinX hF (fun (l92 : (List T_history_piece)) => ⟨[(6, .os 2 0 l92.length)], [(2, .slice (l92.map T_history_piece.c))], 3⟩) ?_ ?_
  · intro y93 hF hj93 Q hQ
    refine aw_blockH fun Q hQ => ?_
    refine aw_fact 28 rfl (fun _ _ => sl_lim) fun hl10 => ?_; simp only [List.length_map, top] at hl10
    refine aw_forL hF (fun i8 l66 => ⟨[(1, .bp 0 0), (3, .mp 1), (6, .os 2 0 l66.length), (28, .p (.sl (v0.Releases.map T_api_Release.c))), (29, .p (vi (v0.Releases.length : Int))), (30, .p (vi (i8 : Int)))], [(2, .slice (l66.map T_history_piece.c)), (1, .map (m6.map (cM kS (pA T_api_Published.c)))), (0, .cells [.p (vs v0.Product.b), .p (.sl (v0.Releases.map T_api_Release.c)), .p (.sl (v0.Known.map T_api_Published.c)), .p (vi v0.Until)])], 3⟩) (Upd.sub (show 3 ≤ 3 by decide) (by simp [go_sem, envSub, Env.get]) (by simp [go_sem, heapSub, Heap.get, belowO])) ?_ ?_
    · rintro l66 hy Q hQ
      (try dsimp only at hy ⊢)
      have hlt : decide (((v0.Releases.length : Int) : Int) < (v0.Releases.length : Int)) = false := by simp
      refine aw_srH fun K hK => ?_
      (try simp only [go_sem, hlt])
      refine IsK.go (by assumption) ?_
      refine aw_seqH fun Q hQ => ?_
      refine aw_cond rfl (fun hc => ?_) (fun hc => ?_)
      · cases hc
      refine aw_exit ?_
      (repeat (refine IsQ.go (by assumption) ?_; (try dsimp only); (try simp only [E0])))
      exact ⟨_, hy, (Upd.sub (show 3 ≤ 3 by decide) (by simp [go_sem, envSub, Env.get]) (by simp [go_sem, heapSub, Heap.get, belowO]))⟩
    · rintro i8 x11 l66 z93 hi hx hF hb93 hr93 Q hQ
      (try dsimp only at hF ⊢)
      have hlt : decide ((i8 : Int) < (v0.Releases.length : Int)) = true := by simp; omega
      have hw9 : IntKind.i64.wrap ((i8 : Int) + 1) = ((i8 + 1 : Nat) : Int) := by rw [wrap64 (by omega) (by omega)]; simp
      refine aw_srH fun K hK => ?_
      (try simp only [go_sem, hlt])
      refine IsK.go (by assumption) ?_
      refine aw_seqH fun Q hQ => ?_
      refine aw_cond rfl (fun hc => ?_) (fun hc => ?_)
      rotate_left; · cases hc
      refine aw_skip ?_
      (repeat (refine IsQ.go (by assumption) ?_; (try dsimp only); (try simp only [reduceCtorEq, E0])))
      refine aw_seqH fun Q hQ => ?_
      refine aw_blockH fun Q hQ => ?_
      refine aw_srH fun K hK => ?_
      (try simp only [go_sem, hx])
      refine IsK.go (by assumption) ?_
      refine aw_srH fun K hK => ?_
      (try simp only [go_sem])
      refine IsK.go (by assumption) ?_
      refine aw_joinK hF (fun (n96 : Int) => ⟨[(1, .bp 0 0), (3, .mp 1), (6, .os 2 0 l66.length), (8, .bp 3 0), (9, .p (vi n96)), (28, .p (.sl (v0.Releases.map T_api_Release.c))), (29, .p (vi (v0.Releases.length : Int))), (30, .p (vi (i8 : Int)))], [(3, .cells [.p (vs x11.Version.b), .p (vi x11.Day), .p (.sl (x11.Exposures.map T_api_Exposure.c))]), (2, .slice (l66.map T_history_piece.c)), (1, .map (m6.map (cM kS (pA T_api_Published.c)))), (0, .cells [.p (vs v0.Product.b), .p (.sl (v0.Releases.map T_api_Release.c)), .p (.sl (v0.Known.map T_api_Published.c)), .p (vi v0.Until)])], 4⟩) ?_ ?_
      · intro z97 hF hr97 Q hQ
        refine aw_srH fun K hK => ?_
        (try simp only [go_sem, hw9])
        refine IsK.go (by assumption) ?_
        refine aw_cond rfl (fun hc => ?_) (fun hc => ?_)
        · replace hF := if_t hc hF
          obtain ⟨x98, h99, hF⟩ := bind_some hF
          replace h99 := idx_map T_api_Release.c h99; (try simp only [go_sem] at h99)
          refine aw_region ?_
          (try simp only [go_sem, hw9, h99])
          (repeat (refine IsQ.go (by assumption) ?_; (try dsimp only); (try simp only [reduceCtorEq, E0])))
          cases hF
          exact ⟨_, rfl, (Upd.sub (show 4 ≤ 4 by decide) (by simp [go_sem, envSub, Env.get]) (by simp [go_sem, heapSub, Heap.get, belowO]))⟩
        · replace hF := if_f hc hF
          refine aw_skip ?_
          (repeat (refine IsQ.go (by assumption) ?_; (try dsimp only); (try simp only [reduceCtorEq, E0])))
          cases hF
          exact ⟨_, rfl, (Upd.sub (show 4 ≤ 4 by decide) (by simp [go_sem, envSub, Env.get]) (by simp [go_sem, heapSub, Heap.get, belowO]))⟩
      rintro n96 hF
      (try dsimp only at hF ⊢)
      refine aw_srH fun K hK => ?_
      (try simp only [go_sem])
      refine IsK.go (by assumption) ?_
      refine aw_joinX hF (fun (l113 : (List T_history_piece)) => ⟨[(1, .bp 0 0), (3, .mp 1), (6, .os 2 0 l113.length), (28, .p (.sl (v0.Releases.map T_api_Release.c))), (29, .p (vi (v0.Releases.length : Int))), (30, .p (vi (i8 : Int)))], [(2, .slice (l113.map T_history_piece.c)), (1, .map (m6.map (cM kS (pA T_api_Published.c)))), (0, .cells [.p (vs v0.Product.b), .p (.sl (v0.Releases.map T_api_Release.c)), .p (.sl (v0.Known.map T_api_Published.c)), .p (vi v0.Until)])], 4⟩) ?_ ?_
      · intro y114 hF hj114 Q hQ
        refine aw_blockH fun Q hQ => ?_
        refine aw_fact 51 rfl (fun _ _ => sl_lim) fun hl102 => ?_; simp only [List.length_map, top] at hl102
        refine aw_forL hF (fun i100 l108 => ⟨[(1, .bp 0 0), (3, .mp 1), (6, .os 2 0 l108.length), (8, .bp 3 0), (9, .p (vi n96)), (28, .p (.sl (v0.Releases.map T_api_Release.c))), (29, .p (vi (v0.Releases.length : Int))), (30, .p (vi (i8 : Int))), (51, .p (.sl (x11.Exposures.map T_api_Exposure.c))), (52, .p (vi (x11.Exposures.length : Int))), (53, .p (vi (i100 : Int)))], [(3, .cells [.p (vs x11.Version.b), .p (vi x11.Day), .p (.sl (x11.Exposures.map T_api_Exposure.c))]), (2, .slice (l108.map T_history_piece.c)), (1, .map (m6.map (cM kS (pA T_api_Published.c)))), (0, .cells [.p (vs v0.Product.b), .p (.sl (v0.Releases.map T_api_Release.c)), .p (.sl (v0.Known.map T_api_Published.c)), .p (vi v0.Until)])], 4⟩) (Upd.sub (show 4 ≤ 4 by decide) (by simp [go_sem, envSub, Env.get]) (by simp [go_sem, heapSub, Heap.get, belowO])) ?_ ?_
        · rintro l108 hy Q hQ
          (try dsimp only at hy ⊢)
          have hlt : decide (((x11.Exposures.length : Int) : Int) < (x11.Exposures.length : Int)) = false := by simp
          refine aw_srH fun K hK => ?_
          (try simp only [go_sem, hlt])
          refine IsK.go (by assumption) ?_
          refine aw_seqH fun Q hQ => ?_
          refine aw_cond rfl (fun hc => ?_) (fun hc => ?_)
          · cases hc
          refine aw_exit ?_
          (repeat (refine IsQ.go (by assumption) ?_; (try dsimp only); (try simp only [E0])))
          exact ⟨_, hy, (Upd.sub (show 4 ≤ 4 by decide) (by simp [go_sem, envSub, Env.get]) (by simp [go_sem, heapSub, Heap.get, belowO]))⟩
        · rintro i100 x103 l108 z114 hi hx hF hb114 hr114 Q hQ
          (try dsimp only at hF ⊢)
          have hlt : decide ((i100 : Int) < (x11.Exposures.length : Int)) = true := by simp; omega
          have hw101 : IntKind.i64.wrap ((i100 : Int) + 1) = ((i100 + 1 : Nat) : Int) := by rw [wrap64 (by omega) (by omega)]; simp
          refine aw_srH fun K hK => ?_
          (try simp only [go_sem, hlt])
          refine IsK.go (by assumption) ?_
          refine aw_seqH fun Q hQ => ?_
          refine aw_cond rfl (fun hc => ?_) (fun hc => ?_)
          rotate_left; · cases hc
          refine aw_skip ?_
          (repeat (refine IsQ.go (by assumption) ?_; (try dsimp only); (try simp only [reduceCtorEq, E0])))
          refine aw_seqH fun Q hQ => ?_
          refine aw_blockH fun Q hQ => ?_
          refine aw_srH fun K hK => ?_
          (try simp only [go_sem, hx])
          refine IsK.go (by assumption) ?_
          refine aw_srH fun K hK => ?_
          (try simp only [go_sem])
          refine IsK.go (by assumption) ?_
          refine aw_srH fun K hK => ?_
          (try simp only [go_sem])
          refine IsK.go (by assumption) ?_
          refine aw_joinK hF (fun (n115 : Int) => ⟨[(1, .bp 0 0), (3, .mp 1), (6, .os 2 0 l108.length), (8, .bp 3 0), (9, .p (vi n96)), (13, .bp 6 0), (28, .p (.sl (v0.Releases.map T_api_Release.c))), (29, .p (vi (v0.Releases.length : Int))), (30, .p (vi (i8 : Int))), (51, .p (.sl (x11.Exposures.map T_api_Exposure.c))), (52, .p (vi (x11.Exposures.length : Int))), (53, .p (vi (i100 : Int)))], [(6, .cells [.p (vs x103.Advisory.b), .p (vs x103.Component.b), .p (vi x103.Severity), .p (vi (if x11.Day < ((mget kEqS x103.Advisory m6).getD (T_api_Published.mk str_ 0 0)).Day then ((mget kEqS x103.Advisory m6).getD (T_api_Published.mk str_ 0 0)).Day else x11.Day)), .p (vi n115)]), (3, .cells [.p (vs x11.Version.b), .p (vi x11.Day), .p (.sl (x11.Exposures.map T_api_Exposure.c))]), (2, .slice (l108.map T_history_piece.c)), (1, .map (m6.map (cM kS (pA T_api_Published.c)))), (0, .cells [.p (vs v0.Product.b), .p (.sl (v0.Releases.map T_api_Release.c)), .p (.sl (v0.Known.map T_api_Published.c)), .p (vi v0.Until)])], 7⟩) ?_ ?_
          · intro z116 hF hr116 Q hQ
            refine aw_srH fun K hK => ?_
            (try simp only [go_sem])
            refine IsK.go (by assumption) ?_
            refine aw_cond rfl (fun hc => ?_) (fun hc => ?_)
            · replace hF := if_t hc hF
              refine aw_region ?_
              (try simp only [go_sem])
              (repeat (refine IsQ.go (by assumption) ?_; (try dsimp only); (try simp only [reduceCtorEq, E0])))
              cases hF
              exact ⟨_, rfl, (Upd.sub (show 7 ≤ 7 by decide) (by simp [go_sem, envSub, Env.get]) (by simp [go_sem, heapSub, Heap.get, belowO]))⟩
            · replace hF := if_f hc hF
              refine aw_skip ?_
              (repeat (refine IsQ.go (by assumption) ?_; (try dsimp only); (try simp only [reduceCtorEq, E0])))
              cases hF
              exact ⟨_, rfl, (Upd.sub (show 7 ≤ 7 by decide) (by simp [go_sem, envSub, Env.get]) (by simp [go_sem, heapSub, Heap.get, belowO]))⟩
          rintro n115 hF
          (try dsimp only at hF ⊢)
          refine aw_srH fun K hK => ?_
          (try simp only [go_sem])
          refine IsK.go (by assumption) ?_
          refine aw_cond rfl (fun hc => ?_) (fun hc => ?_)
          · replace hF := if_t hc hF
            obtain ⟨l117, h118, hF⟩ := bind_some hF
            obtain ⟨h118, h118v⟩ := app_some h118; (try simp only [go_sem] at h118)
            refine aw_region ?_
            (try simp only [go_sem, h118])
            (repeat (refine IsQ.go (by assumption) ?_; (try dsimp only); (try simp only [reduceCtorEq, E0])))
            refine aw_region ?_
            (try simp only [go_sem, hw101])
            (repeat (refine IsQ.go (by assumption) ?_; (try dsimp only); (try simp only [reduceCtorEq, E0])))
            cases hF
            exact ⟨_, rfl, (Upd.sub (show 4 ≤ 4 by decide) (by simp [go_sem, envSub, Env.get, h118v]) (by simp [go_sem, heapSub, Heap.get, belowO, h118v]))⟩
          · replace hF := if_f hc hF
            refine aw_skip ?_
            (repeat (refine IsQ.go (by assumption) ?_; (try dsimp only); (try simp only [reduceCtorEq, E0])))
            refine aw_region ?_
            (try simp only [go_sem, hw101])
            (repeat (refine IsQ.go (by assumption) ?_; (try dsimp only); (try simp only [reduceCtorEq, E0])))
            cases hF
            exact ⟨_, rfl, (Upd.sub (show 4 ≤ 4 by decide) (by simp [go_sem, envSub, Env.get]) (by simp [go_sem, heapSub, Heap.get, belowO]))⟩
      rintro l113 hF
      (try dsimp only at hF ⊢)
      (repeat (refine IsQ.go (by assumption) ?_; (try dsimp only); (try simp only [reduceCtorEq, E0])))
      refine aw_region ?_
      (try simp only [go_sem, hw9])
      (repeat (refine IsQ.go (by assumption) ?_; (try dsimp only); (try simp only [reduceCtorEq, E0])))
      cases hF
      exact ⟨_, rfl, (Upd.sub (show 3 ≤ 3 by decide) (by simp [go_sem, envSub, Env.get]) (by simp [go_sem, heapSub, Heap.get, belowO]))⟩
  rintro l92 hF
  (try dsimp only at hF ⊢)
  (repeat (refine IsQ.go (by assumption) ?_; (try dsimp only); (try simp only [reduceCtorEq, E0])))
  refine aw_srH fun K hK => ?_
  (try simp only [go_sem])
  refine IsK.go (by assumption) ?_
  refine aw_ret ?_
  (repeat (refine IsQ.go (by assumption) ?_; (try dsimp only); (try simp only [reduceCtorEq, E0])))
  cases hF
  simp only [go_sem]
end Go.Abs
