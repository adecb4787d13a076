/- The walks of these functions against the plain ones (printed by a program of this repo). -/
import Derived.Test.YtjjhmldeammecaaRHw
import Derived.Test.YtjjhmldeammecaaGHka
import Derived.Test.YtjjhmldeammecaaFHd
import Derived.Test.YtjjhmldeammecaaProg
import Derived.Test.YtjjhmldeammecaaRHc
import Derived.Test.YtjjhmldeammecaaGHca
namespace Go.Abs
open Go Go.Proofs
set_option maxRecDepth 8000
theorem ref11_view_stretches_ok {v0 : T_provenderref11_view} {r0} (hF : ref11_view_stretches v0 = some r0) : APure Try.prog 114 [.p (.agg [vs v0.s.Product.b, .sl (v0.s.Releases.map T_api_Release.c), .sl (v0.s.Known.map T_api_Published.c), vi v0.s.Until, .mp (v0.known.map (cM kS (pA T_api_Published.c)))])] (.p (.sl (r0.map T_provenderref11_stretch.c))) := by
  refine apureZ 2 rc114_ok rfl ?_
  simp only [rc114, argEnv]
  unfold ref11_view_stretches at hF
  refine aw_srH fun K hK => ?_
  (try simp only [go_sem])
  refine IsK.go (by assumption) ?_
  refine aw_srH fun K hK => ?_
  (try simp only [go_sem])
  refine IsK.go (by assumption) ?_
  refine aw_seqH fun Q hQ => ?_
  refine aw_srH fun K hK => ?_
  (try simp only [go_sem])
  refine IsK.go (by assumption) ?_
  refine aw_upd (Upd.ownTmp _ 3 rfl) ?_; dsimp only
  refine aw_joinX hF (fun (l85 : (List T_provenderref11_stretch)) => ⟨[(3, .os 1 0 l85.length)], [(1, .slice (l85.map T_provenderref11_stretch.c))], 2⟩) ?_ ?_
  · intro y86 hF hj86 Q hQ
    refine aw_blockH fun Q hQ => ?_
    refine aw_fact 14 rfl (fun _ _ => sl_lim) fun hl3 => ?_; simp only [List.length_map, top] at hl3
    refine aw_forL hF (fun i1 l59 => ⟨[(1, .bp 0 0), (3, .os 1 0 l59.length), (14, .p (.sl (v0.s.Releases.map T_api_Release.c))), (15, .p (vi (v0.s.Releases.length : Int))), (16, .p (vi (i1 : Int)))], [(1, .slice (l59.map T_provenderref11_stretch.c)), (0, .cells [.p (vs v0.s.Product.b), .p (.sl (v0.s.Releases.map T_api_Release.c)), .p (.sl (v0.s.Known.map T_api_Published.c)), .p (vi v0.s.Until), .p (.mp (v0.known.map (cM kS (pA T_api_Published.c))))])], 2⟩) (Upd.sub (show 2 ≤ 2 by decide) (by simp [go_sem, envSub, Env.get]) (by simp [go_sem, heapSub, Heap.get, belowO])) ?_ ?_
    · rintro l59 hy Q hQ
      (try dsimp only at hy ⊢)
      have hlt : decide (((v0.s.Releases.length : Int) : Int) < (v0.s.Releases.length : Int)) = false := by simp
      refine aw_srH fun K hK => ?_
      (try simp only [go_sem, hlt])
      refine IsK.go (by assumption) ?_
      refine aw_seqH fun Q hQ => ?_
      refine aw_cond rfl (fun hc => ?_) (fun hc => ?_)
      · cases hc
      refine aw_exit ?_
      (repeat (refine IsQ.go (by assumption) ?_; (try dsimp only); (try simp only [E0])))
      exact ⟨_, hy, (Upd.sub (show 2 ≤ 2 by decide) (by simp [go_sem, envSub, Env.get]) (by simp [go_sem, heapSub, Heap.get, belowO]))⟩
    · rintro i1 x4 l59 z86 hi hx hF hb86 hr86 Q hQ
      (try dsimp only at hF ⊢)
      have hlt : decide ((i1 : Int) < (v0.s.Releases.length : Int)) = true := by simp; omega
      have hw2 : IntKind.i64.wrap ((i1 : Int) + 1) = ((i1 + 1 : Nat) : Int) := by rw [wrap64 (by omega) (by omega)]; simp
      refine aw_srH fun K hK => ?_
      (try simp only [go_sem, hlt])
      refine IsK.go (by assumption) ?_
      refine aw_seqH fun Q hQ => ?_
      refine aw_cond rfl (fun hc => ?_) (fun hc => ?_)
      rotate_left; · cases hc
      refine aw_skip ?_
      (repeat (refine IsQ.go (by assumption) ?_; (try dsimp only); (try simp only [reduceCtorEq, E0])))
      refine aw_seqH fun Q hQ => ?_
      refine aw_blockH fun Q hQ => ?_
      refine aw_srH fun K hK => ?_
      (try simp only [go_sem, hx])
      refine IsK.go (by assumption) ?_
      refine aw_srH fun K hK => ?_
      (try simp only [go_sem])
      refine IsK.go (by assumption) ?_
      refine aw_joinK hF (fun (n89 : Int) => ⟨[(1, .bp 0 0), (3, .os 1 0 l59.length), (5, .bp 2 0), (6, .p (vi n89)), (14, .p (.sl (v0.s.Releases.map T_api_Release.c))), (15, .p (vi (v0.s.Releases.length : Int))), (16, .p (vi (i1 : Int)))], [(2, .cells [.p (vs x4.Version.b), .p (vi x4.Day), .p (.sl (x4.Exposures.map T_api_Exposure.c))]), (1, .slice (l59.map T_provenderref11_stretch.c)), (0, .cells [.p (vs v0.s.Product.b), .p (.sl (v0.s.Releases.map T_api_Release.c)), .p (.sl (v0.s.Known.map T_api_Published.c)), .p (vi v0.s.Until), .p (.mp (v0.known.map (cM kS (pA T_api_Published.c))))])], 3⟩) ?_ ?_
      · intro z90 hF hr90 Q hQ
        refine aw_srH fun K hK => ?_
        (try simp only [go_sem, hw2])
        refine IsK.go (by assumption) ?_
        refine aw_cond rfl (fun hc => ?_) (fun hc => ?_)
        · replace hF := if_t hc hF
          obtain ⟨x91, h92, hF⟩ := bind_some hF
          replace h92 := idx_map T_api_Release.c h92; (try simp only [go_sem] at h92)
          refine aw_region ?_
          (try simp only [go_sem, hw2, h92])
          (repeat (refine IsQ.go (by assumption) ?_; (try dsimp only); (try simp only [reduceCtorEq, E0])))
          cases hF
          exact ⟨_, rfl, (Upd.sub (show 3 ≤ 3 by decide) (by simp [go_sem, envSub, Env.get]) (by simp [go_sem, heapSub, Heap.get, belowO]))⟩
        · replace hF := if_f hc hF
          refine aw_skip ?_
          (repeat (refine IsQ.go (by assumption) ?_; (try dsimp only); (try simp only [reduceCtorEq, E0])))
          cases hF
          exact ⟨_, rfl, (Upd.sub (show 3 ≤ 3 by decide) (by simp [go_sem, envSub, Env.get]) (by simp [go_sem, heapSub, Heap.get, belowO]))⟩
      rintro n89 hF
      (try dsimp only at hF ⊢)
      refine aw_srH fun K hK => ?_
      (try simp only [go_sem])
      refine IsK.go (by assumption) ?_
      refine aw_joinX hF (fun (l106 : (List T_provenderref11_stretch)) => ⟨[(1, .bp 0 0), (3, .os 1 0 l106.length), (14, .p (.sl (v0.s.Releases.map T_api_Release.c))), (15, .p (vi (v0.s.Releases.length : Int))), (16, .p (vi (i1 : Int)))], [(1, .slice (l106.map T_provenderref11_stretch.c)), (0, .cells [.p (vs v0.s.Product.b), .p (.sl (v0.s.Releases.map T_api_Release.c)), .p (.sl (v0.s.Known.map T_api_Published.c)), .p (vi v0.s.Until), .p (.mp (v0.known.map (cM kS (pA T_api_Published.c))))])], 3⟩) ?_ ?_
      · intro y107 hF hj107 Q hQ
        refine aw_blockH fun Q hQ => ?_
        refine aw_fact 40 rfl (fun _ _ => sl_lim) fun hl95 => ?_; simp only [List.length_map, top] at hl95
        refine aw_forL hF (fun i93 l101 => ⟨[(1, .bp 0 0), (3, .os 1 0 l101.length), (5, .bp 2 0), (6, .p (vi n89)), (14, .p (.sl (v0.s.Releases.map T_api_Release.c))), (15, .p (vi (v0.s.Releases.length : Int))), (16, .p (vi (i1 : Int))), (40, .p (.sl (x4.Exposures.map T_api_Exposure.c))), (41, .p (vi (x4.Exposures.length : Int))), (42, .p (vi (i93 : Int)))], [(2, .cells [.p (vs x4.Version.b), .p (vi x4.Day), .p (.sl (x4.Exposures.map T_api_Exposure.c))]), (1, .slice (l101.map T_provenderref11_stretch.c)), (0, .cells [.p (vs v0.s.Product.b), .p (.sl (v0.s.Releases.map T_api_Release.c)), .p (.sl (v0.s.Known.map T_api_Published.c)), .p (vi v0.s.Until), .p (.mp (v0.known.map (cM kS (pA T_api_Published.c))))])], 3⟩) (Upd.sub (show 3 ≤ 3 by decide) (by simp [go_sem, envSub, Env.get]) (by simp [go_sem, heapSub, Heap.get, belowO])) ?_ ?_
        · rintro l101 hy Q hQ
          (try dsimp only at hy ⊢)
          have hlt : decide (((x4.Exposures.length : Int) : Int) < (x4.Exposures.length : Int)) = false := by simp
          refine aw_srH fun K hK => ?_
          (try simp only [go_sem, hlt])
          refine IsK.go (by assumption) ?_
          refine aw_seqH fun Q hQ => ?_
          refine aw_cond rfl (fun hc => ?_) (fun hc => ?_)
          · cases hc
          refine aw_exit ?_
          (repeat (refine IsQ.go (by assumption) ?_; (try dsimp only); (try simp only [E0])))
          exact ⟨_, hy, (Upd.sub (show 3 ≤ 3 by decide) (by simp [go_sem, envSub, Env.get]) (by simp [go_sem, heapSub, Heap.get, belowO]))⟩
        · rintro i93 x96 l101 z107 hi hx hF hb107 hr107 Q hQ
          (try dsimp only at hF ⊢)
          have hlt : decide ((i93 : Int) < (x4.Exposures.length : Int)) = true := by simp; omega
          have hw94 : IntKind.i64.wrap ((i93 : Int) + 1) = ((i93 + 1 : Nat) : Int) := by rw [wrap64 (by omega) (by omega)]; simp
          refine aw_srH fun K hK => ?_
          (try simp only [go_sem, hlt])
          refine IsK.go (by assumption) ?_
          refine aw_seqH fun Q hQ => ?_
          refine aw_cond rfl (fun hc => ?_) (fun hc => ?_)
          rotate_left; · cases hc
          refine aw_skip ?_
          (repeat (refine IsQ.go (by assumption) ?_; (try dsimp only); (try simp only [reduceCtorEq, E0])))
          refine aw_seqH fun Q hQ => ?_
          refine aw_blockH fun Q hQ => ?_
          refine aw_srH fun K hK => ?_
          (try simp only [go_sem, hx])
          refine IsK.go (by assumption) ?_
          refine aw_srH fun K hK => ?_
          (try simp only [go_sem])
          refine IsK.go (by assumption) ?_
          refine aw_srH fun K hK => ?_
          (try simp only [go_sem])
          refine IsK.go (by assumption) ?_
          refine aw_joinK hF (fun (n108 : Int) => ⟨[(1, .bp 0 0), (3, .os 1 0 l101.length), (5, .bp 2 0), (6, .p (vi n89)), (8, .bp 3 0), (10, .p (vi (if x4.Day < ((mget kEqS x96.Advisory v0.known).getD (T_api_Published.mk str_ 0 0)).Day then ((mget kEqS x96.Advisory v0.known).getD (T_api_Published.mk str_ 0 0)).Day else x4.Day))), (11, .p (vi n108)), (14, .p (.sl (v0.s.Releases.map T_api_Release.c))), (15, .p (vi (v0.s.Releases.length : Int))), (16, .p (vi (i1 : Int))), (40, .p (.sl (x4.Exposures.map T_api_Exposure.c))), (41, .p (vi (x4.Exposures.length : Int))), (42, .p (vi (i93 : Int)))], [(3, .cells [.p (vs x96.Advisory.b), .p (vs x96.Component.b), .p (vi x96.Severity)]), (2, .cells [.p (vs x4.Version.b), .p (vi x4.Day), .p (.sl (x4.Exposures.map T_api_Exposure.c))]), (1, .slice (l101.map T_provenderref11_stretch.c)), (0, .cells [.p (vs v0.s.Product.b), .p (.sl (v0.s.Releases.map T_api_Release.c)), .p (.sl (v0.s.Known.map T_api_Published.c)), .p (vi v0.s.Until), .p (.mp (v0.known.map (cM kS (pA T_api_Published.c))))])], 5⟩) ?_ ?_
          · intro z109 hF hr109 Q hQ
            refine aw_srH fun K hK => ?_
            (try simp only [go_sem])
            refine IsK.go (by assumption) ?_
            refine aw_cond rfl (fun hc => ?_) (fun hc => ?_)
            · replace hF := if_t hc hF
              refine aw_region ?_
              (try simp only [go_sem])
              (repeat (refine IsQ.go (by assumption) ?_; (try dsimp only); (try simp only [reduceCtorEq, E0])))
              cases hF
              exact ⟨_, rfl, (Upd.sub (show 5 ≤ 5 by decide) (by simp [go_sem, envSub, Env.get]) (by simp [go_sem, heapSub, Heap.get, belowO]))⟩
            · replace hF := if_f hc hF
              refine aw_skip ?_
              (repeat (refine IsQ.go (by assumption) ?_; (try dsimp only); (try simp only [reduceCtorEq, E0])))
              cases hF
              exact ⟨_, rfl, (Upd.sub (show 5 ≤ 5 by decide) (by simp [go_sem, envSub, Env.get]) (by simp [go_sem, heapSub, Heap.get, belowO]))⟩
          rintro n108 hF
          (try dsimp only at hF ⊢)
          refine aw_srH fun K hK => ?_
          (try simp only [go_sem])
          refine IsK.go (by assumption) ?_
          refine aw_cond rfl (fun hc => ?_) (fun hc => ?_)
          · replace hF := if_t hc hF
            obtain ⟨l110, h111, hF⟩ := bind_some hF
            obtain ⟨h111, h111v⟩ := app_some h111; (try simp only [go_sem] at h111)
            refine aw_region ?_
            (try simp only [go_sem, h111])
            (repeat (refine IsQ.go (by assumption) ?_; (try dsimp only); (try simp only [reduceCtorEq, E0])))
            refine aw_region ?_
            (try simp only [go_sem, hw94])
            (repeat (refine IsQ.go (by assumption) ?_; (try dsimp only); (try simp only [reduceCtorEq, E0])))
            cases hF
            exact ⟨_, rfl, (Upd.sub (show 3 ≤ 3 by decide) (by simp [go_sem, envSub, Env.get, h111v]) (by simp [go_sem, heapSub, Heap.get, belowO, h111v]))⟩
          · replace hF := if_f hc hF
            refine aw_skip ?_
            (repeat (refine IsQ.go (by assumption) ?_; (try dsimp only); (try simp only [reduceCtorEq, E0])))
            refine aw_region ?_
            (try simp only [go_sem, hw94])
            (repeat (refine IsQ.go (by assumption) ?_; (try dsimp only); (try simp only [reduceCtorEq, E0])))
            cases hF
            exact ⟨_, rfl, (Upd.sub (show 3 ≤ 3 by decide) (by simp [go_sem, envSub, Env.get]) (by simp [go_sem, heapSub, Heap.get, belowO]))⟩
      rintro l106 hF
      (try dsimp only at hF ⊢)
      (repeat (refine IsQ.go (by assumption) ?_; (try dsimp only); (try simp only [reduceCtorEq, E0])))
      refine aw_region ?_
      (try simp only [go_sem, hw2])
      (repeat (refine IsQ.go (by assumption) ?_; (try dsimp only); (try simp only [reduceCtorEq, E0])))
      cases hF
      exact ⟨_, rfl, (Upd.sub (show 2 ≤ 2 by decide) (by simp [go_sem, envSub, Env.get]) (by simp [go_sem, heapSub, Heap.get, belowO]))⟩
  rintro l85 hF
  (try dsimp only at hF ⊢)
  (repeat (refine IsQ.go (by assumption) ?_; (try dsimp only); (try simp only [reduceCtorEq, E0])))
  refine aw_srH fun K hK => ?_
  (try simp only [go_sem])
  refine IsK.go (by assumption) ?_
  refine aw_ret ?_
  (repeat (refine IsQ.go (by assumption) ?_; (try dsimp only); (try simp only [reduceCtorEq, E0])))
  cases hF
  simp only [go_sem]
theorem ref11_windowBefore_ok {v0 : T_api_Window} {v1 : T_api_Window} {r0} (hF : ref11_windowBefore v0 v1 = some r0) : APure Try.prog 147 [.p (.agg [vs v0.Advisory.b, vs v0.Component.b, vi v0.Severity, vi v0.From, vi v0.To, vb v0.Open]), .p (.agg [vs v1.Advisory.b, vs v1.Component.b, vi v1.Severity, vi v1.From, vi v1.To, vb v1.Open])] (.p (vb r0)) := by
  refine apureZ 2 rc147_ok rfl ?_
  simp only [rc147, argEnv, Nat.reduceAdd]
  unfold ref11_windowBefore at hF
  refine aw_srH fun K hK => ?_
  (try simp only [go_sem])
  refine IsK.go (by assumption) ?_
  refine aw_sx2 10 11 (by decide) [0, 1, 2, 3, 4, 5, 6, 7, 8, 9, 11, 10, 12, 13] (by decide) (by intro i; simp [List.mem_cons]; omega) (by rfl) (fun K hK => ?_) (fun K hK => ?_)
  · (try simp only [go_sem])
    refine IsK.go (by assumption) ?_
    refine And.intro (And.intro (SoftOK.rw (by rfl) (by rfl) (soft_n (by rfl))) (And.intro (SoftOK.rw (by rfl) (by rfl) (soft_n (by rfl))) (And.intro (SoftOK.rw (by rfl) (by rfl) (soft_n (by rfl))) (And.intro (SoftOK.rw (by rfl) (by rfl) (soft_n (by rfl))) (And.intro (SoftOK.rw (by rfl) (by rfl) (soft_n (by rfl))) (And.intro (SoftOK.rw (by rfl) (by rfl) (soft_n (by rfl))) (And.intro (SoftOK.rw (by rfl) (by rfl) (soft_n (by rfl))) (And.intro (SoftOK.rw (by rfl) (by rfl) (soft_n (by rfl))) (And.intro (SoftOK.rw (by rfl) (by rfl) (soft_n (by rfl))) (And.intro (SoftOK.rw (by rfl) (by rfl) (soft_n (by rfl))) (And.intro (SoftOK.rw (by rfl) (by rfl) (soft_n (by rfl))) (And.intro (SoftOK.rw (by rfl) (by rfl) (soft_n (by rfl))) (And.intro (SoftOK.rw (by rfl) (by rfl) (soft_n (by rfl))) (And.intro (SoftOK.rw (by rfl) (by rfl) (soft_n (by rfl))) (And.intro (SoftOK.rw (by rfl) (by rfl) (soft_n (by rfl))) (And.intro (SoftOK.rw (by rfl) (by rfl) (soft_n (by rfl))) (And.intro (SoftOK.rw (by rfl) (by rfl) (soft_n (by rfl))) (And.intro (SoftOK.rw (by rfl) (by rfl) (soft_n (by rfl))) (And.intro (SoftOK.rw (by rfl) (by rfl) (soft_n (by rfl))) (And.intro (SoftOK.rw (by rfl) (by rfl) (soft_n (by rfl))) trivial)))))))))))))))))))) ?_
    obtain ⟨b5, h6, hF⟩ := bind_some hF
    refine aw_srJ ⟨[(4, .p (vb b5))], [], 4⟩ (fun K hK => ?_) ?_
    · (try simp only [go_sem])
      (try simp only [go_sem])
      refine vOps_split rfl ?_ ?_ <;> intro hg7 <;> (try simp only [hg7, go_sem])
      · simp only [hg7, gbS] at h6
        cases h6
        (try simp only [go_sem, hg7])
        refine IsK.go (by assumption) ?_
        exact (Upd.sub (show 4 ≤ 4 by decide) (by simp [go_sem, envSub, Env.get] <;> ((try simp only [decide_eq_true_eq, decide_eq_false_iff_not] at hg7); omega)) trivial)
      · simp only [hg7, gbS] at h6
        obtain ⟨b10, h11, h6⟩ := bind_some h6
        (try simp only [go_sem, hg7])
        refine vOps_split rfl ?_ ?_ <;> intro hg12 <;> (try simp only [hg12, go_sem])
        · simp only [hg12, gbS] at h11
          obtain ⟨y13, h14, h11⟩ := bind_some h11
          (try simp only [go_sem, hg7, hg12])
          refine call_pure (ref11_before_ok h14) rfl (by simp only [go_sem]) (by simp only [go_sem]) ?_
          (try dsimp only); (try simp only [go_sem, hg7, hg12])
          cases h11
          cases h6
          (try simp only [go_sem, hg7, hg12])
          refine IsK.go (by assumption) ?_
          exact (Upd.sub (show 4 ≤ 4 by decide) (by simp [go_sem, envSub, Env.get] <;> ((try simp only [decide_eq_true_eq, decide_eq_false_iff_not] at hg7); (try simp only [decide_eq_true_eq, decide_eq_false_iff_not] at hg12); omega)) trivial)
        · simp only [hg12, gbS] at h11
          cases h11
          cases h6
          (try simp only [go_sem, hg7, hg12])
          refine IsK.go (by assumption) ?_
          exact (Upd.sub (show 4 ≤ 4 by decide) (by simp [go_sem, envSub, Env.get] <;> ((try simp only [decide_eq_true_eq, decide_eq_false_iff_not] at hg7); (try simp only [decide_eq_true_eq, decide_eq_false_iff_not] at hg12); omega)) trivial)
    refine aw_ret ?_
    (repeat (refine IsQ.go (by assumption) ?_; (try dsimp only); (try simp only [reduceCtorEq, E0])))
    cases hF
    simp only [go_sem]
  · simp only [List.filterMap_cons, List.filterMap_nil, List.getElem?_cons_zero, List.getElem?_cons_succ]
    (try simp only [go_sem])
    refine IsK.go (by assumption) ?_
    refine And.intro (And.intro (SoftOK.rw (by rfl) (by rfl) (soft_n (by rfl))) (And.intro (SoftOK.rw (by rfl) (by rfl) (soft_n (by rfl))) (And.intro (SoftOK.rw (by rfl) (by rfl) (soft_n (by rfl))) (And.intro (SoftOK.rw (by rfl) (by rfl) (soft_n (by rfl))) (And.intro (SoftOK.rw (by rfl) (by rfl) (soft_n (by rfl))) (And.intro (SoftOK.rw (by rfl) (by rfl) (soft_n (by rfl))) (And.intro (SoftOK.rw (by rfl) (by rfl) (soft_n (by rfl))) (And.intro (SoftOK.rw (by rfl) (by rfl) (soft_n (by rfl))) (And.intro (SoftOK.rw (by rfl) (by rfl) (soft_n (by rfl))) (And.intro (SoftOK.rw (by rfl) (by rfl) (soft_n (by rfl))) (And.intro (SoftOK.rw (by rfl) (by rfl) (soft_n (by rfl))) (And.intro (SoftOK.rw (by rfl) (by rfl) (soft_n (by rfl))) (And.intro (SoftOK.rw (by rfl) (by rfl) (soft_n (by rfl))) (And.intro (SoftOK.rw (by rfl) (by rfl) (soft_n (by rfl))) (And.intro (SoftOK.rw (by rfl) (by rfl) (soft_n (by rfl))) (And.intro (SoftOK.rw (by rfl) (by rfl) (soft_n (by rfl))) (And.intro (SoftOK.rw (by rfl) (by rfl) (soft_n (by rfl))) (And.intro (SoftOK.rw (by rfl) (by rfl) (soft_n (by rfl))) (And.intro (SoftOK.rw (by rfl) (by rfl) (soft_n (by rfl))) (And.intro (SoftOK.rw (by rfl) (by rfl) (soft_n (by rfl))) trivial)))))))))))))))))))) ?_
    obtain ⟨b19, h20, hF⟩ := bind_some hF
    refine aw_srJ ⟨[(4, .p (vb b19))], [], 4⟩ (fun K hK => ?_) ?_
    · (try simp only [go_sem])
      (try simp only [go_sem])
      refine vOps_split rfl ?_ ?_ <;> intro hg21 <;> (try simp only [hg21, go_sem])
      · simp only [hg21, gbS] at h20
        cases h20
        (try simp only [go_sem, hg21])
        refine IsK.go (by assumption) ?_
        exact (Upd.sub (show 4 ≤ 4 by decide) (by simp [go_sem, envSub, Env.get] <;> ((try simp only [decide_eq_true_eq, decide_eq_false_iff_not] at hg21); omega)) trivial)
      · simp only [hg21, gbS] at h20
        obtain ⟨b24, h25, h20⟩ := bind_some h20
        (try simp only [go_sem, hg21])
        refine vOps_split rfl ?_ ?_ <;> intro hg26 <;> (try simp only [hg26, go_sem])
        · simp only [hg26, gbS] at h25
          obtain ⟨y27, h28, h25⟩ := bind_some h25
          (try simp only [go_sem, hg21, hg26])
          refine call_pure (ref11_before_ok h28) rfl (by simp only [go_sem]) (by simp only [go_sem]) ?_
          (try dsimp only); (try simp only [go_sem, hg21, hg26])
          cases h25
          cases h20
          (try simp only [go_sem, hg21, hg26])
          refine IsK.go (by assumption) ?_
          exact (Upd.sub (show 4 ≤ 4 by decide) (by simp [go_sem, envSub, Env.get] <;> ((try simp only [decide_eq_true_eq, decide_eq_false_iff_not] at hg21); (try simp only [decide_eq_true_eq, decide_eq_false_iff_not] at hg26); omega)) trivial)
        · simp only [hg26, gbS] at h25
          cases h25
          cases h20
          (try simp only [go_sem, hg21, hg26])
          refine IsK.go (by assumption) ?_
          exact (Upd.sub (show 4 ≤ 4 by decide) (by simp [go_sem, envSub, Env.get] <;> ((try simp only [decide_eq_true_eq, decide_eq_false_iff_not] at hg21); (try simp only [decide_eq_true_eq, decide_eq_false_iff_not] at hg26); omega)) trivial)
    refine aw_ret ?_
    (repeat (refine IsQ.go (by assumption) ?_; (try dsimp only); (try simp only [reduceCtorEq, E0])))
    cases hF
    simp only [go_sem]
theorem ref11_sorted_ok {fuel : Nat} {v0 : List T_api_Window} {r0} (hF : ref11_sorted fuel v0 = some r0) : APure Try.prog 133 [.p (.sl (v0.map T_api_Window.c))] (.p (.sl (r0.map T_api_Window.c))) := by
  induction fuel generalizing v0 r0 with
  | zero => unfold ref11_sorted at hF; cases hF
  | succ fuel ih =>
  refine apureZ 2 rc133_ok rfl ?_
  simp only [rc133, argEnv]
  unfold ref11_sorted at hF
  refine aw_srH fun K hK => ?_
  (try simp only [go_sem])
  refine IsK.go (by assumption) ?_
  refine aw_seqH fun Q hQ => ?_
  refine aw_srH fun K hK => ?_
  (try simp only [go_sem])
  refine IsK.go (by assumption) ?_
  refine aw_cond rfl (fun hc => ?_) (fun hc => ?_)
  · replace hF := if_t hc hF
    refine aw_srH fun K hK => ?_
    (try simp only [go_sem])
    refine IsK.go (by assumption) ?_
    refine aw_ret ?_
    (repeat (refine IsQ.go (by assumption) ?_; (try dsimp only); (try simp only [reduceCtorEq, E0])))
    cases hF
    simp only [go_sem]
  · replace hF := if_f hc hF
    refine aw_skip ?_
    (repeat (refine IsQ.go (by assumption) ?_; (try dsimp only); (try simp only [reduceCtorEq, E0])))
    have h1 : ((2 : Int) = 0) = False := by decide
    obtain ⟨l2, h3, hF⟩ := bind_some hF
    obtain ⟨h3, h3v⟩ := lslice_some h3; (try simp only [go_sem] at h3)
    obtain ⟨y4, h5, hF⟩ := bind_some hF
    have h6 : ((2 : Int) = 0) = False := by decide
    obtain ⟨l7, h8, hF⟩ := bind_some hF
    obtain ⟨h8, h8v⟩ := lslice_some h8; (try simp only [go_sem] at h8)
    obtain ⟨y9, h10, hF⟩ := bind_some hF
    refine aw_sdH fun K hK => ?_
    (try simp only [go_sem, h1, h3])
    refine ⟨_, call_pure (ih h5) (by first | rfl | simp only [go_sem, h3v, List.map_take, w64]) (by simp only [go_sem]) (by simp only [go_sem]) ⟨rfl, rfl, rfl⟩, ?_⟩
    (try dsimp only); (try simp only [go_sem, h1, h3, h3v, h6, h8, h8v])
    refine ⟨_, call_pure (ih h10) (by first | rfl | simp only [go_sem, h8v, List.map_take, List.map_drop, w64]) (by simp only [go_sem]) (by simp only [go_sem]) ⟨rfl, rfl, rfl⟩, ?_⟩
    (try dsimp only); (try simp only [go_sem, h1, h3, h3v, h6, h8, h8v])
    refine IsK.go (by assumption) ?_
    refine aw_srH fun K hK => ?_
    (try simp only [go_sem])
    refine IsK.go (by assumption) ?_
    refine aw_seqH fun Q hQ => ?_
    refine aw_upd (Upd.ownTmp _ 5 rfl) ?_; dsimp only
    refine aw_joinX hF (fun (l80 : (List T_api_Window)) => ⟨[(5, .os 0 0 l80.length)], [(0, .slice (l80.map T_api_Window.c))], 1⟩) ?_ ?_
    · intro y81 hF hj81 Q hQ
      refine aw_blockH fun Q hQ => ?_
      refine aw_loopK hF (fun ((l55, l56, l57) : (List T_api_Window) × (List T_api_Window) × (List T_api_Window)) => ⟨[(3, .p (.sl (l55.map T_api_Window.c))), (4, .p (.sl (l56.map T_api_Window.c))), (5, .os 0 0 l57.length)], [(0, .slice (l57.map T_api_Window.c))], 1⟩) (Upd.sub (show 1 ≤ 1 by decide) (by simp [go_sem, envSub, Env.get]) (by simp [go_sem, heapSub, Heap.get, belowO])) ?_
      rintro ⟨l55, l56, l57⟩ z81 hF hb81 hr81 Q hQ
      (try dsimp only at hF ⊢)
      refine aw_seqH fun Q hQ => ?_
      refine aw_srJ ⟨[(3, .p (.sl (l55.map T_api_Window.c))), (4, .p (.sl (l56.map T_api_Window.c))), (5, .os 0 0 l57.length), (29, .p (vb ((decide ((l55.length : Int) > 0)) || (decide ((l56.length : Int) > 0)))))], [(0, .slice (l57.map T_api_Window.c))], 1⟩ (fun K hK => ?_) ?_
      · (try simp only [go_sem])
        (try simp only [go_sem])
        refine vOps_split rfl ?_ ?_ <;> intro hg82 <;> (try simp only [hg82, go_sem])
        · (try simp only [go_sem, hg82])
          refine IsK.go (by assumption) ?_
          exact (Upd.sub (show 1 ≤ 1 by decide) (by simp [go_sem, envSub, Env.get] <;> ((try simp only [decide_eq_true_eq] at hg82); omega)) (by simp [go_sem, heapSub, Heap.get, belowO] <;> ((try simp only [decide_eq_true_eq, decide_eq_false_iff_not] at hg82); omega)))
        · (try simp only [go_sem, hg82])
          refine IsK.go (by assumption) ?_
          exact (Upd.sub (show 1 ≤ 1 by decide) (by simp [go_sem, envSub, Env.get] <;> ((try simp only [decide_eq_false_iff_not] at hg82); omega)) (by simp [go_sem, heapSub, Heap.get, belowO] <;> ((try simp only [decide_eq_true_eq, decide_eq_false_iff_not] at hg82); omega)))
      refine aw_cond rfl (fun hc => ?_) (fun hc => ?_)
      · replace hF := if_t hc hF
        refine aw_skip ?_
        (repeat (refine IsQ.go (by assumption) ?_; (try dsimp only); (try simp only [reduceCtorEq, E0])))
        refine aw_blockH fun Q hQ => ?_
        obtain ⟨b91, h92, hF⟩ := bind_some hF
        refine aw_sdJ ⟨[(3, .p (.sl (l55.map T_api_Window.c))), (4, .p (.sl (l56.map T_api_Window.c))), (5, .os 0 0 l57.length), (46, .p (vb b91))], [(0, .slice (l57.map T_api_Window.c))], 1⟩ (fun K hK => ?_) ?_
        · (try simp only [go_sem])
          (try simp only [go_sem])
          refine vD_split rfl ?_ ?_ <;> intro hg93 <;> (try simp only [hg93, go_sem])
          · simp only [hg93, gbS] at h92
            cases h92
            (try simp only [go_sem, hg93])
            refine IsK.go (by assumption) ?_
            exact (Upd.sub (show 1 ≤ 1 by decide) (by simp [go_sem, envSub, Env.get] <;> ((try simp only [decide_eq_true_eq, decide_eq_false_iff_not] at hg93); omega)) (by simp [go_sem, heapSub, Heap.get, belowO] <;> ((try simp only [decide_eq_true_eq, decide_eq_false_iff_not] at hg93); omega)))
          · simp only [hg93, gbS] at h92
            obtain ⟨b100, h101, h92⟩ := bind_some h92
            (try simp only [go_sem, hg93])
            refine vD_split rfl ?_ ?_ <;> intro hg102 <;> (try simp only [hg102, go_sem])
            · simp only [hg102, gbS] at h101
              obtain ⟨x103, h104, h101⟩ := bind_some h101
              replace h104 := idx_map T_api_Window.c h104; (try simp only [go_sem] at h104)
              obtain ⟨x105, h106, h101⟩ := bind_some h101
              replace h106 := idx_map T_api_Window.c h106; (try simp only [go_sem] at h106)
              obtain ⟨y107, h108, h101⟩ := bind_some h101
              (try simp only [go_sem, h104, h106])
              refine ⟨_, call_pure (ref11_windowBefore_ok h108) rfl (by simp only [go_sem]) (by simp only [go_sem]) ⟨rfl, rfl, rfl⟩, ?_⟩
              (try dsimp only); (try simp only [go_sem, h104, h106, hg93, hg102])
              cases h101
              cases h92
              (try simp only [go_sem, h104, h106, hg93, hg102])
              refine IsK.go (by assumption) ?_
              exact (Upd.sub (show 1 ≤ 1 by decide) (by simp [go_sem, envSub, Env.get] <;> ((try simp only [decide_eq_true_eq, decide_eq_false_iff_not] at hg93); (try simp only [decide_eq_true_eq, decide_eq_false_iff_not] at hg102); omega)) (by simp [go_sem, heapSub, Heap.get, belowO] <;> ((try simp only [decide_eq_true_eq, decide_eq_false_iff_not] at hg93); (try simp only [decide_eq_true_eq, decide_eq_false_iff_not] at hg102); omega)))
            · simp only [hg102, gbS] at h101
              cases h101
              cases h92
              (try simp only [go_sem, hg93, hg102])
              refine IsK.go (by assumption) ?_
              exact (Upd.sub (show 1 ≤ 1 by decide) (by simp [go_sem, envSub, Env.get] <;> ((try simp only [decide_eq_true_eq, decide_eq_false_iff_not] at hg93); (try simp only [decide_eq_true_eq, decide_eq_false_iff_not] at hg102); omega)) (by simp [go_sem, heapSub, Heap.get, belowO] <;> ((try simp only [decide_eq_true_eq, decide_eq_false_iff_not] at hg93); (try simp only [decide_eq_true_eq, decide_eq_false_iff_not] at hg102); omega)))
        refine aw_cond rfl (fun hc => ?_) (fun hc => ?_)
        · replace hF := if_t hc hF
          obtain ⟨x109, h110, hF⟩ := bind_some hF
          replace h110 := idx_map T_api_Window.c h110; (try simp only [go_sem] at h110)
          obtain ⟨l111, h112, hF⟩ := bind_some hF
          obtain ⟨h112, h112v⟩ := app_some h112; (try simp only [go_sem] at h112)
          obtain ⟨l113, h114, hF⟩ := bind_some hF
          obtain ⟨h114, h114v⟩ := lslice_some h114; (try simp only [go_sem] at h114)
          refine aw_x ?_
          (try simp only [go_sem, h110, h112, h114])
          refine And.intro (And.intro (SoftOK.wr (by rfl) (by rfl) (soft_n (by rfl))) (And.intro (SoftOK.wr (by rfl) (by rfl) (soft_n (by rfl))) trivial)) ?_
          (repeat (refine IsQ.go (by assumption) ?_; (try dsimp only); (try simp only [reduceCtorEq, E0])))
          cases hF
          exact ⟨_, rfl, (Upd.sub (show 1 ≤ 1 by decide) (by simp [go_sem, envSub, Env.get, h112v, h114v]) (by simp [go_sem, heapSub, Heap.get, belowO, h112v]))⟩
        · replace hF := if_f hc hF
          obtain ⟨x115, h116, hF⟩ := bind_some hF
          replace h116 := idx_map T_api_Window.c h116; (try simp only [go_sem] at h116)
          obtain ⟨l117, h118, hF⟩ := bind_some hF
          obtain ⟨h118, h118v⟩ := app_some h118; (try simp only [go_sem] at h118)
          obtain ⟨l119, h120, hF⟩ := bind_some hF
          obtain ⟨h120, h120v⟩ := lslice_some h120; (try simp only [go_sem] at h120)
          refine aw_x ?_
          (try simp only [go_sem, h116, h118, h120])
          refine And.intro (And.intro (SoftOK.wr (by rfl) (by rfl) (soft_n (by rfl))) (And.intro (SoftOK.wr (by rfl) (by rfl) (soft_n (by rfl))) trivial)) ?_
          (repeat (refine IsQ.go (by assumption) ?_; (try dsimp only); (try simp only [reduceCtorEq, E0])))
          cases hF
          exact ⟨_, rfl, (Upd.sub (show 1 ≤ 1 by decide) (by simp [go_sem, envSub, Env.get, h118v, h120v]) (by simp [go_sem, heapSub, Heap.get, belowO, h118v]))⟩
      · replace hF := if_f hc hF
        refine aw_exit ?_
        (repeat (refine IsQ.go (by assumption) ?_; (try dsimp only); (try simp only [E0])))
        cases hF
        exact ⟨_, hb81 _ rfl, (Upd.sub (show 1 ≤ 1 by decide) (by simp [go_sem, envSub, Env.get]) (by simp [go_sem, heapSub, Heap.get, belowO]))⟩
    rintro l80 hF
    (try dsimp only at hF ⊢)
    (repeat (refine IsQ.go (by assumption) ?_; (try dsimp only); (try simp only [reduceCtorEq, E0])))
    refine aw_srH fun K hK => ?_
    (try simp only [go_sem])
    refine IsK.go (by assumption) ?_
    refine aw_ret ?_
    (repeat (refine IsQ.go (by assumption) ?_; (try dsimp only); (try simp only [reduceCtorEq, E0])))
    cases hF
    first | (simp only [go_sem]; done) | simp only [go_sem, h3v, h8v]
theorem ref11_windows_ok {fuel : Nat} {v0 : T_api_Story} {r0} (hF : ref11_windows fuel v0 = some r0) : APure Try.prog 98 [.p (.agg [vs v0.Product.b, .sl (v0.Releases.map T_api_Release.c), .sl (v0.Known.map T_api_Published.c), vi v0.Until])] (.p (.sl (r0.map T_api_Window.c))) := by
  refine apureZ 2 rc98_ok rfl ?_
  simp only [rc98, argEnv]
  unfold ref11_windows at hF
  refine aw_srH fun K hK => ?_
  (try simp only [go_sem])
  refine IsK.go (by assumption) ?_
  refine aw_srH fun K hK => ?_
  (try simp only [go_sem])
  refine IsK.go (by assumption) ?_
  refine aw_srH fun K hK => ?_
  (try simp only [go_sem])
  refine IsK.go (by assumption) ?_
  refine aw_seqH fun Q hQ => ?_
  obtain ⟨y1, h2, hF⟩ := bind_some hF
  obtain ⟨y3, h4, hF⟩ := bind_some hF
  refine aw_srH fun K hK => ?_
  (try simp only [go_sem])
  refine call_pure (ref11_viewOf_ok h2) rfl (by simp only [go_sem]) (by simp only [go_sem]) ?_
  (try dsimp only); (try simp only [go_sem])
  refine call_pure (ref11_view_stretches_ok h4) rfl (by simp only [go_sem]) (by simp only [go_sem]) ?_
  (try dsimp only); (try simp only [go_sem])
  refine IsK.go (by assumption) ?_
  refine aw_upd (Upd.ownTmp _ 3 rfl) ?_; dsimp only
  refine aw_joinX hF (fun (l37 : (List T_api_Window)) => ⟨[(1, .bp 0 0), (3, .os 2 0 l37.length)], [(2, .slice (l37.map T_api_Window.c)), (0, .cells [.p (vs v0.Product.b), .p (.sl (v0.Releases.map T_api_Release.c)), .p (.sl (v0.Known.map T_api_Published.c)), .p (vi v0.Until)])], 3⟩) ?_ ?_
  · intro y38 hF hj38 Q hQ
    refine aw_blockH fun Q hQ => ?_
    refine aw_fact 13 rfl (fun _ _ => sl_lim) fun hl7 => ?_; simp only [List.length_map, top] at hl7
    refine aw_forL hF (fun i5 (m25, l26) => ⟨[(1, .bp 0 0), (3, .os 2 0 l26.length), (4, .mp 1), (13, .p (.sl (y3.map T_provenderref11_stretch.c))), (14, .p (vi (y3.length : Int))), (15, .p (vi (i5 : Int)))], [(2, .slice (l26.map T_api_Window.c)), (1, .map (m25.map (cM (pA T_api_Exposure.c) pI))), (0, .cells [.p (vs v0.Product.b), .p (.sl (v0.Releases.map T_api_Release.c)), .p (.sl (v0.Known.map T_api_Published.c)), .p (vi v0.Until)])], 3⟩) (Upd.sub (show 3 ≤ 3 by decide) (by simp [go_sem, envSub, Env.get]) (by simp [go_sem, heapSub, Heap.get, belowO])) ?_ ?_
    · rintro ⟨m25, l26⟩ hy Q hQ
      (try dsimp only at hy ⊢)
      have hlt : decide (((y3.length : Int) : Int) < (y3.length : Int)) = false := by simp
      refine aw_srH fun K hK => ?_
      (try simp only [go_sem, hlt])
      refine IsK.go (by assumption) ?_
      refine aw_seqH fun Q hQ => ?_
      refine aw_cond rfl (fun hc => ?_) (fun hc => ?_)
      · cases hc
      refine aw_exit ?_
      (repeat (refine IsQ.go (by assumption) ?_; (try dsimp only); (try simp only [E0])))
      exact ⟨_, hy, (Upd.sub (show 3 ≤ 3 by decide) (by simp [go_sem, envSub, Env.get]) (by simp [go_sem, heapSub, Heap.get, belowO]))⟩
    · rintro i5 x8 ⟨m25, l26⟩ z38 hi hx hF hb38 hr38 Q hQ
      (try dsimp only at hF ⊢)
      have hlt : decide ((i5 : Int) < (y3.length : Int)) = true := by simp; omega
      have hw6 : IntKind.i64.wrap ((i5 : Int) + 1) = ((i5 + 1 : Nat) : Int) := by rw [wrap64 (by omega) (by omega)]; simp
      refine aw_srH fun K hK => ?_
      (try simp only [go_sem, hlt])
      refine IsK.go (by assumption) ?_
      refine aw_seqH fun Q hQ => ?_
      refine aw_cond rfl (fun hc => ?_) (fun hc => ?_)
      rotate_left; · cases hc
      refine aw_skip ?_
      (repeat (refine IsQ.go (by assumption) ?_; (try dsimp only); (try simp only [reduceCtorEq, E0])))
      refine aw_seqH fun Q hQ => ?_
      refine aw_blockH fun Q hQ => ?_
      refine aw_srH fun K hK => ?_
      (try simp only [go_sem, hx])
      refine IsK.go (by assumption) ?_
      refine aw_srH fun K hK => ?_
      (try simp only [go_sem])
      refine IsK.go (by assumption) ?_
      refine aw_srH fun K hK => ?_
      (try simp only [go_sem])
      refine IsK.go (by assumption) ?_
      refine aw_seqH fun Q hQ => ?_
      refine aw_srH fun K hK => ?_
      (try simp only [go_sem])
      refine IsK.go (by assumption) ?_
      obtain ⟨b41, h42, hF⟩ := bind_some hF
      refine aw_sdJ ⟨[(1, .bp 0 0), (3, .os 2 0 l26.length), (4, .mp 1), (6, .bp 3 0), (7, .bp 4 0), (8, .p (vi ((mget T_api_Exposure.keq (T_api_Exposure.mk x8.x.Advisory x8.x.Component 0) m25).getD 0))), (13, .p (.sl (y3.map T_provenderref11_stretch.c))), (14, .p (vi (y3.length : Int))), (15, .p (vi (i5 : Int))), (37, .p (vb b41))], [(4, .cells [.p (vs x8.x.Advisory.b), .p (vs x8.x.Component.b), .p (vi 0)]), (3, .cells [.p (vs x8.x.Advisory.b), .p (vs x8.x.Component.b), .p (vi x8.x.Severity), .p (vi x8.from'), .p (vi x8.to')]), (2, .slice (l26.map T_api_Window.c)), (1, .map (m25.map (cM (pA T_api_Exposure.c) pI))), (0, .cells [.p (vs v0.Product.b), .p (.sl (v0.Releases.map T_api_Release.c)), .p (.sl (v0.Known.map T_api_Published.c)), .p (vi v0.Until)])], 5⟩ (fun K hK => ?_) ?_
      · (try simp only [go_sem])
        (try simp only [go_sem])
        refine vD_split rfl ?_ ?_ <;> intro hg43 <;> (try simp only [hg43, go_sem])
        · simp only [hg43, gbS] at h42
          obtain ⟨x44, h45, h42⟩ := bind_some h42
          replace h45 := idx_map T_api_Window.c h45; (try simp only [go_sem] at h45)
          cases h42
          (try simp only [go_sem, h45])
          refine IsK.go (by assumption) ?_
          exact (Upd.sub (show 5 ≤ 5 by decide) (by simp [go_sem, envSub, Env.get] <;> ((try simp only [decide_eq_true_eq, decide_eq_false_iff_not] at hg43); omega)) (by simp [go_sem, heapSub, Heap.get, belowO] <;> ((try simp only [decide_eq_true_eq, decide_eq_false_iff_not] at hg43); omega)))
        · simp only [hg43, gbS] at h42
          cases h42
          (try simp only [go_sem, hg43])
          refine IsK.go (by assumption) ?_
          exact (Upd.sub (show 5 ≤ 5 by decide) (by simp [go_sem, envSub, Env.get] <;> ((try simp only [decide_eq_true_eq, decide_eq_false_iff_not] at hg43); omega)) (by simp [go_sem, heapSub, Heap.get, belowO] <;> ((try simp only [decide_eq_true_eq, decide_eq_false_iff_not] at hg43); omega)))
      refine aw_cond rfl (fun hc => ?_) (fun hc => ?_)
      · replace hF := if_t hc hF
        obtain ⟨x46, h47, hF⟩ := bind_some hF
        replace h47 := idx_map T_api_Window.c h47; (try simp only [go_sem] at h47)
        obtain ⟨x48, h49, hF⟩ := bind_some hF
        replace h49 := idx_map T_api_Window.c h49; (try simp only [go_sem, List.map_set] at h49)
        refine aw_sxH fun K hK => ?_
        refine vD_cut 9 fun K hK => ?_
        (try simp only [go_sem])
        refine IsK.go (by assumption) ?_
        (try simp only [go_sem, h47, h49])
        refine IsK.go (by assumption) ?_
        refine And.intro (And.intro (SoftOK.rw (by rfl) (by rfl) (soft_n (by rfl))) (And.intro (SoftOK.rw (by rfl) (by rfl) (soft_n (by rfl))) (And.intro (SoftOK.rw (by rfl) (by rfl) (soft_n (by rfl))) trivial))) ?_
        refine aw_exit ?_
        (repeat (refine IsQ.go (by assumption) ?_; (try dsimp only); (try simp only [E0])))
        refine aw_region ?_
        (try simp only [go_sem, hw6])
        (repeat (refine IsQ.go (by assumption) ?_; (try dsimp only); (try simp only [reduceCtorEq, E0])))
        cases hF
        exact ⟨_, rfl, (Upd.sub (show 3 ≤ 3 by decide) (by simp [go_sem, envSub, Env.get]) (by simp [go_sem, heapSub, Heap.get, belowO]))⟩
      · replace hF := if_f hc hF
        refine aw_skip ?_
        (repeat (refine IsQ.go (by assumption) ?_; (try dsimp only); (try simp only [reduceCtorEq, E0])))
        obtain ⟨l50, h51, hF⟩ := bind_some hF
        obtain ⟨h51, h51v⟩ := app_some h51; (try simp only [go_sem] at h51)
        refine aw_srH fun K hK => ?_
        refine vOps_cut 8 fun K hK => ?_
        (try simp only [go_sem])
        refine IsK.go (by assumption) ?_
        (try simp only [go_sem, h51])
        refine IsK.go (by assumption) ?_
        refine aw_region ?_
        (try simp only [go_sem])
        (repeat (refine IsQ.go (by assumption) ?_; (try dsimp only); (try simp only [reduceCtorEq, E0])))
        refine aw_region ?_
        (try simp only [go_sem, hw6])
        (repeat (refine IsQ.go (by assumption) ?_; (try dsimp only); (try simp only [reduceCtorEq, E0])))
        cases hF
        exact ⟨_, rfl, (Upd.sub (show 3 ≤ 3 by decide) (by simp [go_sem, envSub, Env.get, h51v]) (by simp [go_sem, heapSub, Heap.get, belowO, h51v]))⟩
  rintro l37 hF
  (try dsimp only at hF ⊢)
  (repeat (refine IsQ.go (by assumption) ?_; (try dsimp only); (try simp only [reduceCtorEq, E0])))
  refine aw_seqH fun Q hQ => ?_
  refine aw_srH fun K hK => ?_
  (try simp only [go_sem])
  refine IsK.go (by assumption) ?_
  refine aw_joinX hF (fun (l60 : (List T_api_Window)) => ⟨[(3, .os 2 0 l60.length)], [(2, .slice (l60.map T_api_Window.c))], 3⟩) ?_ ?_
  · intro y61 hF hj61 Q hQ
    refine aw_blockH fun Q hQ => ?_
    refine aw_factH 2 rfl fun hl54 => ?_; simp only [List.length_map, lim] at hl54
    refine aw_forN hF (fun i52 l57 => ⟨[(1, .bp 0 0), (3, .os 2 0 l57.length), (74, .p (vi ((l37.length : Nat) : Int))), (75, .p (vi (i52 : Int)))], [(2, .slice (l57.map T_api_Window.c)), (0, .cells [.p (vs v0.Product.b), .p (.sl (v0.Releases.map T_api_Release.c)), .p (.sl (v0.Known.map T_api_Published.c)), .p (vi v0.Until)])], 3⟩) (Upd.sub (show 3 ≤ 3 by decide) (by simp [go_sem, envSub, Env.get]) (by simp [go_sem, heapSub, Heap.get, belowO])) ?_ ?_
    · rintro l57 hy Q hQ
      (try dsimp only at hy ⊢)
      have hlt : decide ((((l37.length : Nat) : Int) : Int) < ((l37.length : Nat) : Int)) = false := by simp
      refine aw_srH fun K hK => ?_
      (try simp only [go_sem, hlt])
      refine IsK.go (by assumption) ?_
      refine aw_seqH fun Q hQ => ?_
      refine aw_cond rfl (fun hc => ?_) (fun hc => ?_)
      · cases hc
      refine aw_exit ?_
      (repeat (refine IsQ.go (by assumption) ?_; (try dsimp only); (try simp only [E0])))
      exact ⟨_, hy, (Upd.sub (show 3 ≤ 3 by decide) (by simp [go_sem, envSub, Env.get]) (by simp [go_sem, heapSub, Heap.get, belowO]))⟩
    · rintro i52 l57 z61 hi hF hb61 hr61 Q hQ
      (try dsimp only at hF ⊢)
      have hlt : decide ((i52 : Int) < ((l37.length : Nat) : Int)) = true := by simp; omega
      have hw53 : IntKind.i64.wrap ((i52 : Int) + 1) = ((i52 + 1 : Nat) : Int) := by rw [wrap64 (by omega) (by omega)]; simp
      refine aw_srH fun K hK => ?_
      (try simp only [go_sem, hlt])
      refine IsK.go (by assumption) ?_
      refine aw_seqH fun Q hQ => ?_
      refine aw_cond rfl (fun hc => ?_) (fun hc => ?_)
      rotate_left; · cases hc
      refine aw_skip ?_
      (repeat (refine IsQ.go (by assumption) ?_; (try dsimp only); (try simp only [reduceCtorEq, E0])))
      refine aw_seqH fun Q hQ => ?_
      refine aw_blockH fun Q hQ => ?_
      refine aw_srH fun K hK => ?_
      (try simp only [go_sem])
      refine IsK.go (by assumption) ?_
      obtain ⟨x62, h63, hF⟩ := bind_some hF
      replace h63 := idx_map T_api_Window.c h63; (try simp only [go_sem] at h63)
      refine aw_d ?_
      (try simp only [go_sem, h63])
      (repeat (refine IsQ.go (by assumption) ?_; (try dsimp only); (try simp only [reduceCtorEq, E0])))
      refine aw_region ?_
      (try simp only [go_sem, hw53])
      (repeat (refine IsQ.go (by assumption) ?_; (try dsimp only); (try simp only [reduceCtorEq, E0])))
      cases hF
      exact ⟨_, rfl, (Upd.sub (show 3 ≤ 3 by decide) (by simp [go_sem, envSub, Env.get]) (by simp [go_sem, heapSub, Heap.get, belowO]))⟩
  rintro l60 hF
  (try dsimp only at hF ⊢)
  (repeat (refine IsQ.go (by assumption) ?_; (try dsimp only); (try simp only [reduceCtorEq, E0])))
  obtain ⟨y64, h65, hF⟩ := bind_some hF
  refine aw_srH fun K hK => ?_
  (try simp only [go_sem])
  refine calls_frz (inL [2]) (call_pure (ref11_sorted_ok h65) (by simp only [go_sem]) (by simp only [go_sem]) (by simp only [go_sem]) ?_)
  (try dsimp only); (try simp only [go_sem])
  refine IsK.go (by assumption) ?_
  refine aw_ret ?_
  (repeat (refine IsQ.go (by assumption) ?_; (try dsimp only); (try simp only [reduceCtorEq, E0])))
  cases hF
  simp only [go_sem]
theorem slices_Clone_Window_Window_own {v0 : List T_api_Window} {r0} (hF : slices_Clone_Window_Window v0 = some r0) : AOwn Try.prog 148 [.p (.sl (v0.map T_api_Window.c))] (r0.map T_api_Window.c) := by
  refine aown rc148_ok rfl ?_
  simp only [rc148, argEnv]
  unfold slices_Clone_Window_Window at hF
  obtain ⟨h1, h2⟩ := app_some hF
  simp only [go_sem] at h1 h2
  refine aw_srH fun K hK => ?_
  simp only [go_sem]
  refine IsK.go (by assumption) ?_
  refine aw_seqH fun Q hQ => ?_
  refine aw_srH fun K hK => ?_
  simp only [go_sem]
  intro b hb
  refine IsK.go (by assumption) ?_
  cases b with
  | true =>
    have hv : v0 = [] := Classical.byContradiction fun hne => by
      have := hb (by simpa using hne)
      cases this
    subst hv
    refine aw_cond rfl (fun hc => ?_) (fun hc => by cases hc)
    refine aw_srH fun K hK => ?_
    simp only [go_sem]
    refine IsK.go (by assumption) ?_
    refine aw_ret ?_
    (repeat (refine IsQ.go (by assumption) ?_; (try dsimp only); (try simp only [reduceCtorEq, E0])))
    subst h2
    simp only [go_sem]
  | false =>
    refine aw_cond rfl (fun hc => by cases hc) (fun hc => ?_)
    refine aw_skip ?_
    (repeat (refine IsQ.go (by assumption) ?_; (try dsimp only); (try simp only [reduceCtorEq, E0])))
    refine aw_srH fun K hK => ?_
    simp only [go_sem, h1]
    refine IsK.go (by assumption) ?_
    refine aw_ret ?_
    (repeat (refine IsQ.go (by assumption) ?_; (try dsimp only); (try simp only [reduceCtorEq, E0])))
    subst h2
    simp only [go_sem]

theorem slices_insertionSortCmpFunc_Window_ok {v0 : List T_api_Window} {v1 : Int} {v2 : Int} {g3_f : FuncId} {g3_a g3_c : List AV} {g3 : T_api_Window → T_api_Window → Option Int} (g3_en : enters Try.prog g3_f = true) (g3_bl : belowL 0 g3_a ∧ belowL 0 g3_c) (g3_ok : ∀ x0 x1 y0, g3 x0 x1 = some y0 → APure Try.prog g3_f (g3_a ++ [.p (.agg [vs x0.Advisory.b, vs x0.Component.b, vi x0.Severity, vi x0.From, vi x0.To, vb x0.Open]), .p (.agg [vs x1.Advisory.b, vs x1.Component.b, vi x1.Severity, vi x1.From, vi x1.To, vb x1.Open])] ++ g3_c) (.p (vi y0))) {rows} (hF : slices_insertionSortCmpFunc_Window v0 v1 v2 g3 = some rows) : AMut Try.prog 171 [.os 0 0 v0.length, .p (vi v1), .p (vi v2), .fn (.func g3_f) g3_a g3_c] (v0.map T_api_Window.c) (.tup []) (rows.map T_api_Window.c) := by
  refine amut rc171_ok (by rfl) ?_
  simp only [rc171, argEnv, Nat.reduceAdd]
  unfold slices_insertionSortCmpFunc_Window at hF
  obtain ⟨g3_bk1, g3_bk2⟩ := below_all g3_bl
  refine aw_srH fun K hK => ?_
  (try simp only [go_sem])
  refine IsK.go (by assumption) ?_
  refine aw_joinX hF (fun (l95 : (List T_api_Window)) => ⟨[], [(0, .slice (l95.map T_api_Window.c))], 1⟩) ?_ ?_
  · intro y96 hF hj96 Q hQ
    refine aw_blockH fun Q hQ => ?_
    refine aw_loopK hF (fun ((n47, l48) : Int × (List T_api_Window)) => ⟨[(0, .os 0 0 l48.length), (1, .p (vi v1)), (2, .p (vi v2)), (3, .fn (.func g3_f) g3_a g3_c), (8, .p (vi n47))], [(0, .slice (l48.map T_api_Window.c))], 1⟩) (Upd.sub (show 1 ≤ 1 by decide) (by simp [go_sem, envSub, Env.get, g3_bk1, g3_bk2]) (by simp [go_sem, heapSub, Heap.get, belowO])) ?_
    rintro ⟨n47, l48⟩ z96 hF hb96 hr96 Q hQ
    (try dsimp only at hF ⊢)
    refine aw_seqH fun Q hQ => ?_
    refine aw_srH fun K hK => ?_
    (try simp only [go_sem])
    refine IsK.go (by assumption) ?_
    refine aw_cond rfl (fun hc => ?_) (fun hc => ?_)
    · replace hF := if_t hc hF
      refine aw_skip ?_
      (repeat (refine IsQ.go (by assumption) ?_; (try dsimp only); (try simp only [reduceCtorEq, E0])))
      refine aw_seqH fun Q hQ => ?_
      refine aw_blockH fun Q hQ => ?_
      refine aw_srH fun K hK => ?_
      (try simp only [go_sem])
      refine IsK.go (by assumption) ?_
      refine aw_joinX hF (fun (l127 : (List T_api_Window)) => ⟨[(0, .os 0 0 l127.length), (1, .p (vi v1)), (2, .p (vi v2)), (3, .fn (.func g3_f) g3_a g3_c), (8, .p (vi n47))], [(0, .slice (l127.map T_api_Window.c))], 1⟩) ?_ ?_
      · intro y128 hF hj128 Q hQ
        refine aw_blockH fun Q hQ => ?_
        refine aw_loopK hF (fun ((n111, l112) : Int × (List T_api_Window)) => ⟨[(0, .os 0 0 l112.length), (1, .p (vi v1)), (2, .p (vi v2)), (3, .fn (.func g3_f) g3_a g3_c), (8, .p (vi n47)), (9, .p (vi n111))], [(0, .slice (l112.map T_api_Window.c))], 1⟩) (Upd.sub (show 1 ≤ 1 by decide) (by simp [go_sem, envSub, Env.get, g3_bk1, g3_bk2]) (by simp [go_sem, heapSub, Heap.get, belowO])) ?_
        rintro ⟨n111, l112⟩ z128 hF hb128 hr128 Q hQ
        (try dsimp only at hF ⊢)
        refine aw_seqH fun Q hQ => ?_
        obtain ⟨b135, h136, hF⟩ := bind_some hF
        refine aw_sdJ ⟨[(0, .os 0 0 l112.length), (1, .p (vi v1)), (2, .p (vi v2)), (3, .fn (.func g3_f) g3_a g3_c), (8, .p (vi n47)), (9, .p (vi n111)), (34, .p (vb b135))], [(0, .slice (l112.map T_api_Window.c))], 1⟩ (fun K hK => ?_) ?_
        · (try simp only [go_sem])
          (try simp only [go_sem])
          refine vD_split rfl ?_ ?_ <;> intro hg137 <;> (try simp only [hg137, go_sem])
          · simp only [hg137, gbS] at h136
            obtain ⟨x138, h139, h136⟩ := bind_some h136
            replace h139 := idx_map T_api_Window.c h139; (try simp only [go_sem] at h139)
            obtain ⟨x140, h141, h136⟩ := bind_some h136
            replace h141 := idx_map T_api_Window.c h141; (try simp only [go_sem] at h141)
            obtain ⟨y142, h143, h136⟩ := bind_some h136
            (try simp only [go_sem, h139, h141])
            refine ⟨g3_en, ?_⟩
            refine ⟨_, call_pure (g3_ok _ _ _ h143) rfl (by simp only [go_sem, g3_bk1, g3_bk2]) (by simp only [go_sem]) ⟨rfl, rfl, rfl⟩, ?_⟩
            (try dsimp only); (try simp only [go_sem])
            cases h136
            (try simp only [go_sem, h139, h141, hg137])
            refine IsK.go (by assumption) ?_
            exact (Upd.sub (show 1 ≤ 1 by decide) (by simp [go_sem, envSub, Env.get, g3_bk1, g3_bk2] <;> ((try simp only [decide_eq_true_eq, decide_eq_false_iff_not] at hg137); omega)) (by simp [go_sem, heapSub, Heap.get, belowO] <;> ((try simp only [decide_eq_true_eq, decide_eq_false_iff_not] at hg137); omega)))
          · simp only [hg137, gbS] at h136
            cases h136
            (try simp only [go_sem, hg137])
            refine IsK.go (by assumption) ?_
            exact (Upd.sub (show 1 ≤ 1 by decide) (by simp [go_sem, envSub, Env.get, g3_bk1, g3_bk2] <;> ((try simp only [decide_eq_true_eq, decide_eq_false_iff_not] at hg137); omega)) (by simp [go_sem, heapSub, Heap.get, belowO] <;> ((try simp only [decide_eq_true_eq, decide_eq_false_iff_not] at hg137); omega)))
        refine aw_cond rfl (fun hc => ?_) (fun hc => ?_)
        · replace hF := if_t hc hF
          refine aw_skip ?_
          (repeat (refine IsQ.go (by assumption) ?_; (try dsimp only); (try simp only [reduceCtorEq, E0])))
          refine aw_seqH fun Q hQ => ?_
          refine aw_blockH fun Q hQ => ?_
          obtain ⟨x144, h145, hF⟩ := bind_some hF
          replace h145 := idx_map T_api_Window.c h145; (try simp only [go_sem] at h145)
          obtain ⟨x146, h147, hF⟩ := bind_some hF
          replace h147 := idx_map T_api_Window.c h147; (try simp only [go_sem] at h147)
          obtain ⟨x148, h149, hF⟩ := bind_some hF
          replace h149 := idx_map T_api_Window.c h149; (try simp only [go_sem, List.map_set] at h149)
          refine aw_d ?_
          refine vD_cut 9 fun K hK => ?_
          (try simp only [go_sem, h145])
          refine IsK.go (by assumption) ?_
          (try simp only [go_sem, h145, h147, h149])
          (repeat (refine IsQ.go (by assumption) ?_; (try dsimp only); (try simp only [reduceCtorEq, E0])))
          refine aw_region ?_
          (try simp only [go_sem])
          (repeat (refine IsQ.go (by assumption) ?_; (try dsimp only); (try simp only [reduceCtorEq, E0])))
          cases hF
          exact ⟨_, rfl, (Upd.sub (show 1 ≤ 1 by decide) (by simp [go_sem, envSub, Env.get, g3_bk1, g3_bk2]) (by simp [go_sem, heapSub, Heap.get, belowO]))⟩
        · replace hF := if_f hc hF
          refine aw_exit ?_
          (repeat (refine IsQ.go (by assumption) ?_; (try dsimp only); (try simp only [E0])))
          cases hF
          exact ⟨_, hb128 _ rfl, (Upd.sub (show 1 ≤ 1 by decide) (by simp [go_sem, envSub, Env.get, g3_bk1, g3_bk2]) (by simp [go_sem, heapSub, Heap.get, belowO]))⟩
      rintro l127 hF
      (try dsimp only at hF ⊢)
      (repeat (refine IsQ.go (by assumption) ?_; (try dsimp only); (try simp only [reduceCtorEq, E0])))
      refine aw_region ?_
      (try simp only [go_sem])
      (repeat (refine IsQ.go (by assumption) ?_; (try dsimp only); (try simp only [reduceCtorEq, E0])))
      cases hF
      exact ⟨_, rfl, (Upd.sub (show 1 ≤ 1 by decide) (by simp [go_sem, envSub, Env.get, g3_bk1, g3_bk2]) (by simp [go_sem, heapSub, Heap.get, belowO]))⟩
    · replace hF := if_f hc hF
      refine aw_exit ?_
      (repeat (refine IsQ.go (by assumption) ?_; (try dsimp only); (try simp only [E0])))
      cases hF
      exact ⟨_, hb96 _ rfl, (Upd.sub (show 1 ≤ 1 by decide) (by simp [go_sem, envSub]) (by simp [go_sem, heapSub, Heap.get, belowO]))⟩
  rintro l95 hF
  (try dsimp only at hF ⊢)
  (repeat (refine IsQ.go (by assumption) ?_; (try dsimp only); (try simp only [reduceCtorEq, E0])))
  cases hF
  first | (simp only [go_sem]; done) | simp only [go_sem, g3_bk1, g3_bk2]
theorem slices_swapRangeCmpFunc_Window_ok {v0 : List T_api_Window} {v1 : Int} {v2 : Int} {v3 : Int} {g4_f : FuncId} {g4_a g4_c : List AV} {g4 : T_api_Window → T_api_Window → Option Int} (g4_en : enters Try.prog g4_f = true) (g4_bl : belowL 0 g4_a ∧ belowL 0 g4_c) (g4_ok : ∀ x0 x1 y0, g4 x0 x1 = some y0 → APure Try.prog g4_f (g4_a ++ [.p (.agg [vs x0.Advisory.b, vs x0.Component.b, vi x0.Severity, vi x0.From, vi x0.To, vb x0.Open]), .p (.agg [vs x1.Advisory.b, vs x1.Component.b, vi x1.Severity, vi x1.From, vi x1.To, vb x1.Open])] ++ g4_c) (.p (vi y0))) {rows} (hF : slices_swapRangeCmpFunc_Window v0 v1 v2 v3 g4 = some rows) : AMut Try.prog 185 [.os 0 0 v0.length, .p (vi v1), .p (vi v2), .p (vi v3), .fn (.func g4_f) g4_a g4_c] (v0.map T_api_Window.c) (.tup []) (rows.map T_api_Window.c) := by
  refine amut rc185_ok (by rfl) ?_
  simp only [rc185, argEnv, Nat.reduceAdd]
  unfold slices_swapRangeCmpFunc_Window at hF
  obtain ⟨g4_bk1, g4_bk2⟩ := below_all g4_bl
  refine aw_srH fun K hK => ?_
  (try simp only [go_sem])
  refine IsK.go (by assumption) ?_
  refine aw_joinX hF (fun (l15 : (List T_api_Window)) => ⟨[], [(0, .slice (l15.map T_api_Window.c))], 1⟩) ?_ ?_
  · intro y16 hF hj16 Q hQ
    refine aw_blockH fun Q hQ => ?_
    refine aw_loopK hF (fun ((n7, l8) : Int × (List T_api_Window)) => ⟨[(0, .os 0 0 l8.length), (1, .p (vi v1)), (2, .p (vi v2)), (3, .p (vi v3)), (10, .p (vi n7))], [(0, .slice (l8.map T_api_Window.c))], 1⟩) (Upd.sub (show 1 ≤ 1 by decide) (by simp [go_sem, envSub, Env.get]) (by simp [go_sem, heapSub, Heap.get, belowO])) ?_
    rintro ⟨n7, l8⟩ z16 hF hb16 hr16 Q hQ
    (try dsimp only at hF ⊢)
    refine aw_seqH fun Q hQ => ?_
    refine aw_srH fun K hK => ?_
    (try simp only [go_sem])
    refine IsK.go (by assumption) ?_
    refine aw_cond rfl (fun hc => ?_) (fun hc => ?_)
    · replace hF := if_t hc hF
      refine aw_skip ?_
      (repeat (refine IsQ.go (by assumption) ?_; (try dsimp only); (try simp only [reduceCtorEq, E0])))
      refine aw_seqH fun Q hQ => ?_
      refine aw_blockH fun Q hQ => ?_
      obtain ⟨x17, h18, hF⟩ := bind_some hF
      replace h18 := idx_map T_api_Window.c h18; (try simp only [go_sem] at h18)
      obtain ⟨x19, h20, hF⟩ := bind_some hF
      replace h20 := idx_map T_api_Window.c h20; (try simp only [go_sem] at h20)
      obtain ⟨x21, h22, hF⟩ := bind_some hF
      replace h22 := idx_map T_api_Window.c h22; (try simp only [go_sem, List.map_set] at h22)
      refine aw_d ?_
      refine vD_cut 8 fun K hK => ?_
      (try simp only [go_sem])
      refine IsK.go (by assumption) ?_
      refine vD_cut 8 fun K hK => ?_
      (try simp only [go_sem, h18])
      refine IsK.go (by assumption) ?_
      (try simp only [go_sem, h18, h20, h22])
      (repeat (refine IsQ.go (by assumption) ?_; (try dsimp only); (try simp only [reduceCtorEq, E0])))
      refine aw_region ?_
      (try simp only [go_sem])
      (repeat (refine IsQ.go (by assumption) ?_; (try dsimp only); (try simp only [reduceCtorEq, E0])))
      cases hF
      exact ⟨_, rfl, (Upd.sub (show 1 ≤ 1 by decide) (by simp [go_sem, envSub, Env.get]) (by simp [go_sem, heapSub, Heap.get, belowO]))⟩
    · replace hF := if_f hc hF
      refine aw_exit ?_
      (repeat (refine IsQ.go (by assumption) ?_; (try dsimp only); (try simp only [E0])))
      cases hF
      exact ⟨_, hb16 _ rfl, (Upd.sub (show 1 ≤ 1 by decide) (by simp [go_sem, envSub]) (by simp [go_sem, heapSub, Heap.get, belowO]))⟩
  rintro l15 hF
  (try dsimp only at hF ⊢)
  (repeat (refine IsQ.go (by assumption) ?_; (try dsimp only); (try simp only [reduceCtorEq, E0])))
  cases hF
  first | (simp only [go_sem]; done) | simp only [go_sem, g4_bk1, g4_bk2]
theorem slices_rotateCmpFunc_Window_ok {v0 : List T_api_Window} {v1 : Int} {v2 : Int} {v3 : Int} {g4_f : FuncId} {g4_a g4_c : List AV} {g4 : T_api_Window → T_api_Window → Option Int} (g4_en : enters Try.prog g4_f = true) (g4_bl : belowL 0 g4_a ∧ belowL 0 g4_c) (g4_ok : ∀ x0 x1 y0, g4 x0 x1 = some y0 → APure Try.prog g4_f (g4_a ++ [.p (.agg [vs x0.Advisory.b, vs x0.Component.b, vi x0.Severity, vi x0.From, vi x0.To, vb x0.Open]), .p (.agg [vs x1.Advisory.b, vs x1.Component.b, vi x1.Severity, vi x1.From, vi x1.To, vb x1.Open])] ++ g4_c) (.p (vi y0))) {rows} (hF : slices_rotateCmpFunc_Window v0 v1 v2 v3 g4 = some rows) : AMut Try.prog 181 [.os 0 0 v0.length, .p (vi v1), .p (vi v2), .p (vi v3), .fn (.func g4_f) g4_a g4_c] (v0.map T_api_Window.c) (.tup []) (rows.map T_api_Window.c) := by
  refine amut rc181_ok (by rfl) ?_
  simp only [rc181, argEnv, Nat.reduceAdd]
  unfold slices_rotateCmpFunc_Window at hF
  obtain ⟨g4_bk1, g4_bk2⟩ := below_all g4_bl
  refine aw_srH fun K hK => ?_
  (try simp only [go_sem])
  refine IsK.go (by assumption) ?_
  refine aw_srH fun K hK => ?_
  (try simp only [go_sem])
  refine IsK.go (by assumption) ?_
  refine aw_seqH fun Q hQ => ?_
  refine aw_joinX hF (fun ((n16, l17) : Int × (List T_api_Window)) => ⟨[(0, .os 0 0 l17.length), (2, .p (vi v2)), (4, .fn (.func g4_f) g4_a g4_c), (10, .p (vi n16))], [(0, .slice (l17.map T_api_Window.c))], 1⟩) ?_ ?_
  · intro y18 hF hj18 Q hQ
    refine aw_blockH fun Q hQ => ?_
    refine aw_loopK hF (fun ((n7, n8, l9) : Int × Int × (List T_api_Window)) => ⟨[(0, .os 0 0 l9.length), (2, .p (vi v2)), (4, .fn (.func g4_f) g4_a g4_c), (10, .p (vi n7)), (11, .p (vi n8))], [(0, .slice (l9.map T_api_Window.c))], 1⟩) (Upd.sub (show 1 ≤ 1 by decide) (by simp [go_sem, envSub, Env.get, g4_bk1, g4_bk2]) (by simp [go_sem, heapSub, Heap.get, belowO])) ?_
    rintro ⟨n7, n8, l9⟩ z18 hF hb18 hr18 Q hQ
    (try dsimp only at hF ⊢)
    refine aw_seqH fun Q hQ => ?_
    refine aw_srH fun K hK => ?_
    (try simp only [go_sem])
    refine IsK.go (by assumption) ?_
    refine aw_cond rfl (fun hc => ?_) (fun hc => ?_)
    · replace hF := if_t hc hF
      refine aw_skip ?_
      (repeat (refine IsQ.go (by assumption) ?_; (try dsimp only); (try simp only [reduceCtorEq, E0])))
      refine aw_blockH fun Q hQ => ?_
      refine aw_srH fun K hK => ?_
      (try simp only [go_sem])
      refine IsK.go (by assumption) ?_
      refine aw_cond rfl (fun hc => ?_) (fun hc => ?_)
      · replace hF := if_t hc hF
        obtain ⟨l19, h20, hF⟩ := bind_some hF
        obtain ⟨⟨⟩, h21, hF⟩ := bind_some hF
        replace h21 := chk_len h21
        (try simp only [List.length_set] at h21)
        refine aw_srH fun K hK => ?_
        (try simp only [go_sem])
        refine call_own (slices_swapRangeCmpFunc_Window_ok g4_en g4_bl g4_ok h20) 0 (by simp only [go_sem]) (by simp only [go_sem]; (try rfl)) (by simp only [go_sem, g4_bk1, g4_bk2]; (try trivial)) (by simp only [go_sem]; (try trivial)) ?_
        (try dsimp only); (try simp only [go_sem])
        refine IsK.go (by assumption) ?_
        refine aw_region ?_
        (try simp only [go_sem])
        (repeat (refine IsQ.go (by assumption) ?_; (try dsimp only); (try simp only [reduceCtorEq, E0])))
        cases hF
        exact ⟨_, rfl, (Upd.sub (show 1 ≤ 1 by decide) (by simp [go_sem, envSub, Env.get, g4_bk1, g4_bk2, h21]) (by simp [go_sem, heapSub, Heap.get, belowO]))⟩
      · replace hF := if_f hc hF
        obtain ⟨l22, h23, hF⟩ := bind_some hF
        obtain ⟨⟨⟩, h24, hF⟩ := bind_some hF
        replace h24 := chk_len h24
        (try simp only [List.length_set] at h24)
        refine aw_srH fun K hK => ?_
        (try simp only [go_sem])
        refine call_own (slices_swapRangeCmpFunc_Window_ok g4_en g4_bl g4_ok h23) 0 (by simp only [go_sem]) (by simp only [go_sem]; (try rfl)) (by simp only [go_sem, g4_bk1, g4_bk2]; (try trivial)) (by simp only [go_sem]; (try trivial)) ?_
        (try dsimp only); (try simp only [go_sem])
        refine IsK.go (by assumption) ?_
        refine aw_region ?_
        (try simp only [go_sem])
        (repeat (refine IsQ.go (by assumption) ?_; (try dsimp only); (try simp only [reduceCtorEq, E0])))
        cases hF
        exact ⟨_, rfl, (Upd.sub (show 1 ≤ 1 by decide) (by simp [go_sem, envSub, Env.get, g4_bk1, g4_bk2, h24]) (by simp [go_sem, heapSub, Heap.get, belowO]))⟩
    · replace hF := if_f hc hF
      refine aw_exit ?_
      (repeat (refine IsQ.go (by assumption) ?_; (try dsimp only); (try simp only [E0])))
      cases hF
      exact ⟨_, hb18 _ rfl, (Upd.sub (show 1 ≤ 1 by decide) (by simp [go_sem, envSub, Env.get, g4_bk1, g4_bk2]) (by simp [go_sem, heapSub, Heap.get, belowO]))⟩
  rintro ⟨n16, l17⟩ hF
  (try dsimp only at hF ⊢)
  (repeat (refine IsQ.go (by assumption) ?_; (try dsimp only); (try simp only [reduceCtorEq, E0])))
  obtain ⟨l25, h26, hF⟩ := bind_some hF
  obtain ⟨⟨⟩, h27, hF⟩ := bind_some hF
  replace h27 := chk_len h27
  (try simp only [List.length_set] at h27)
  refine aw_region ?_
  (try simp only [go_sem])
  refine call_own (slices_swapRangeCmpFunc_Window_ok g4_en g4_bl g4_ok h26) 0 (by simp only [go_sem]) (by simp only [go_sem]; (try rfl)) (by simp only [go_sem, g4_bk1, g4_bk2]; (try trivial)) (by simp only [go_sem]; (try trivial)) ?_
  (try dsimp only); (try simp only [go_sem])
  (repeat (refine IsQ.go (by assumption) ?_; (try dsimp only); (try simp only [reduceCtorEq, E0])))
  cases hF
  first | (simp only [go_sem]; done) | simp only [go_sem, g4_bk1, g4_bk2, h27]
theorem slices_symMergeCmpFunc_Window_ok {fuel : Nat} {v0 : List T_api_Window} {v1 : Int} {v2 : Int} {v3 : Int} {g4_f : FuncId} {g4_a g4_c : List AV} {g4 : T_api_Window → T_api_Window → Option Int} (g4_en : enters Try.prog g4_f = true) (g4_bl : belowL 0 g4_a ∧ belowL 0 g4_c) (g4_ok : ∀ x0 x1 y0, g4 x0 x1 = some y0 → APure Try.prog g4_f (g4_a ++ [.p (.agg [vs x0.Advisory.b, vs x0.Component.b, vi x0.Severity, vi x0.From, vi x0.To, vb x0.Open]), .p (.agg [vs x1.Advisory.b, vs x1.Component.b, vi x1.Severity, vi x1.From, vi x1.To, vb x1.Open])] ++ g4_c) (.p (vi y0))) {rows} (hF : slices_symMergeCmpFunc_Window fuel v0 v1 v2 v3 g4 = some rows) : AMut Try.prog 172 [.os 0 0 v0.length, .p (vi v1), .p (vi v2), .p (vi v3), .fn (.func g4_f) g4_a g4_c] (v0.map T_api_Window.c) (.tup []) (rows.map T_api_Window.c) := by
  induction fuel generalizing v0 v1 v2 v3 rows with
  | zero => unfold slices_symMergeCmpFunc_Window at hF; cases hF
  | succ fuel ih =>
  refine amut rc172_ok (by rfl) ?_
  simp only [rc172, argEnv, Nat.reduceAdd]
  unfold slices_symMergeCmpFunc_Window at hF
  obtain ⟨g4_bk1, g4_bk2⟩ := below_all g4_bl
  refine aw_seqH fun Q hQ => ?_
  refine aw_srH fun K hK => ?_
  (try simp only [go_sem])
  refine IsK.go (by assumption) ?_
  refine aw_cond rfl (fun hc => ?_) (fun hc => ?_)
  · replace hF := if_t hc hF
    refine aw_srH fun K hK => ?_
    (try simp only [go_sem])
    refine IsK.go (by assumption) ?_
    refine aw_srH fun K hK => ?_
    (try simp only [go_sem])
    refine IsK.go (by assumption) ?_
    refine aw_seqH fun Q hQ => ?_
    refine aw_joinX hF (fun (n21 : Int) => ⟨[(0, .os 0 0 v0.length), (1, .p (vi v1)), (10, .p (vi n21))], [(0, .slice (v0.map T_api_Window.c))], 1⟩) ?_ ?_
    · intro y22 hF hj22 Q hQ
      refine aw_blockH fun Q hQ => ?_
      refine aw_loopK hF (fun ((n10, n11) : Int × Int) => ⟨[(0, .os 0 0 v0.length), (1, .p (vi v1)), (4, .fn (.func g4_f) g4_a g4_c), (10, .p (vi n10)), (11, .p (vi n11))], [(0, .slice (v0.map T_api_Window.c))], 1⟩) (Upd.sub (show 1 ≤ 1 by decide) (by simp [go_sem, envSub, Env.get, g4_bk1, g4_bk2]) (by simp [go_sem, heapSub, Heap.get, belowO])) ?_
      rintro ⟨n10, n11⟩ z22 hF hb22 hr22 Q hQ
      (try dsimp only at hF ⊢)
      refine aw_seqH fun Q hQ => ?_
      refine aw_srH fun K hK => ?_
      (try simp only [go_sem])
      refine IsK.go (by assumption) ?_
      refine aw_cond rfl (fun hc => ?_) (fun hc => ?_)
      · replace hF := if_t hc hF
        refine aw_skip ?_
        (repeat (refine IsQ.go (by assumption) ?_; (try dsimp only); (try simp only [reduceCtorEq, E0])))
        refine aw_blockH fun Q hQ => ?_
        have h23 : (0 ≤ (1 : Int)) = True := by decide
        have h24 : (2 : Int) ^ (Nat.min (1 : Int).toNat IntKind.u64.bits) = 2 := by decide
        have h25 : (2 : Int) ^ (Int.toNat 1).min 64 = 2 := by decide
        refine aw_srH fun K hK => ?_
        (try simp only [go_sem, h23, h25])
        refine IsK.go (by assumption) ?_
        obtain ⟨x26, h27, hF⟩ := bind_some hF
        replace h27 := idx_map T_api_Window.c h27; (try simp only [go_sem] at h27)
        obtain ⟨x28, h29, hF⟩ := bind_some hF
        replace h29 := idx_map T_api_Window.c h29; (try simp only [go_sem] at h29)
        obtain ⟨y30, h31, hF⟩ := bind_some hF
        refine aw_sdH fun K hK => ?_
        (try simp only [go_sem, h27, h29])
        refine ⟨g4_en, ?_⟩
        refine ⟨_, call_pure (g4_ok _ _ _ h31) rfl (by simp only [go_sem, g4_bk1, g4_bk2]) (by simp only [go_sem]) ⟨rfl, rfl, rfl⟩, ?_⟩
        (try dsimp only); (try simp only [go_sem])
        refine IsK.go (by assumption) ?_
        refine aw_cond rfl (fun hc => ?_) (fun hc => ?_)
        · replace hF := if_t hc hF
          refine aw_region ?_
          (try simp only [go_sem])
          (repeat (refine IsQ.go (by assumption) ?_; (try dsimp only); (try simp only [reduceCtorEq, E0])))
          cases hF
          exact ⟨_, rfl, (Upd.sub (show 1 ≤ 1 by decide) (by simp [go_sem, envSub, Env.get, g4_bk1, g4_bk2]) (by simp [go_sem, heapSub, Heap.get, belowO]))⟩
        · replace hF := if_f hc hF
          refine aw_region ?_
          (try simp only [go_sem])
          (repeat (refine IsQ.go (by assumption) ?_; (try dsimp only); (try simp only [reduceCtorEq, E0])))
          cases hF
          exact ⟨_, rfl, (Upd.sub (show 1 ≤ 1 by decide) (by simp [go_sem, envSub, Env.get, g4_bk1, g4_bk2]) (by simp [go_sem, heapSub, Heap.get, belowO]))⟩
      · replace hF := if_f hc hF
        refine aw_exit ?_
        (repeat (refine IsQ.go (by assumption) ?_; (try dsimp only); (try simp only [E0])))
        cases hF
        exact ⟨_, hb22 _ rfl, (Upd.sub (show 1 ≤ 1 by decide) (by simp [go_sem, envSub, Env.get]) (by simp [go_sem, heapSub, Heap.get, belowO]))⟩
    rintro n21 hF
    (try dsimp only at hF ⊢)
    (repeat (refine IsQ.go (by assumption) ?_; (try dsimp only); (try simp only [reduceCtorEq, E0])))
    refine aw_seqH fun Q hQ => ?_
    refine aw_srH fun K hK => ?_
    (try simp only [go_sem])
    refine IsK.go (by assumption) ?_
    refine aw_joinX hF (fun (l46 : (List T_api_Window)) => ⟨[], [(0, .slice (l46.map T_api_Window.c))], 1⟩) ?_ ?_
    · intro y47 hF hj47 Q hQ
      refine aw_blockH fun Q hQ => ?_
      refine aw_loopK hF (fun ((n38, l39) : Int × (List T_api_Window)) => ⟨[(0, .os 0 0 l39.length), (10, .p (vi n21)), (13, .p (vi n38))], [(0, .slice (l39.map T_api_Window.c))], 1⟩) (Upd.sub (show 1 ≤ 1 by decide) (by simp [go_sem, envSub, Env.get]) (by simp [go_sem, heapSub, Heap.get, belowO])) ?_
      rintro ⟨n38, l39⟩ z47 hF hb47 hr47 Q hQ
      (try dsimp only at hF ⊢)
      refine aw_seqH fun Q hQ => ?_
      refine aw_srH fun K hK => ?_
      (try simp only [go_sem])
      refine IsK.go (by assumption) ?_
      refine aw_cond rfl (fun hc => ?_) (fun hc => ?_)
      · replace hF := if_t hc hF
        refine aw_skip ?_
        (repeat (refine IsQ.go (by assumption) ?_; (try dsimp only); (try simp only [reduceCtorEq, E0])))
        refine aw_seqH fun Q hQ => ?_
        refine aw_blockH fun Q hQ => ?_
        obtain ⟨x48, h49, hF⟩ := bind_some hF
        replace h49 := idx_map T_api_Window.c h49; (try simp only [go_sem] at h49)
        obtain ⟨x50, h51, hF⟩ := bind_some hF
        replace h51 := idx_map T_api_Window.c h51; (try simp only [go_sem] at h51)
        obtain ⟨x52, h53, hF⟩ := bind_some hF
        replace h53 := idx_map T_api_Window.c h53; (try simp only [go_sem, List.map_set] at h53)
        refine aw_d ?_
        refine vD_cut 9 fun K hK => ?_
        (try simp only [go_sem, h49])
        refine IsK.go (by assumption) ?_
        (try simp only [go_sem, h49, h51, h53])
        (repeat (refine IsQ.go (by assumption) ?_; (try dsimp only); (try simp only [reduceCtorEq, E0])))
        refine aw_region ?_
        (try simp only [go_sem])
        (repeat (refine IsQ.go (by assumption) ?_; (try dsimp only); (try simp only [reduceCtorEq, E0])))
        cases hF
        exact ⟨_, rfl, (Upd.sub (show 1 ≤ 1 by decide) (by simp [go_sem, envSub, Env.get]) (by simp [go_sem, heapSub, Heap.get, belowO]))⟩
      · replace hF := if_f hc hF
        refine aw_exit ?_
        (repeat (refine IsQ.go (by assumption) ?_; (try dsimp only); (try simp only [E0])))
        cases hF
        exact ⟨_, hb47 _ rfl, (Upd.sub (show 1 ≤ 1 by decide) (by simp [go_sem, envSub]) (by simp [go_sem, heapSub, Heap.get, belowO]))⟩
    rintro l46 hF
    (try dsimp only at hF ⊢)
    (repeat (refine IsQ.go (by assumption) ?_; (try dsimp only); (try simp only [reduceCtorEq, E0])))
    refine aw_ret ?_
    (repeat (refine IsQ.go (by assumption) ?_; (try dsimp only); (try simp only [reduceCtorEq, E0])))
    cases hF
    first | (simp only [go_sem]; done) | simp only [go_sem, g4_bk1, g4_bk2]
  · replace hF := if_f hc hF
    refine aw_skip ?_
    (repeat (refine IsQ.go (by assumption) ?_; (try dsimp only); (try simp only [reduceCtorEq, E0])))
    refine aw_seqH fun Q hQ => ?_
    refine aw_srH fun K hK => ?_
    (try simp only [go_sem])
    refine IsK.go (by assumption) ?_
    refine aw_cond rfl (fun hc => ?_) (fun hc => ?_)
    · replace hF := if_t hc hF
      refine aw_srH fun K hK => ?_
      (try simp only [go_sem])
      refine IsK.go (by assumption) ?_
      refine aw_srH fun K hK => ?_
      (try simp only [go_sem])
      refine IsK.go (by assumption) ?_
      refine aw_seqH fun Q hQ => ?_
      refine aw_joinX hF (fun (n74 : Int) => ⟨[(0, .os 0 0 v0.length), (2, .p (vi v2)), (14, .p (vi n74))], [(0, .slice (v0.map T_api_Window.c))], 1⟩) ?_ ?_
      · intro y75 hF hj75 Q hQ
        refine aw_blockH fun Q hQ => ?_
        refine aw_loopK hF (fun ((n63, n64) : Int × Int) => ⟨[(0, .os 0 0 v0.length), (2, .p (vi v2)), (4, .fn (.func g4_f) g4_a g4_c), (14, .p (vi n63)), (15, .p (vi n64))], [(0, .slice (v0.map T_api_Window.c))], 1⟩) (Upd.sub (show 1 ≤ 1 by decide) (by simp [go_sem, envSub, Env.get, g4_bk1, g4_bk2]) (by simp [go_sem, heapSub, Heap.get, belowO])) ?_
        rintro ⟨n63, n64⟩ z75 hF hb75 hr75 Q hQ
        (try dsimp only at hF ⊢)
        refine aw_seqH fun Q hQ => ?_
        refine aw_srH fun K hK => ?_
        (try simp only [go_sem])
        refine IsK.go (by assumption) ?_
        refine aw_cond rfl (fun hc => ?_) (fun hc => ?_)
        · replace hF := if_t hc hF
          refine aw_skip ?_
          (repeat (refine IsQ.go (by assumption) ?_; (try dsimp only); (try simp only [reduceCtorEq, E0])))
          refine aw_blockH fun Q hQ => ?_
          have h76 : (0 ≤ (1 : Int)) = True := by decide
          have h77 : (2 : Int) ^ (Nat.min (1 : Int).toNat IntKind.u64.bits) = 2 := by decide
          have h78 : (2 : Int) ^ (Int.toNat 1).min 64 = 2 := by decide
          refine aw_srH fun K hK => ?_
          (try simp only [go_sem, h76, h78])
          refine IsK.go (by assumption) ?_
          obtain ⟨x79, h80, hF⟩ := bind_some hF
          replace h80 := idx_map T_api_Window.c h80; (try simp only [go_sem] at h80)
          obtain ⟨x81, h82, hF⟩ := bind_some hF
          replace h82 := idx_map T_api_Window.c h82; (try simp only [go_sem] at h82)
          obtain ⟨y83, h84, hF⟩ := bind_some hF
          refine aw_sdH fun K hK => ?_
          (try simp only [go_sem, h80, h82])
          refine ⟨g4_en, ?_⟩
          refine ⟨_, call_pure (g4_ok _ _ _ h84) rfl (by simp only [go_sem, g4_bk1, g4_bk2]) (by simp only [go_sem]) ⟨rfl, rfl, rfl⟩, ?_⟩
          (try dsimp only); (try simp only [go_sem])
          refine IsK.go (by assumption) ?_
          refine aw_cond rfl (fun hc => ?_) (fun hc => ?_)
          · replace hF := if_t hc hF
            refine aw_region ?_
            (try simp only [go_sem])
            (repeat (refine IsQ.go (by assumption) ?_; (try dsimp only); (try simp only [reduceCtorEq, E0])))
            cases hF
            exact ⟨_, rfl, (Upd.sub (show 1 ≤ 1 by decide) (by simp [go_sem, envSub, Env.get, g4_bk1, g4_bk2]) (by simp [go_sem, heapSub, Heap.get, belowO]))⟩
          · replace hF := if_f hc hF
            refine aw_region ?_
            (try simp only [go_sem])
            (repeat (refine IsQ.go (by assumption) ?_; (try dsimp only); (try simp only [reduceCtorEq, E0])))
            cases hF
            exact ⟨_, rfl, (Upd.sub (show 1 ≤ 1 by decide) (by simp [go_sem, envSub, Env.get, g4_bk1, g4_bk2]) (by simp [go_sem, heapSub, Heap.get, belowO]))⟩
        · replace hF := if_f hc hF
          refine aw_exit ?_
          (repeat (refine IsQ.go (by assumption) ?_; (try dsimp only); (try simp only [E0])))
          cases hF
          exact ⟨_, hb75 _ rfl, (Upd.sub (show 1 ≤ 1 by decide) (by simp [go_sem, envSub, Env.get]) (by simp [go_sem, heapSub, Heap.get, belowO]))⟩
      rintro n74 hF
      (try dsimp only at hF ⊢)
      (repeat (refine IsQ.go (by assumption) ?_; (try dsimp only); (try simp only [reduceCtorEq, E0])))
      refine aw_seqH fun Q hQ => ?_
      refine aw_srH fun K hK => ?_
      (try simp only [go_sem])
      refine IsK.go (by assumption) ?_
      refine aw_joinX hF (fun (l99 : (List T_api_Window)) => ⟨[], [(0, .slice (l99.map T_api_Window.c))], 1⟩) ?_ ?_
      · intro y100 hF hj100 Q hQ
        refine aw_blockH fun Q hQ => ?_
        refine aw_loopK hF (fun ((n91, l92) : Int × (List T_api_Window)) => ⟨[(0, .os 0 0 l92.length), (14, .p (vi n74)), (17, .p (vi n91))], [(0, .slice (l92.map T_api_Window.c))], 1⟩) (Upd.sub (show 1 ≤ 1 by decide) (by simp [go_sem, envSub, Env.get]) (by simp [go_sem, heapSub, Heap.get, belowO])) ?_
        rintro ⟨n91, l92⟩ z100 hF hb100 hr100 Q hQ
        (try dsimp only at hF ⊢)
        refine aw_seqH fun Q hQ => ?_
        refine aw_srH fun K hK => ?_
        (try simp only [go_sem])
        refine IsK.go (by assumption) ?_
        refine aw_cond rfl (fun hc => ?_) (fun hc => ?_)
        · replace hF := if_t hc hF
          refine aw_skip ?_
          (repeat (refine IsQ.go (by assumption) ?_; (try dsimp only); (try simp only [reduceCtorEq, E0])))
          refine aw_seqH fun Q hQ => ?_
          refine aw_blockH fun Q hQ => ?_
          obtain ⟨x101, h102, hF⟩ := bind_some hF
          replace h102 := idx_map T_api_Window.c h102; (try simp only [go_sem] at h102)
          obtain ⟨x103, h104, hF⟩ := bind_some hF
          replace h104 := idx_map T_api_Window.c h104; (try simp only [go_sem] at h104)
          obtain ⟨x105, h106, hF⟩ := bind_some hF
          replace h106 := idx_map T_api_Window.c h106; (try simp only [go_sem, List.map_set] at h106)
          refine aw_d ?_
          refine vD_cut 9 fun K hK => ?_
          (try simp only [go_sem, h102])
          refine IsK.go (by assumption) ?_
          (try simp only [go_sem, h102, h104, h106])
          (repeat (refine IsQ.go (by assumption) ?_; (try dsimp only); (try simp only [reduceCtorEq, E0])))
          refine aw_region ?_
          (try simp only [go_sem])
          (repeat (refine IsQ.go (by assumption) ?_; (try dsimp only); (try simp only [reduceCtorEq, E0])))
          cases hF
          exact ⟨_, rfl, (Upd.sub (show 1 ≤ 1 by decide) (by simp [go_sem, envSub, Env.get]) (by simp [go_sem, heapSub, Heap.get, belowO]))⟩
        · replace hF := if_f hc hF
          refine aw_exit ?_
          (repeat (refine IsQ.go (by assumption) ?_; (try dsimp only); (try simp only [E0])))
          cases hF
          exact ⟨_, hb100 _ rfl, (Upd.sub (show 1 ≤ 1 by decide) (by simp [go_sem, envSub]) (by simp [go_sem, heapSub, Heap.get, belowO]))⟩
      rintro l99 hF
      (try dsimp only at hF ⊢)
      (repeat (refine IsQ.go (by assumption) ?_; (try dsimp only); (try simp only [reduceCtorEq, E0])))
      refine aw_ret ?_
      (repeat (refine IsQ.go (by assumption) ?_; (try dsimp only); (try simp only [reduceCtorEq, E0])))
      cases hF
      first | (simp only [go_sem]; done) | simp only [go_sem, g4_bk1, g4_bk2]
    · replace hF := if_f hc hF
      refine aw_skip ?_
      (repeat (refine IsQ.go (by assumption) ?_; (try dsimp only); (try simp only [reduceCtorEq, E0])))
      have h107 : (0 ≤ (1 : Int)) = True := by decide
      have h108 : (2 : Int) ^ (Nat.min (1 : Int).toNat IntKind.u64.bits) = 2 := by decide
      have h109 : (2 : Int) ^ (Int.toNat 1).min 64 = 2 := by decide
      refine aw_srH fun K hK => ?_
      (try simp only [go_sem, h107, h109])
      refine IsK.go (by assumption) ?_
      refine aw_srH fun K hK => ?_
      (try simp only [go_sem])
      refine IsK.go (by assumption) ?_
      refine aw_srH fun K hK => ?_
      (try simp only [go_sem])
      refine IsK.go (by assumption) ?_
      refine aw_joinK hF (fun ((n110, n111) : Int × Int) => ⟨[(0, .os 0 0 v0.length), (1, .p (vi v1)), (2, .p (vi v2)), (3, .p (vi v3)), (4, .fn (.func g4_f) g4_a g4_c), (18, .p (vi (w64 (((IntKind.u64.wrap) (w64 (v1 + v3))).fdiv 2)))), (19, .p (vi (w64 ((w64 (((IntKind.u64.wrap) (w64 (v1 + v3))).fdiv 2)) + v2)))), (20, .p (vi n110)), (21, .p (vi n111))], [(0, .slice (v0.map T_api_Window.c))], 1⟩) ?_ ?_
      · intro z112 hF hr112 Q hQ
        refine aw_srH fun K hK => ?_
        (try simp only [go_sem])
        refine IsK.go (by assumption) ?_
        refine aw_cond rfl (fun hc => ?_) (fun hc => ?_)
        · replace hF := if_t hc hF
          refine aw_srH fun K hK => ?_
          (try simp only [go_sem])
          refine IsK.go (by assumption) ?_
          refine aw_region ?_
          (try simp only [go_sem])
          (repeat (refine IsQ.go (by assumption) ?_; (try dsimp only); (try simp only [reduceCtorEq, E0])))
          cases hF
          exact ⟨_, rfl, (Upd.sub (show 1 ≤ 1 by decide) (by simp [go_sem, envSub, Env.get, g4_bk1, g4_bk2]) (by simp [go_sem, heapSub, Heap.get, belowO]))⟩
        · replace hF := if_f hc hF
          refine aw_srH fun K hK => ?_
          (try simp only [go_sem])
          refine IsK.go (by assumption) ?_
          refine aw_region ?_
          (try simp only [go_sem])
          (repeat (refine IsQ.go (by assumption) ?_; (try dsimp only); (try simp only [reduceCtorEq, E0])))
          cases hF
          exact ⟨_, rfl, (Upd.sub (show 1 ≤ 1 by decide) (by simp [go_sem, envSub, Env.get, g4_bk1, g4_bk2]) (by simp [go_sem, heapSub, Heap.get, belowO]))⟩
      rintro ⟨n110, n111⟩ hF
      (try dsimp only at hF ⊢)
      refine aw_srH fun K hK => ?_
      (try simp only [go_sem])
      refine IsK.go (by assumption) ?_
      refine aw_seqH fun Q hQ => ?_
      refine aw_joinX hF (fun (n133 : Int) => ⟨[(0, .os 0 0 v0.length), (1, .p (vi v1)), (2, .p (vi v2)), (3, .p (vi v3)), (4, .fn (.func g4_f) g4_a g4_c), (18, .p (vi (w64 (((IntKind.u64.wrap) (w64 (v1 + v3))).fdiv 2)))), (19, .p (vi (w64 ((w64 (((IntKind.u64.wrap) (w64 (v1 + v3))).fdiv 2)) + v2)))), (20, .p (vi n133))], [(0, .slice (v0.map T_api_Window.c))], 1⟩) ?_ ?_
      · intro y134 hF hj134 Q hQ
        refine aw_blockH fun Q hQ => ?_
        refine aw_loopK hF (fun ((n122, n123) : Int × Int) => ⟨[(0, .os 0 0 v0.length), (1, .p (vi v1)), (2, .p (vi v2)), (3, .p (vi v3)), (4, .fn (.func g4_f) g4_a g4_c), (18, .p (vi (w64 (((IntKind.u64.wrap) (w64 (v1 + v3))).fdiv 2)))), (19, .p (vi (w64 ((w64 (((IntKind.u64.wrap) (w64 (v1 + v3))).fdiv 2)) + v2)))), (20, .p (vi n122)), (21, .p (vi n123)), (22, .p (vi (w64 ((w64 ((w64 (((IntKind.u64.wrap) (w64 (v1 + v3))).fdiv 2)) + v2)) - 1))))], [(0, .slice (v0.map T_api_Window.c))], 1⟩) (Upd.sub (show 1 ≤ 1 by decide) (by simp [go_sem, envSub, Env.get, g4_bk1, g4_bk2]) (by simp [go_sem, heapSub, Heap.get, belowO])) ?_
        rintro ⟨n122, n123⟩ z134 hF hb134 hr134 Q hQ
        (try dsimp only at hF ⊢)
        refine aw_seqH fun Q hQ => ?_
        refine aw_srH fun K hK => ?_
        (try simp only [go_sem])
        refine IsK.go (by assumption) ?_
        refine aw_cond rfl (fun hc => ?_) (fun hc => ?_)
        · replace hF := if_t hc hF
          refine aw_skip ?_
          (repeat (refine IsQ.go (by assumption) ?_; (try dsimp only); (try simp only [reduceCtorEq, E0])))
          refine aw_blockH fun Q hQ => ?_
          have h135 : (0 ≤ (1 : Int)) = True := by decide
          have h136 : (2 : Int) ^ (Nat.min (1 : Int).toNat IntKind.u64.bits) = 2 := by decide
          have h137 : (2 : Int) ^ (Int.toNat 1).min 64 = 2 := by decide
          refine aw_srH fun K hK => ?_
          (try simp only [go_sem, h135, h137])
          refine IsK.go (by assumption) ?_
          obtain ⟨x138, h139, hF⟩ := bind_some hF
          replace h139 := idx_map T_api_Window.c h139; (try simp only [go_sem] at h139)
          obtain ⟨x140, h141, hF⟩ := bind_some hF
          replace h141 := idx_map T_api_Window.c h141; (try simp only [go_sem] at h141)
          obtain ⟨y142, h143, hF⟩ := bind_some hF
          refine aw_sdH fun K hK => ?_
          (try simp only [go_sem, h139, h141])
          refine ⟨g4_en, ?_⟩
          refine ⟨_, call_pure (g4_ok _ _ _ h143) rfl (by simp only [go_sem, g4_bk1, g4_bk2]) (by simp only [go_sem]) ⟨rfl, rfl, rfl⟩, ?_⟩
          (try dsimp only); (try simp only [go_sem])
          refine IsK.go (by assumption) ?_
          refine aw_cond rfl (fun hc => ?_) (fun hc => ?_)
          · replace hF := if_t hc hF
            refine aw_region ?_
            (try simp only [go_sem])
            (repeat (refine IsQ.go (by assumption) ?_; (try dsimp only); (try simp only [reduceCtorEq, E0])))
            cases hF
            exact ⟨_, rfl, (Upd.sub (show 1 ≤ 1 by decide) (by simp [go_sem, envSub, Env.get, g4_bk1, g4_bk2]) (by simp [go_sem, heapSub, Heap.get, belowO]))⟩
          · replace hF := if_f hc hF
            refine aw_region ?_
            (try simp only [go_sem])
            (repeat (refine IsQ.go (by assumption) ?_; (try dsimp only); (try simp only [reduceCtorEq, E0])))
            cases hF
            exact ⟨_, rfl, (Upd.sub (show 1 ≤ 1 by decide) (by simp [go_sem, envSub, Env.get, g4_bk1, g4_bk2]) (by simp [go_sem, heapSub, Heap.get, belowO]))⟩
        · replace hF := if_f hc hF
          refine aw_exit ?_
          (repeat (refine IsQ.go (by assumption) ?_; (try dsimp only); (try simp only [E0])))
          cases hF
          exact ⟨_, hb134 _ rfl, (Upd.sub (show 1 ≤ 1 by decide) (by simp [go_sem, envSub, Env.get, g4_bk1, g4_bk2]) (by simp [go_sem, heapSub, Heap.get, belowO]))⟩
      rintro n133 hF
      (try dsimp only at hF ⊢)
      (repeat (refine IsQ.go (by assumption) ?_; (try dsimp only); (try simp only [reduceCtorEq, E0])))
      refine aw_srH fun K hK => ?_
      (try simp only [go_sem])
      refine IsK.go (by assumption) ?_
      refine aw_joinK hF (fun (l147 : (List T_api_Window)) => ⟨[(0, .os 0 0 l147.length), (1, .p (vi v1)), (3, .p (vi v3)), (4, .fn (.func g4_f) g4_a g4_c), (18, .p (vi (w64 (((IntKind.u64.wrap) (w64 (v1 + v3))).fdiv 2)))), (20, .p (vi n133)), (24, .p (vi (w64 ((w64 ((w64 (((IntKind.u64.wrap) (w64 (v1 + v3))).fdiv 2)) + v2)) - n133))))], [(0, .slice (l147.map T_api_Window.c))], 1⟩) ?_ ?_
      · intro z148 hF hr148 Q hQ
        refine aw_srJ ⟨[(0, .os 0 0 v0.length), (1, .p (vi v1)), (2, .p (vi v2)), (3, .p (vi v3)), (4, .fn (.func g4_f) g4_a g4_c), (18, .p (vi (w64 (((IntKind.u64.wrap) (w64 (v1 + v3))).fdiv 2)))), (20, .p (vi n133)), (24, .p (vi (w64 ((w64 ((w64 (((IntKind.u64.wrap) (w64 (v1 + v3))).fdiv 2)) + v2)) - n133)))), (185, .p (vb ((decide (n133 < v2)) && (decide (v2 < w64 ((w64 ((w64 (((IntKind.u64.wrap) (w64 (v1 + v3))).fdiv 2)) + v2)) - n133))))))], [(0, .slice (v0.map T_api_Window.c))], 1⟩ (fun K hK => ?_) ?_
        · (try simp only [go_sem])
          (try simp only [go_sem])
          refine vOps_split rfl ?_ ?_ <;> intro hg149 <;> (try simp only [hg149, go_sem])
          · (try simp only [go_sem, hg149])
            refine IsK.go (by assumption) ?_
            exact (Upd.sub (show 1 ≤ 1 by decide) (by simp [go_sem, envSub, Env.get, hg149, g4_bk1, g4_bk2] <;> ((try simp only [decide_eq_true_eq, decide_eq_false_iff_not] at hg149); omega)) (by simp [go_sem, heapSub, Heap.get, belowO] <;> ((try simp only [decide_eq_true_eq, decide_eq_false_iff_not] at hg149); omega)))
          · (try simp only [go_sem, hg149])
            refine IsK.go (by assumption) ?_
            exact (Upd.sub (show 1 ≤ 1 by decide) (by simp [go_sem, envSub, Env.get, hg149, g4_bk1, g4_bk2] <;> ((try simp only [decide_eq_true_eq, decide_eq_false_iff_not] at hg149); omega)) (by simp [go_sem, heapSub, Heap.get, belowO] <;> ((try simp only [decide_eq_true_eq, decide_eq_false_iff_not] at hg149); omega)))
        refine aw_cond rfl (fun hc => ?_) (fun hc => ?_)
        · replace hF := if_t hc hF
          obtain ⟨l150, h151, hF⟩ := bind_some hF
          obtain ⟨⟨⟩, h152, hF⟩ := bind_some hF
          replace h152 := chk_len h152
          (try simp only [List.length_set] at h152)
          refine aw_region ?_
          (try simp only [go_sem])
          refine call_own (slices_rotateCmpFunc_Window_ok g4_en g4_bl g4_ok h151) 0 (by simp only [go_sem]) (by simp only [go_sem]; (try rfl)) (by simp only [go_sem, g4_bk1, g4_bk2]; (try trivial)) (by simp only [go_sem]; (try trivial)) ?_
          (try dsimp only); (try simp only [go_sem])
          (repeat (refine IsQ.go (by assumption) ?_; (try dsimp only); (try simp only [reduceCtorEq, E0])))
          cases hF
          exact ⟨_, rfl, (Upd.sub (show 1 ≤ 1 by decide) (by simp [go_sem, envSub, Env.get, g4_bk1, g4_bk2, h152]) (by simp [go_sem, heapSub, Heap.get, belowO]))⟩
        · replace hF := if_f hc hF
          refine aw_skip ?_
          (repeat (refine IsQ.go (by assumption) ?_; (try dsimp only); (try simp only [reduceCtorEq, E0])))
          cases hF
          exact ⟨_, rfl, (Upd.sub (show 1 ≤ 1 by decide) (by simp [go_sem, envSub, Env.get, g4_bk1, g4_bk2]) (by simp [go_sem, heapSub, Heap.get, belowO]))⟩
      rintro l147 hF
      (try dsimp only at hF ⊢)
      refine aw_joinK hF (fun (l156 : (List T_api_Window)) => ⟨[(0, .os 0 0 l156.length), (3, .p (vi v3)), (4, .fn (.func g4_f) g4_a g4_c), (18, .p (vi (w64 (((IntKind.u64.wrap) (w64 (v1 + v3))).fdiv 2)))), (24, .p (vi (w64 ((w64 ((w64 (((IntKind.u64.wrap) (w64 (v1 + v3))).fdiv 2)) + v2)) - n133))))], [(0, .slice (l156.map T_api_Window.c))], 1⟩) ?_ ?_
      · intro z157 hF hr157 Q hQ
        refine aw_srJ ⟨[(0, .os 0 0 l147.length), (1, .p (vi v1)), (3, .p (vi v3)), (4, .fn (.func g4_f) g4_a g4_c), (18, .p (vi (w64 (((IntKind.u64.wrap) (w64 (v1 + v3))).fdiv 2)))), (20, .p (vi n133)), (24, .p (vi (w64 ((w64 ((w64 (((IntKind.u64.wrap) (w64 (v1 + v3))).fdiv 2)) + v2)) - n133)))), (199, .p (vb ((decide (v1 < n133)) && (decide (n133 < w64 (((IntKind.u64.wrap) (w64 (v1 + v3))).fdiv 2))))))], [(0, .slice (l147.map T_api_Window.c))], 1⟩ (fun K hK => ?_) ?_
        · (try simp only [go_sem])
          (try simp only [go_sem])
          refine vOps_split rfl ?_ ?_ <;> intro hg158 <;> (try simp only [hg158, go_sem])
          · (try simp only [go_sem, hg158])
            refine IsK.go (by assumption) ?_
            exact (Upd.sub (show 1 ≤ 1 by decide) (by simp [go_sem, envSub, Env.get, hg158, g4_bk1, g4_bk2] <;> ((try simp only [decide_eq_true_eq, decide_eq_false_iff_not] at hg158); omega)) (by simp [go_sem, heapSub, Heap.get, belowO] <;> ((try simp only [decide_eq_true_eq, decide_eq_false_iff_not] at hg158); omega)))
          · (try simp only [go_sem, hg158])
            refine IsK.go (by assumption) ?_
            exact (Upd.sub (show 1 ≤ 1 by decide) (by simp [go_sem, envSub, Env.get, hg158, g4_bk1, g4_bk2] <;> ((try simp only [decide_eq_true_eq, decide_eq_false_iff_not] at hg158); omega)) (by simp [go_sem, heapSub, Heap.get, belowO] <;> ((try simp only [decide_eq_true_eq, decide_eq_false_iff_not] at hg158); omega)))
        refine aw_cond rfl (fun hc => ?_) (fun hc => ?_)
        · replace hF := if_t hc hF
          obtain ⟨l159, h160, hF⟩ := bind_some hF
          obtain ⟨⟨⟩, h161, hF⟩ := bind_some hF
          replace h161 := chk_len h161
          (try simp only [List.length_set] at h161)
          refine aw_region ?_
          (try simp only [go_sem])
          refine call_own (ih h160) 0 (by simp only [go_sem]) (by simp only [go_sem]; (try rfl)) (by simp only [go_sem, g4_bk1, g4_bk2]; (try trivial)) (by simp only [go_sem]; (try trivial)) ?_
          (try dsimp only); (try simp only [go_sem])
          (repeat (refine IsQ.go (by assumption) ?_; (try dsimp only); (try simp only [reduceCtorEq, E0])))
          cases hF
          exact ⟨_, rfl, (Upd.sub (show 1 ≤ 1 by decide) (by simp [go_sem, envSub, Env.get, g4_bk1, g4_bk2, h161]) (by simp [go_sem, heapSub, Heap.get, belowO]))⟩
        · replace hF := if_f hc hF
          refine aw_skip ?_
          (repeat (refine IsQ.go (by assumption) ?_; (try dsimp only); (try simp only [reduceCtorEq, E0])))
          cases hF
          exact ⟨_, rfl, (Upd.sub (show 1 ≤ 1 by decide) (by simp [go_sem, envSub, Env.get, g4_bk1, g4_bk2]) (by simp [go_sem, heapSub, Heap.get, belowO]))⟩
      rintro l156 hF
      (try dsimp only at hF ⊢)
      refine aw_srJ ⟨[(0, .os 0 0 l156.length), (3, .p (vi v3)), (4, .fn (.func g4_f) g4_a g4_c), (18, .p (vi (w64 (((IntKind.u64.wrap) (w64 (v1 + v3))).fdiv 2)))), (24, .p (vi (w64 ((w64 ((w64 (((IntKind.u64.wrap) (w64 (v1 + v3))).fdiv 2)) + v2)) - n133)))), (213, .p (vb ((decide (w64 (((IntKind.u64.wrap) (w64 (v1 + v3))).fdiv 2) < w64 ((w64 ((w64 (((IntKind.u64.wrap) (w64 (v1 + v3))).fdiv 2)) + v2)) - n133))) && (decide (w64 ((w64 ((w64 (((IntKind.u64.wrap) (w64 (v1 + v3))).fdiv 2)) + v2)) - n133) < v3)))))], [(0, .slice (l156.map T_api_Window.c))], 1⟩ (fun K hK => ?_) ?_
      · (try simp only [go_sem])
        (try simp only [go_sem])
        refine vOps_split rfl ?_ ?_ <;> intro hg162 <;> (try simp only [hg162, go_sem])
        · (try simp only [go_sem, hg162])
          refine IsK.go (by assumption) ?_
          exact (Upd.sub (show 1 ≤ 1 by decide) (by simp [go_sem, envSub, Env.get, hg162, g4_bk1, g4_bk2] <;> ((try simp only [decide_eq_true_eq, decide_eq_false_iff_not] at hg162); omega)) (by simp [go_sem, heapSub, Heap.get, belowO] <;> ((try simp only [decide_eq_true_eq, decide_eq_false_iff_not] at hg162); omega)))
        · (try simp only [go_sem, hg162])
          refine IsK.go (by assumption) ?_
          exact (Upd.sub (show 1 ≤ 1 by decide) (by simp [go_sem, envSub, Env.get, hg162, g4_bk1, g4_bk2] <;> ((try simp only [decide_eq_true_eq, decide_eq_false_iff_not] at hg162); omega)) (by simp [go_sem, heapSub, Heap.get, belowO] <;> ((try simp only [decide_eq_true_eq, decide_eq_false_iff_not] at hg162); omega)))
      refine aw_cond rfl (fun hc => ?_) (fun hc => ?_)
      · replace hF := if_t hc hF
        obtain ⟨l163, h164, hF⟩ := bind_some hF
        obtain ⟨⟨⟩, h165, hF⟩ := bind_some hF
        replace h165 := chk_len h165
        (try simp only [List.length_set] at h165)
        refine aw_region ?_
        (try simp only [go_sem])
        refine call_own (ih h164) 0 (by simp only [go_sem]) (by simp only [go_sem]; (try rfl)) (by simp only [go_sem, g4_bk1, g4_bk2]; (try trivial)) (by simp only [go_sem]; (try trivial)) ?_
        (try dsimp only); (try simp only [go_sem])
        (repeat (refine IsQ.go (by assumption) ?_; (try dsimp only); (try simp only [reduceCtorEq, E0])))
        cases hF
        first | (simp only [go_sem]; done) | simp only [go_sem, g4_bk1, g4_bk2, h165]
      · replace hF := if_f hc hF
        refine aw_skip ?_
        (repeat (refine IsQ.go (by assumption) ?_; (try dsimp only); (try simp only [reduceCtorEq, E0])))
        cases hF
        first | (simp only [go_sem]; done) | simp only [go_sem, g4_bk1, g4_bk2]
theorem slices_stableCmpFunc_Window_ok {fuel : Nat} {v0 : List T_api_Window} {v1 : Int} {g2_f : FuncId} {g2_a g2_c : List AV} {g2 : T_api_Window → T_api_Window → Option Int} (g2_en : enters Try.prog g2_f = true) (g2_bl : belowL 0 g2_a ∧ belowL 0 g2_c) (g2_ok : ∀ x0 x1 y0, g2 x0 x1 = some y0 → APure Try.prog g2_f (g2_a ++ [.p (.agg [vs x0.Advisory.b, vs x0.Component.b, vi x0.Severity, vi x0.From, vi x0.To, vb x0.Open]), .p (.agg [vs x1.Advisory.b, vs x1.Component.b, vi x1.Severity, vi x1.From, vi x1.To, vb x1.Open])] ++ g2_c) (.p (vi y0))) {rows} (hF : slices_stableCmpFunc_Window fuel v0 v1 g2 = some rows) : AMut Try.prog 157 [.os 0 0 v0.length, .p (vi v1), .fn (.func g2_f) g2_a g2_c] (v0.map T_api_Window.c) (.tup []) (rows.map T_api_Window.c) := by
  refine amut rc157_ok (by rfl) ?_
  simp only [rc157, argEnv, Nat.reduceAdd]
  unfold slices_stableCmpFunc_Window at hF
  obtain ⟨g2_bk1, g2_bk2⟩ := below_all g2_bl
  refine aw_srH fun K hK => ?_
  (try simp only [go_sem])
  refine IsK.go (by assumption) ?_
  refine aw_srH fun K hK => ?_
  (try simp only [go_sem])
  refine IsK.go (by assumption) ?_
  refine aw_seqH fun Q hQ => ?_
  refine aw_joinX hF (fun ((n10, l11) : Int × (List T_api_Window)) => ⟨[(0, .os 0 0 l11.length), (1, .p (vi v1)), (2, .fn (.func g2_f) g2_a g2_c), (6, .p (vi 20)), (7, .p (vi n10))], [(0, .slice (l11.map T_api_Window.c))], 1⟩) ?_ ?_
  · intro y12 hF hj12 Q hQ
    refine aw_blockH fun Q hQ => ?_
    refine aw_loopK hF (fun ((n4, n5, l6) : Int × Int × (List T_api_Window)) => ⟨[(0, .os 0 0 l6.length), (1, .p (vi v1)), (2, .fn (.func g2_f) g2_a g2_c), (6, .p (vi 20)), (7, .p (vi n4)), (8, .p (vi n5))], [(0, .slice (l6.map T_api_Window.c))], 1⟩) (Upd.sub (show 1 ≤ 1 by decide) (by simp [go_sem, envSub, Env.get, g2_bk1, g2_bk2]) (by simp [go_sem, heapSub, Heap.get, belowO])) ?_
    rintro ⟨n4, n5, l6⟩ z12 hF hb12 hr12 Q hQ
    (try dsimp only at hF ⊢)
    refine aw_seqH fun Q hQ => ?_
    refine aw_srH fun K hK => ?_
    (try simp only [go_sem])
    refine IsK.go (by assumption) ?_
    refine aw_cond rfl (fun hc => ?_) (fun hc => ?_)
    · replace hF := if_t hc hF
      refine aw_skip ?_
      (repeat (refine IsQ.go (by assumption) ?_; (try dsimp only); (try simp only [reduceCtorEq, E0])))
      refine aw_blockH fun Q hQ => ?_
      obtain ⟨l13, h14, hF⟩ := bind_some hF
      obtain ⟨⟨⟩, h15, hF⟩ := bind_some hF
      replace h15 := chk_len h15
      (try simp only [List.length_set] at h15)
      refine aw_srH fun K hK => ?_
      (try simp only [go_sem])
      refine call_own (slices_insertionSortCmpFunc_Window_ok g2_en g2_bl g2_ok h14) 0 (by simp only [go_sem]) (by simp only [go_sem]; (try rfl)) (by simp only [go_sem, g2_bk1, g2_bk2]; (try trivial)) (by simp only [go_sem]; (try trivial)) ?_
      (try dsimp only); (try simp only [go_sem])
      refine IsK.go (by assumption) ?_
      refine aw_srH fun K hK => ?_
      (try simp only [go_sem])
      refine IsK.go (by assumption) ?_
      refine aw_region ?_
      (try simp only [go_sem])
      (repeat (refine IsQ.go (by assumption) ?_; (try dsimp only); (try simp only [reduceCtorEq, E0])))
      cases hF
      exact ⟨_, rfl, (Upd.sub (show 1 ≤ 1 by decide) (by simp [go_sem, envSub, Env.get, g2_bk1, g2_bk2, h15]) (by simp [go_sem, heapSub, Heap.get, belowO]))⟩
    · replace hF := if_f hc hF
      refine aw_exit ?_
      (repeat (refine IsQ.go (by assumption) ?_; (try dsimp only); (try simp only [E0])))
      cases hF
      exact ⟨_, hb12 _ rfl, (Upd.sub (show 1 ≤ 1 by decide) (by simp [go_sem, envSub, Env.get, g2_bk1, g2_bk2]) (by simp [go_sem, heapSub, Heap.get, belowO]))⟩
  rintro ⟨n10, l11⟩ hF
  (try dsimp only at hF ⊢)
  (repeat (refine IsQ.go (by assumption) ?_; (try dsimp only); (try simp only [reduceCtorEq, E0])))
  obtain ⟨l16, h17, hF⟩ := bind_some hF
  obtain ⟨⟨⟩, h18, hF⟩ := bind_some hF
  replace h18 := chk_len h18
  (try simp only [List.length_set] at h18)
  refine aw_srH fun K hK => ?_
  (try simp only [go_sem])
  refine call_own (slices_insertionSortCmpFunc_Window_ok g2_en g2_bl g2_ok h17) 0 (by simp only [go_sem]) (by simp only [go_sem]; (try rfl)) (by simp only [go_sem, g2_bk1, g2_bk2]; (try trivial)) (by simp only [go_sem]; (try trivial)) ?_
  (try dsimp only); (try simp only [go_sem])
  refine IsK.go (by assumption) ?_
  refine aw_joinX hF (fun (l57 : (List T_api_Window)) => ⟨[], [(0, .slice (l57.map T_api_Window.c))], 1⟩) ?_ ?_
  · intro y58 hF hj58 Q hQ
    refine aw_blockH fun Q hQ => ?_
    refine aw_loopK hF (fun ((n37, l38) : Int × (List T_api_Window)) => ⟨[(0, .os 0 0 l38.length), (1, .p (vi v1)), (2, .fn (.func g2_f) g2_a g2_c), (6, .p (vi n37))], [(0, .slice (l38.map T_api_Window.c))], 1⟩) (Upd.sub (show 1 ≤ 1 by decide) (by simp [go_sem, envSub, Env.get, g2_bk1, g2_bk2, h18]) (by simp [go_sem, heapSub, Heap.get, belowO])) ?_
    rintro ⟨n37, l38⟩ z58 hF hb58 hr58 Q hQ
    (try dsimp only at hF ⊢)
    refine aw_seqH fun Q hQ => ?_
    refine aw_srH fun K hK => ?_
    (try simp only [go_sem])
    refine IsK.go (by assumption) ?_
    refine aw_cond rfl (fun hc => ?_) (fun hc => ?_)
    · replace hF := if_t hc hF
      refine aw_skip ?_
      (repeat (refine IsQ.go (by assumption) ?_; (try dsimp only); (try simp only [reduceCtorEq, E0])))
      refine aw_blockH fun Q hQ => ?_
      refine aw_srH fun K hK => ?_
      (try simp only [go_sem])
      refine IsK.go (by assumption) ?_
      refine aw_seqH fun Q hQ => ?_
      refine aw_joinX hF (fun ((n68, l69) : Int × (List T_api_Window)) => ⟨[(0, .os 0 0 l69.length), (1, .p (vi v1)), (2, .fn (.func g2_f) g2_a g2_c), (6, .p (vi n37)), (7, .p (vi n68))], [(0, .slice (l69.map T_api_Window.c))], 1⟩) ?_ ?_
      · intro y70 hF hj70 Q hQ
        refine aw_blockH fun Q hQ => ?_
        refine aw_loopK hF (fun ((n62, n63, l64) : Int × Int × (List T_api_Window)) => ⟨[(0, .os 0 0 l64.length), (1, .p (vi v1)), (2, .fn (.func g2_f) g2_a g2_c), (6, .p (vi n37)), (7, .p (vi n62)), (8, .p (vi n63))], [(0, .slice (l64.map T_api_Window.c))], 1⟩) (Upd.sub (show 1 ≤ 1 by decide) (by simp [go_sem, envSub, Env.get, g2_bk1, g2_bk2]) (by simp [go_sem, heapSub, Heap.get, belowO])) ?_
        rintro ⟨n62, n63, l64⟩ z70 hF hb70 hr70 Q hQ
        (try dsimp only at hF ⊢)
        refine aw_seqH fun Q hQ => ?_
        refine aw_srH fun K hK => ?_
        (try simp only [go_sem])
        refine IsK.go (by assumption) ?_
        refine aw_cond rfl (fun hc => ?_) (fun hc => ?_)
        · replace hF := if_t hc hF
          refine aw_skip ?_
          (repeat (refine IsQ.go (by assumption) ?_; (try dsimp only); (try simp only [reduceCtorEq, E0])))
          refine aw_blockH fun Q hQ => ?_
          obtain ⟨l71, h72, hF⟩ := bind_some hF
          obtain ⟨⟨⟩, h73, hF⟩ := bind_some hF
          replace h73 := chk_len h73
          (try simp only [List.length_set] at h73)
          refine aw_srH fun K hK => ?_
          (try simp only [go_sem])
          refine call_own (slices_symMergeCmpFunc_Window_ok g2_en g2_bl g2_ok h72) 0 (by simp only [go_sem]) (by simp only [go_sem]; (try rfl)) (by simp only [go_sem, g2_bk1, g2_bk2]; (try trivial)) (by simp only [go_sem]; (try trivial)) ?_
          (try dsimp only); (try simp only [go_sem])
          refine IsK.go (by assumption) ?_
          refine aw_srH fun K hK => ?_
          (try simp only [go_sem])
          refine IsK.go (by assumption) ?_
          refine aw_region ?_
          (try simp only [go_sem])
          (repeat (refine IsQ.go (by assumption) ?_; (try dsimp only); (try simp only [reduceCtorEq, E0])))
          cases hF
          exact ⟨_, rfl, (Upd.sub (show 1 ≤ 1 by decide) (by simp [go_sem, envSub, Env.get, g2_bk1, g2_bk2, h73]) (by simp [go_sem, heapSub, Heap.get, belowO]))⟩
        · replace hF := if_f hc hF
          refine aw_exit ?_
          (repeat (refine IsQ.go (by assumption) ?_; (try dsimp only); (try simp only [E0])))
          cases hF
          exact ⟨_, hb70 _ rfl, (Upd.sub (show 1 ≤ 1 by decide) (by simp [go_sem, envSub, Env.get, g2_bk1, g2_bk2]) (by simp [go_sem, heapSub, Heap.get, belowO]))⟩
      rintro ⟨n68, l69⟩ hF
      (try dsimp only at hF ⊢)
      (repeat (refine IsQ.go (by assumption) ?_; (try dsimp only); (try simp only [reduceCtorEq, E0])))
      refine aw_seqH fun Q hQ => ?_
      refine aw_srH fun K hK => ?_
      (try simp only [go_sem])
      refine IsK.go (by assumption) ?_
      refine aw_srH fun K hK => ?_
      (try simp only [go_sem])
      refine IsK.go (by assumption) ?_
      refine aw_cond rfl (fun hc => ?_) (fun hc => ?_)
      · replace hF := if_t hc hF
        obtain ⟨l74, h75, hF⟩ := bind_some hF
        obtain ⟨⟨⟩, h76, hF⟩ := bind_some hF
        replace h76 := chk_len h76
        (try simp only [List.length_set] at h76)
        refine aw_region ?_
        (try simp only [go_sem])
        refine call_own (slices_symMergeCmpFunc_Window_ok g2_en g2_bl g2_ok h75) 0 (by simp only [go_sem]) (by simp only [go_sem]; (try rfl)) (by simp only [go_sem, g2_bk1, g2_bk2]; (try trivial)) (by simp only [go_sem]; (try trivial)) ?_
        (try dsimp only); (try simp only [go_sem])
        (repeat (refine IsQ.go (by assumption) ?_; (try dsimp only); (try simp only [reduceCtorEq, E0])))
        refine aw_region ?_
        (try simp only [go_sem])
        (repeat (refine IsQ.go (by assumption) ?_; (try dsimp only); (try simp only [reduceCtorEq, E0])))
        cases hF
        exact ⟨_, rfl, (Upd.sub (show 1 ≤ 1 by decide) (by simp [go_sem, envSub, Env.get, g2_bk1, g2_bk2, h76]) (by simp [go_sem, heapSub, Heap.get, belowO]))⟩
      · replace hF := if_f hc hF
        refine aw_skip ?_
        (repeat (refine IsQ.go (by assumption) ?_; (try dsimp only); (try simp only [reduceCtorEq, E0])))
        refine aw_region ?_
        (try simp only [go_sem])
        (repeat (refine IsQ.go (by assumption) ?_; (try dsimp only); (try simp only [reduceCtorEq, E0])))
        cases hF
        exact ⟨_, rfl, (Upd.sub (show 1 ≤ 1 by decide) (by simp [go_sem, envSub, Env.get, g2_bk1, g2_bk2]) (by simp [go_sem, heapSub, Heap.get, belowO]))⟩
    · replace hF := if_f hc hF
      refine aw_exit ?_
      (repeat (refine IsQ.go (by assumption) ?_; (try dsimp only); (try simp only [E0])))
      cases hF
      exact ⟨_, hb58 _ rfl, (Upd.sub (show 1 ≤ 1 by decide) (by simp [go_sem, envSub]) (by simp [go_sem, heapSub, Heap.get, belowO]))⟩
  rintro l57 hF
  (try dsimp only at hF ⊢)
  (repeat (refine IsQ.go (by assumption) ?_; (try dsimp only); (try simp only [reduceCtorEq, E0])))
  cases hF
  first | (simp only [go_sem]; done) | simp only [go_sem, g2_bk1, g2_bk2, h18]
theorem slices_SortStableFunc_Window_Window_ok {fuel : Nat} {v0 : List T_api_Window} {g1_f : FuncId} {g1_a g1_c : List AV} {g1 : T_api_Window → T_api_Window → Option Int} (g1_en : enters Try.prog g1_f = true) (g1_bl : belowL 0 g1_a ∧ belowL 0 g1_c) (g1_ok : ∀ x0 x1 y0, g1 x0 x1 = some y0 → APure Try.prog g1_f (g1_a ++ [.p (.agg [vs x0.Advisory.b, vs x0.Component.b, vi x0.Severity, vi x0.From, vi x0.To, vb x0.Open]), .p (.agg [vs x1.Advisory.b, vs x1.Component.b, vi x1.Severity, vi x1.From, vi x1.To, vb x1.Open])] ++ g1_c) (.p (vi y0))) {rows} (hF : slices_SortStableFunc_Window_Window fuel v0 g1 = some rows) : AMut Try.prog 149 [.os 0 0 v0.length, .fn (.func g1_f) g1_a g1_c] (v0.map T_api_Window.c) (.tup []) (rows.map T_api_Window.c) := by
  refine amut rc149_ok (by rfl) ?_
  simp only [rc149, argEnv, Nat.reduceAdd]
  unfold slices_SortStableFunc_Window_Window at hF
  obtain ⟨g1_bk1, g1_bk2⟩ := below_all g1_bl
  obtain ⟨l1, h2, hF⟩ := bind_some hF
  obtain ⟨⟨⟩, h3, hF⟩ := bind_some hF
  replace h3 := chk_len h3
  (try simp only [List.length_set] at h3)
  refine aw_region ?_
  (try simp only [go_sem])
  refine call_own (slices_stableCmpFunc_Window_ok g1_en g1_bl g1_ok h2) 0 (by simp only [go_sem]) (by simp only [go_sem]; (try rfl)) (by simp only [go_sem, g1_bk1, g1_bk2]; (try trivial)) (by simp only [go_sem]; (try trivial)) ?_
  (try dsimp only); (try simp only [go_sem])
  (repeat (refine IsQ.go (by assumption) ?_; (try dsimp only); (try simp only [reduceCtorEq, E0])))
  cases hF
  first | (simp only [go_sem]; done) | simp only [go_sem, g1_bk1, g1_bk2, h3]
theorem history_sortedBy_Window_ok {fuel : Nat} {v0 : List T_api_Window} {g1_f : FuncId} {g1_a g1_c : List AV} {g1 : T_api_Window → T_api_Window → Option Int} (g1_en : enters Try.prog g1_f = true) (g1_bl : belowL 0 g1_a ∧ belowL 0 g1_c) (g1_ok : ∀ x0 x1 y0, g1 x0 x1 = some y0 → APure Try.prog g1_f (g1_a ++ [.p (.agg [vs x0.Advisory.b, vs x0.Component.b, vi x0.Severity, vi x0.From, vi x0.To, vb x0.Open]), .p (.agg [vs x1.Advisory.b, vs x1.Component.b, vi x1.Severity, vi x1.From, vi x1.To, vb x1.Open])] ++ g1_c) (.p (vi y0))) {r0} (hF : history_sortedBy_Window fuel v0 g1 = some r0) : APure Try.prog 134 [.p (.sl (v0.map T_api_Window.c)), .fn (.func g1_f) g1_a g1_c] (.p (.sl (r0.map T_api_Window.c))) := by
  refine apureZ 2 rc134_ok rfl ?_
  simp only [rc134, argEnv, Nat.reduceAdd]
  unfold history_sortedBy_Window at hF
  obtain ⟨g1_bk1, g1_bk2⟩ := below_all g1_bl
  refine aw_srH fun K hK => ?_
  (try simp only [go_sem])
  refine IsK.go (by assumption) ?_
  obtain ⟨l1, h2, hF⟩ := bind_some hF
  refine aw_srH fun K hK => ?_
  (try simp only [go_sem])
  refine call_new (slices_Clone_Window_Window_own  h2) rfl (by simp only [go_sem]) ?_
  (try dsimp only); (try simp only [go_sem])
  refine IsK.go (by assumption) ?_
  obtain ⟨l3, h4, hF⟩ := bind_some hF
  obtain ⟨⟨⟩, h5, hF⟩ := bind_some hF
  replace h5 := chk_len h5
  (try simp only [List.length_set] at h5)
  refine aw_srH fun K hK => ?_
  (try simp only [go_sem])
  refine call_own (slices_SortStableFunc_Window_Window_ok g1_en g1_bl g1_ok h4) 0 (by simp only [go_sem]) (by simp only [go_sem]; (try rfl)) (by simp only [go_sem, g1_bk1, g1_bk2]; (try trivial)) (by simp only [go_sem]; (try trivial)) ?_
  (try dsimp only); (try simp only [go_sem])
  refine IsK.go (by assumption) ?_
  refine aw_srH fun K hK => ?_
  (try simp only [go_sem])
  refine IsK.go (by assumption) ?_
  refine aw_ret ?_
  (repeat (refine IsQ.go (by assumption) ?_; (try dsimp only); (try simp only [reduceCtorEq, E0])))
  cases hF
  first | (simp only [go_sem]; done) | simp only [go_sem, h5]
theorem cmp_isNaN_int_ok {v0 : Int} {r0} (hF : cmp_isNaN_int v0 = some r0) : APure Try.prog 140 [.p (vi v0)] (.p (vb r0)) := by
  refine apureZ 2 rc140_ok rfl ?_
  simp only [rc140, argEnv]
  unfold cmp_isNaN_int at hF
  refine aw_srH fun K hK => ?_
  (try simp only [go_sem])
  refine IsK.go (by assumption) ?_
  refine aw_srH fun K hK => ?_
  (try simp only [go_sem])
  refine IsK.go (by assumption) ?_
  refine aw_ret ?_
  (repeat (refine IsQ.go (by assumption) ?_; (try dsimp only); (try simp only [reduceCtorEq, E0])))
  cases hF
  simp only [go_sem]
theorem cmp_Compare_int_ok {v0 : Int} {v1 : Int} {r0} (hF : cmp_Compare_int v0 v1 = some r0) : APure Try.prog 118 [.p (vi v0), .p (vi v1)] (.p (vi r0)) := by
  refine apureZ 2 rc118_ok rfl ?_
  simp only [rc118, argEnv, Nat.reduceAdd]
  unfold cmp_Compare_int at hF
  refine aw_srH fun K hK => ?_
  (try simp only [go_sem])
  refine IsK.go (by assumption) ?_
  obtain ⟨y1, h2, hF⟩ := bind_some hF
  refine aw_srH fun K hK => ?_
  (try simp only [go_sem])
  refine call_pure (cmp_isNaN_int_ok h2) rfl (by simp only [go_sem]) (by simp only [go_sem]) ?_
  (try dsimp only); (try simp only [go_sem])
  refine IsK.go (by assumption) ?_
  obtain ⟨y3, h4, hF⟩ := bind_some hF
  refine aw_srH fun K hK => ?_
  (try simp only [go_sem])
  refine call_pure (cmp_isNaN_int_ok h4) rfl (by simp only [go_sem]) (by simp only [go_sem]) ?_
  (try dsimp only); (try simp only [go_sem])
  refine IsK.go (by assumption) ?_
  refine aw_seqH fun Q hQ => ?_
  refine aw_srH fun K hK => ?_
  (try simp only [go_sem])
  refine IsK.go (by assumption) ?_
  refine aw_cond rfl (fun hc => ?_) (fun hc => ?_)
  · replace hF := if_t hc hF
    refine aw_seqH fun Q hQ => ?_
    refine aw_srH fun K hK => ?_
    (try simp only [go_sem])
    refine IsK.go (by assumption) ?_
    refine aw_cond rfl (fun hc => ?_) (fun hc => ?_)
    · replace hF := if_t hc hF
      refine aw_srH fun K hK => ?_
      (try simp only [go_sem])
      refine IsK.go (by assumption) ?_
      refine aw_ret ?_
      (repeat (refine IsQ.go (by assumption) ?_; (try dsimp only); (try simp only [reduceCtorEq, E0])))
      cases hF
      simp only [go_sem]
    · replace hF := if_f hc hF
      refine aw_skip ?_
      (repeat (refine IsQ.go (by assumption) ?_; (try dsimp only); (try simp only [reduceCtorEq, E0])))
      refine aw_srH fun K hK => ?_
      (try simp only [go_sem])
      refine IsK.go (by assumption) ?_
      refine aw_ret ?_
      (repeat (refine IsQ.go (by assumption) ?_; (try dsimp only); (try simp only [reduceCtorEq, E0])))
      cases hF
      simp only [go_sem]
  · replace hF := if_f hc hF
    refine aw_skip ?_
    (repeat (refine IsQ.go (by assumption) ?_; (try dsimp only); (try simp only [reduceCtorEq, E0])))
    refine aw_seqH fun Q hQ => ?_
    refine aw_srH fun K hK => ?_
    (try simp only [go_sem])
    refine IsK.go (by assumption) ?_
    refine aw_cond rfl (fun hc => ?_) (fun hc => ?_)
    · replace hF := if_t hc hF
      refine aw_srH fun K hK => ?_
      (try simp only [go_sem])
      refine IsK.go (by assumption) ?_
      refine aw_ret ?_
      (repeat (refine IsQ.go (by assumption) ?_; (try dsimp only); (try simp only [reduceCtorEq, E0])))
      cases hF
      simp only [go_sem]
    · replace hF := if_f hc hF
      refine aw_skip ?_
      (repeat (refine IsQ.go (by assumption) ?_; (try dsimp only); (try simp only [reduceCtorEq, E0])))
      refine aw_seqH fun Q hQ => ?_
      refine aw_srH fun K hK => ?_
      (try simp only [go_sem])
      refine IsK.go (by assumption) ?_
      refine aw_cond rfl (fun hc => ?_) (fun hc => ?_)
      · replace hF := if_t hc hF
        refine aw_srH fun K hK => ?_
        (try simp only [go_sem])
        refine IsK.go (by assumption) ?_
        refine aw_ret ?_
        (repeat (refine IsQ.go (by assumption) ?_; (try dsimp only); (try simp only [reduceCtorEq, E0])))
        cases hF
        simp only [go_sem]
      · replace hF := if_f hc hF
        refine aw_skip ?_
        (repeat (refine IsQ.go (by assumption) ?_; (try dsimp only); (try simp only [reduceCtorEq, E0])))
        refine aw_seqH fun Q hQ => ?_
        refine aw_srH fun K hK => ?_
        (try simp only [go_sem])
        refine IsK.go (by assumption) ?_
        refine aw_cond rfl (fun hc => ?_) (fun hc => ?_)
        · replace hF := if_t hc hF
          refine aw_srH fun K hK => ?_
          (try simp only [go_sem])
          refine IsK.go (by assumption) ?_
          refine aw_ret ?_
          (repeat (refine IsQ.go (by assumption) ?_; (try dsimp only); (try simp only [reduceCtorEq, E0])))
          cases hF
          simp only [go_sem]
        · replace hF := if_f hc hF
          refine aw_skip ?_
          (repeat (refine IsQ.go (by assumption) ?_; (try dsimp only); (try simp only [reduceCtorEq, E0])))
          refine aw_srH fun K hK => ?_
          (try simp only [go_sem])
          refine IsK.go (by assumption) ?_
          refine aw_ret ?_
          (repeat (refine IsQ.go (by assumption) ?_; (try dsimp only); (try simp only [reduceCtorEq, E0])))
          cases hF
          simp only [go_sem]
end Go.Abs
