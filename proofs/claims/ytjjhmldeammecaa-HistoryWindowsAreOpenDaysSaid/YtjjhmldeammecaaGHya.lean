/- The walks of these functions against the plain ones (printed by a program of this repo). -/
import Derived.Test.YtjjhmldeammecaaRHy
import Derived.Test.YtjjhmldeammecaaGHwb
namespace Go.Abs
open Go Go.Proofs
set_option maxRecDepth 8000
theorem law11_HistoryWindowsAreOpenDays_1_ok {v0 : T_api_Exposure} {v1 : T_api_Window} {r0} (hF : law11_HistoryWindowsAreOpenDays_1 v0 v1 = some r0) : APure Try.prog 44 [.p (.agg [vs v0.Advisory.b, vs v0.Component.b, vi v0.Severity]), .p (.ptr [vs v1.Advisory.b, vs v1.Component.b, vi v1.Severity, vi v1.From, vi v1.To, vb v1.Open])] (.p (vb r0)) := by
  refine apureZ 2 rc44_ok rfl ?_
  simp only [rc44, argEnv, Nat.reduceAdd]
  unfold law11_HistoryWindowsAreOpenDays_1 at hF
  refine aw_srH fun K hK => ?_
  (try simp only [go_sem])
  refine IsK.go (by assumption) ?_
  refine aw_srJ ⟨[(3, .p (vb ((sEq v0.Advisory.b v1.Advisory.b) && (sEq v0.Component.b v1.Component.b))))], [], 1⟩ (fun K hK => ?_) ?_
  · (try simp only [go_sem])
    (try simp only [go_sem])
    refine vOps_split rfl ?_ ?_ <;> intro hg1 <;> (try simp only [hg1, go_sem])
    · (try simp only [go_sem, hg1])
      refine IsK.go (by assumption) ?_
      exact (Upd.sub (show 1 ≤ 1 by decide) (by simp [go_sem, envSub, Env.get, hg1] <;> ((try simp only [decide_eq_true_eq, decide_eq_false_iff_not] at hg1); omega)) trivial)
    · (try simp only [go_sem, hg1])
      refine IsK.go (by assumption) ?_
      exact (Upd.sub (show 1 ≤ 1 by decide) (by simp [go_sem, envSub, Env.get, hg1] <;> ((try simp only [decide_eq_true_eq, decide_eq_false_iff_not] at hg1); omega)) trivial)
  refine aw_ret ?_
  (repeat (refine IsQ.go (by assumption) ?_; (try dsimp only); (try simp only [reduceCtorEq, E0])))
  cases hF
  simp only [go_sem]
theorem law11_HistoryWindowsAreOpenDays_ok {fuel : Nat} {v0 : T_api_Story} {v1 : Int} {r0} (hF : law11_HistoryWindowsAreOpenDays fuel v0 v1 = some r0) : APure Try.prog 10 [.p (.agg [vs v0.Product.b, .sl (v0.Releases.map T_api_Release.c), .sl (v0.Known.map T_api_Published.c), vi v0.Until]), .p (vi v1)] (.p (vb r0)) := by
  refine apureZ 2 rc10_ok rfl ?_
  simp only [rc10, argEnv, Nat.reduceAdd]
  unfold law11_HistoryWindowsAreOpenDays at hF
  refine aw_srH fun K hK => ?_
  (try simp only [go_sem])
  refine IsK.go (by assumption) ?_
  obtain ⟨⟨y1, y2⟩, h3, hF⟩ := bind_some hF
  (try dsimp only at hF)
  refine aw_srH fun K hK => ?_
  (try simp only [go_sem])
  refine call_pure (history_OpenOn_ok h3) rfl (by simp only [go_sem]) (by simp only [go_sem]) ?_
  (try dsimp only); (try simp only [go_sem])
  refine IsK.go (by assumption) ?_
  obtain ⟨⟨y4, y5⟩, h6, hF⟩ := bind_some hF
  (try dsimp only at hF)
  refine aw_srH fun K hK => ?_
  (try simp only [go_sem])
  refine call_pure (history_Windows_ok h6) rfl (by simp only [go_sem]) (by simp only [go_sem]) ?_
  (try dsimp only); (try simp only [go_sem])
  refine IsK.go (by assumption) ?_
  refine aw_seqH fun Q hQ => ?_
  refine aw_srJ ⟨[(1, .p (vi v1)), (2, .bp 0 0), (5, .p (.sl (y1.map T_api_Exposure.c))), (6, .p (vi y2)), (7, .p (.sl (y4.map T_api_Window.c))), (32, .p (vb ((y2 != 0) || (y5 != 0))))], [(0, .cells [.p (vs v0.Product.b), .p (.sl (v0.Releases.map T_api_Release.c)), .p (.sl (v0.Known.map T_api_Published.c)), .p (vi v0.Until)])], 1⟩ (fun K hK => ?_) ?_
  · (try simp only [go_sem])
    (try simp only [go_sem])
    refine vOps_split rfl ?_ ?_ <;> intro hg7 <;> (try simp only [hg7, go_sem])
    · (try simp only [go_sem, hg7])
      refine IsK.go (by assumption) ?_
      exact (Upd.sub (show 1 ≤ 1 by decide) (by simp [go_sem, envSub, Env.get, hg7] <;> ((try simp only [decide_eq_true_eq, decide_eq_false_iff_not] at hg7); omega)) (by simp [go_sem, heapSub, Heap.get, belowO] <;> ((try simp only [decide_eq_true_eq, decide_eq_false_iff_not] at hg7); omega)))
    · (try simp only [go_sem, hg7])
      refine IsK.go (by assumption) ?_
      exact (Upd.sub (show 1 ≤ 1 by decide) (by simp [go_sem, envSub, Env.get, hg7] <;> ((try simp only [decide_eq_true_eq, decide_eq_false_iff_not] at hg7); omega)) (by simp [go_sem, heapSub, Heap.get, belowO] <;> ((try simp only [decide_eq_true_eq, decide_eq_false_iff_not] at hg7); omega)))
  refine aw_cond rfl (fun hc => ?_) (fun hc => ?_)
  · replace hF := if_t hc hF
    obtain ⟨⟨y8, y9⟩, h10, hF⟩ := bind_some hF
    (try dsimp only at hF)
    refine aw_srH fun K hK => ?_
    (try simp only [go_sem])
    refine call_pure (ref11_OpenOn_ok h10) rfl (by simp only [go_sem]) (by simp only [go_sem]) ?_
    (try dsimp only); (try simp only [go_sem])
    refine IsK.go (by assumption) ?_
    obtain ⟨b13, h14, hF⟩ := bind_some hF
    refine aw_srJ ⟨[(4, .p (vb b13))], [], 1⟩ (fun K hK => ?_) ?_
    · (try simp only [go_sem])
      (try simp only [go_sem])
      refine vOps_split rfl ?_ ?_ <;> intro hg15 <;> (try simp only [hg15, go_sem])
      · simp only [hg15, gbS] at h14
        obtain ⟨y16, h17, h14⟩ := bind_some h14
        (try simp only [go_sem, hg15])
        refine call_pure (law11_told_ok h17) rfl (by simp only [go_sem]) (by simp only [go_sem]) ?_
        (try dsimp only); (try simp only [go_sem, hg15])
        cases h14
        (try simp only [go_sem, hg15])
        refine IsK.go (by assumption) ?_
        exact (Upd.sub (show 1 ≤ 1 by decide) (by simp [go_sem, envSub, Env.get] <;> ((try simp only [decide_eq_true_eq, decide_eq_false_iff_not] at hg15); omega)) trivial)
      · simp only [hg15, gbS] at h14
        cases h14
        (try simp only [go_sem, hg15])
        refine IsK.go (by assumption) ?_
        exact (Upd.sub (show 1 ≤ 1 by decide) (by simp [go_sem, envSub, Env.get] <;> ((try simp only [decide_eq_true_eq, decide_eq_false_iff_not] at hg15); omega)) trivial)
    refine aw_ret ?_
    (repeat (refine IsQ.go (by assumption) ?_; (try dsimp only); (try simp only [reduceCtorEq, E0])))
    cases hF
    simp only [go_sem]
  · replace hF := if_f hc hF
    refine aw_skip ?_
    (repeat (refine IsQ.go (by assumption) ?_; (try dsimp only); (try simp only [reduceCtorEq, E0])))
    refine aw_srH fun K hK => ?_
    (try simp only [go_sem])
    refine IsK.go (by assumption) ?_
    refine aw_seqH fun Q hQ => ?_
    refine aw_srH fun K hK => ?_
    (try simp only [go_sem])
    refine IsK.go (by assumption) ?_
    refine aw_joinX hF (fun (n41 : Int) => ⟨[(5, .p (.sl (y1.map T_api_Exposure.c))), (11, .p (vi n41))], [], 1⟩) ?_ ?_
    · intro y42 hF hj42 Q hQ
      refine aw_blockH fun Q hQ => ?_
      refine aw_fact 7 rfl (fun _ _ => sl_lim) fun hl20 => ?_; simp only [List.length_map, top] at hl20
      refine aw_forL hF (fun i18 n31 => ⟨[(1, .p (vi v1)), (5, .p (.sl (y1.map T_api_Exposure.c))), (7, .p (.sl (y4.map T_api_Window.c))), (11, .p (vi n31)), (45, .p (.sl (y4.map T_api_Window.c))), (46, .p (vi (y4.length : Int))), (47, .p (vi (i18 : Int)))], [], 1⟩) (Upd.sub (show 1 ≤ 1 by decide) (by simp [go_sem, envSub, Env.get]) trivial) ?_ ?_
      · rintro n31 hy Q hQ
        (try dsimp only at hy ⊢)
        have hlt : decide (((y4.length : Int) : Int) < (y4.length : Int)) = false := by simp
        refine aw_srH fun K hK => ?_
        (try simp only [go_sem, hlt])
        refine IsK.go (by assumption) ?_
        refine aw_seqH fun Q hQ => ?_
        refine aw_cond rfl (fun hc => ?_) (fun hc => ?_)
        · cases hc
        refine aw_exit ?_
        (repeat (refine IsQ.go (by assumption) ?_; (try dsimp only); (try simp only [E0])))
        exact ⟨_, hy, (Upd.sub (show 1 ≤ 1 by decide) (by simp [go_sem, envSub, Env.get]) trivial)⟩
      · rintro i18 x21 n31 z42 hi hx hF hb42 hr42 Q hQ
        (try dsimp only at hF ⊢)
        have hlt : decide ((i18 : Int) < (y4.length : Int)) = true := by simp; omega
        have hw19 : IntKind.i64.wrap ((i18 : Int) + 1) = ((i18 + 1 : Nat) : Int) := by rw [wrap64 (by omega) (by omega)]; simp
        refine aw_srH fun K hK => ?_
        (try simp only [go_sem, hlt])
        refine IsK.go (by assumption) ?_
        refine aw_seqH fun Q hQ => ?_
        refine aw_cond rfl (fun hc => ?_) (fun hc => ?_)
        rotate_left; · cases hc
        refine aw_skip ?_
        (repeat (refine IsQ.go (by assumption) ?_; (try dsimp only); (try simp only [reduceCtorEq, E0])))
        refine aw_seqH fun Q hQ => ?_
        refine aw_blockH fun Q hQ => ?_
        refine aw_srH fun K hK => ?_
        (try simp only [go_sem, hx])
        refine IsK.go (by assumption) ?_
        refine aw_seqH fun Q hQ => ?_
        refine aw_srH fun K hK => ?_
        (try simp only [go_sem])
        refine IsK.go (by assumption) ?_
        refine aw_cond rfl (fun hc => ?_) (fun hc => ?_)
        · replace hF := if_t hc hF
          refine aw_srH fun K hK => ?_
          (try simp only [go_sem])
          refine IsK.go (by assumption) ?_
          refine aw_ret ?_
          (repeat (refine IsQ.go (by assumption) ?_; (try dsimp only); (try simp only [reduceCtorEq, E0])))
          cases hF
          cases (hj42 _ (hr42 _ rfl))
          first | (simp only [go_sem]; done) | simp only [go_sem, hw19]
        · replace hF := if_f hc hF
          refine aw_skip ?_
          (repeat (refine IsQ.go (by assumption) ?_; (try dsimp only); (try simp only [reduceCtorEq, E0])))
          refine aw_seqH fun Q hQ => ?_
          obtain ⟨l43, h44, hF⟩ := bind_some hF
          obtain ⟨h44, h44v⟩ := lslice_some h44; (try simp only [go_sem] at h44)
          refine aw_srH fun K hK => ?_
          (try simp only [go_sem, h44])
          refine IsK.go (by assumption) ?_
          refine aw_joinX hF (fun (_ : Unit) => ⟨[(1, .p (vi v1)), (5, .p (.sl (y1.map T_api_Exposure.c))), (7, .p (.sl (y4.map T_api_Window.c))), (11, .p (vi n31)), (13, .bp 1 0), (45, .p (.sl (y4.map T_api_Window.c))), (46, .p (vi (y4.length : Int))), (47, .p (vi (i18 : Int)))], [(1, .cells [.p (vs x21.Advisory.b), .p (vs x21.Component.b), .p (vi x21.Severity), .p (vi x21.From), .p (vi x21.To), .p (vb x21.Open)])], 2⟩) ?_ ?_
          · intro y49 hF hj49 Q hQ
            refine aw_blockH fun Q hQ => ?_
            refine aw_fact 59 rfl (fun _ _ => sl_lim) fun hl47 => ?_; simp only [top] at hl47
            replace hl47 : l43.length ≤ 9223372036854775807 := by first | exact hl47 | (simp [h44v] at hl47 ⊢; omega)
            refine aw_forL hF (fun i45 _ => ⟨[(1, .p (vi v1)), (5, .p (.sl (y1.map T_api_Exposure.c))), (7, .p (.sl (y4.map T_api_Window.c))), (11, .p (vi n31)), (13, .bp 1 0), (45, .p (.sl (y4.map T_api_Window.c))), (46, .p (vi (y4.length : Int))), (47, .p (vi (i18 : Int))), (59, .p (.sl (l43.map T_api_Window.c))), (60, .p (vi (l43.length : Int))), (61, .p (vi (i45 : Int)))], [(1, .cells [.p (vs x21.Advisory.b), .p (vs x21.Component.b), .p (vi x21.Severity), .p (vi x21.From), .p (vi x21.To), .p (vb x21.Open)])], 2⟩) (Upd.sub (show 2 ≤ 2 by decide) (by simp [go_sem, envSub, Env.get, h44v]) (by simp [go_sem, heapSub, Heap.get, belowO])) ?_ ?_
            · rintro ⟨⟩ hy Q hQ
              (try dsimp only at hy ⊢)
              have hlt : decide (((l43.length : Int) : Int) < (l43.length : Int)) = false := by simp
              refine aw_srH fun K hK => ?_
              (try simp only [go_sem, hlt])
              refine IsK.go (by assumption) ?_
              refine aw_seqH fun Q hQ => ?_
              refine aw_cond rfl (fun hc => ?_) (fun hc => ?_)
              · cases hc
              refine aw_exit ?_
              (repeat (refine IsQ.go (by assumption) ?_; (try dsimp only); (try simp only [E0])))
              exact ⟨_, hy, (Upd.sub (show 2 ≤ 2 by decide) (by simp [go_sem, envSub, Env.get]) (by simp [go_sem, heapSub, Heap.get, belowO]))⟩
            · rintro i45 x48 ⟨⟩ z49 hi hx hF hb49 hr49 Q hQ
              (try dsimp only at hF ⊢)
              have hlt : decide ((i45 : Int) < (l43.length : Int)) = true := by simp; omega
              have hw46 : IntKind.i64.wrap ((i45 : Int) + 1) = ((i45 + 1 : Nat) : Int) := by rw [wrap64 (by omega) (by omega)]; simp
              refine aw_srH fun K hK => ?_
              (try simp only [go_sem, hlt])
              refine IsK.go (by assumption) ?_
              refine aw_seqH fun Q hQ => ?_
              refine aw_cond rfl (fun hc => ?_) (fun hc => ?_)
              rotate_left; · cases hc
              refine aw_skip ?_
              (repeat (refine IsQ.go (by assumption) ?_; (try dsimp only); (try simp only [reduceCtorEq, E0])))
              refine aw_seqH fun Q hQ => ?_
              refine aw_blockH fun Q hQ => ?_
              refine aw_srH fun K hK => ?_
              (try simp only [go_sem, hx])
              refine IsK.go (by assumption) ?_
              refine aw_srJ ⟨[(1, .p (vi v1)), (5, .p (.sl (y1.map T_api_Exposure.c))), (7, .p (.sl (y4.map T_api_Window.c))), (11, .p (vi n31)), (13, .bp 1 0), (45, .p (.sl (y4.map T_api_Window.c))), (46, .p (vi (y4.length : Int))), (47, .p (vi (i18 : Int))), (59, .p (.sl (l43.map T_api_Window.c))), (60, .p (vi (l43.length : Int))), (61, .p (vi (i45 : Int))), (83, .p (vb (((sEq x21.Advisory.b x48.Advisory.b) && (sEq x21.Component.b x48.Component.b)) && (decide (x21.From ≤ x48.To)))))], [(1, .cells [.p (vs x21.Advisory.b), .p (vs x21.Component.b), .p (vi x21.Severity), .p (vi x21.From), .p (vi x21.To), .p (vb x21.Open)])], 3⟩ (fun K hK => ?_) ?_
              · (try simp only [go_sem])
                (try simp only [go_sem])
                refine vOps_split rfl ?_ ?_ <;> intro hg50 <;> (try simp only [hg50, go_sem])
                · (try simp only [go_sem, hg50])
                  refine vOps_split rfl ?_ ?_ <;> intro hg51 <;> (try simp only [hg51, go_sem])
                  · (try simp only [go_sem, hg50, hg51])
                    refine IsK.go (by assumption) ?_
                    exact (Upd.sub (show 3 ≤ 3 by decide) (by simp [go_sem, envSub, Env.get, hg50, hg51, h44v] <;> ((try simp only [decide_eq_true_eq, decide_eq_false_iff_not] at hg50); (try simp only [decide_eq_true_eq, decide_eq_false_iff_not] at hg51); omega)) (by simp [go_sem, heapSub, Heap.get, belowO] <;> ((try simp only [decide_eq_true_eq, decide_eq_false_iff_not] at hg50); (try simp only [decide_eq_true_eq, decide_eq_false_iff_not] at hg51); omega)))
                  · (try simp only [go_sem, hg50, hg51])
                    refine IsK.go (by assumption) ?_
                    exact (Upd.sub (show 3 ≤ 3 by decide) (by simp [go_sem, envSub, Env.get, hg50, hg51, h44v] <;> ((try simp only [decide_eq_true_eq, decide_eq_false_iff_not] at hg50); (try simp only [decide_eq_true_eq, decide_eq_false_iff_not] at hg51); omega)) (by simp [go_sem, heapSub, Heap.get, belowO] <;> ((try simp only [decide_eq_true_eq, decide_eq_false_iff_not] at hg50); (try simp only [decide_eq_true_eq, decide_eq_false_iff_not] at hg51); omega)))
                · (try simp only [go_sem, hg50])
                  refine IsK.go (by assumption) ?_
                  exact (Upd.sub (show 3 ≤ 3 by decide) (by simp [go_sem, envSub, Env.get, hg50, h44v] <;> ((try simp only [decide_eq_true_eq, decide_eq_false_iff_not] at hg50); omega)) (by simp [go_sem, heapSub, Heap.get, belowO] <;> ((try simp only [decide_eq_true_eq, decide_eq_false_iff_not] at hg50); omega)))
              refine aw_cond rfl (fun hc => ?_) (fun hc => ?_)
              · replace hF := if_t hc hF
                refine aw_srH fun K hK => ?_
                (try simp only [go_sem])
                refine IsK.go (by assumption) ?_
                refine aw_ret ?_
                (repeat (refine IsQ.go (by assumption) ?_; (try dsimp only); (try simp only [reduceCtorEq, E0])))
                cases hF
                cases (hj49 _ (hr49 _ rfl))
                cases (hj42 _ (hr42 _ rfl))
                first | (simp only [go_sem]; done) | simp only [go_sem, hw19, h44v, hw46]
              · replace hF := if_f hc hF
                refine aw_skip ?_
                (repeat (refine IsQ.go (by assumption) ?_; (try dsimp only); (try simp only [reduceCtorEq, E0])))
                refine aw_region ?_
                (try simp only [go_sem, hw46])
                (repeat (refine IsQ.go (by assumption) ?_; (try dsimp only); (try simp only [reduceCtorEq, E0])))
                cases hF
                exact ⟨_, rfl, (Upd.sub (show 2 ≤ 2 by decide) (by simp [go_sem, envSub, Env.get, h44v]) (by simp [go_sem, heapSub, Heap.get, belowO]))⟩
          rintro ⟨⟩ hF
          (try dsimp only at hF ⊢)
          (repeat (refine IsQ.go (by assumption) ?_; (try dsimp only); (try simp only [reduceCtorEq, E0])))
          refine aw_seqH fun Q hQ => ?_
          refine aw_srJ ⟨[(1, .p (vi v1)), (5, .p (.sl (y1.map T_api_Exposure.c))), (7, .p (.sl (y4.map T_api_Window.c))), (11, .p (vi n31)), (13, .bp 1 0), (45, .p (.sl (y4.map T_api_Window.c))), (46, .p (vi (y4.length : Int))), (47, .p (vi (i18 : Int))), (94, .p (vb ((decide (v1 < x21.From)) || (decide (v1 ≥ x21.To)))))], [(1, .cells [.p (vs x21.Advisory.b), .p (vs x21.Component.b), .p (vi x21.Severity), .p (vi x21.From), .p (vi x21.To), .p (vb x21.Open)])], 2⟩ (fun K hK => ?_) ?_
          · (try simp only [go_sem])
            (try simp only [go_sem])
            refine vOps_split rfl ?_ ?_ <;> intro hg52 <;> (try simp only [hg52, go_sem])
            · (try simp only [go_sem, hg52])
              refine IsK.go (by assumption) ?_
              exact (Upd.sub (show 2 ≤ 2 by decide) (by simp [go_sem, envSub, Env.get, hg52] <;> ((try simp only [decide_eq_true_eq, decide_eq_false_iff_not] at hg52); omega)) (by simp [go_sem, heapSub, Heap.get, belowO] <;> ((try simp only [decide_eq_true_eq, decide_eq_false_iff_not] at hg52); omega)))
            · (try simp only [go_sem, hg52])
              refine IsK.go (by assumption) ?_
              exact (Upd.sub (show 2 ≤ 2 by decide) (by simp [go_sem, envSub, Env.get, hg52] <;> ((try simp only [decide_eq_true_eq, decide_eq_false_iff_not] at hg52); omega)) (by simp [go_sem, heapSub, Heap.get, belowO] <;> ((try simp only [decide_eq_true_eq, decide_eq_false_iff_not] at hg52); omega)))
          refine aw_cond rfl (fun hc => ?_) (fun hc => ?_)
          · replace hF := if_t hc hF
            refine aw_exit ?_
            (repeat (refine IsQ.go (by assumption) ?_; (try dsimp only); (try simp only [E0])))
            refine aw_region ?_
            (try simp only [go_sem, hw19])
            (repeat (refine IsQ.go (by assumption) ?_; (try dsimp only); (try simp only [reduceCtorEq, E0])))
            cases hF
            exact ⟨_, rfl, (Upd.sub (show 1 ≤ 1 by decide) (by simp [go_sem, envSub, Env.get]) trivial)⟩
          · replace hF := if_f hc hF
            refine aw_skip ?_
            (repeat (refine IsQ.go (by assumption) ?_; (try dsimp only); (try simp only [reduceCtorEq, E0])))
            refine aw_srH fun K hK => ?_
            (try simp only [go_sem])
            refine IsK.go (by assumption) ?_
            obtain ⟨y53, h54, hF⟩ := bind_some hF
            refine aw_srH fun K hK => ?_
            (try simp only [go_sem])
            refine call_lent (slices_ContainsFunc_Exposure_Exposure_ok (g1_f := 44) (g1_a := []) (g1_c := [.p (.ptr [vs x21.Advisory.b, vs x21.Component.b, vi x21.Severity, vi x21.From, vi x21.To, vb x21.Open])]) rfl (by simp only [go_sem]) (fun _ _ h => law11_HistoryWindowsAreOpenDays_1_ok h) h54) 1 (by simp only [go_sem]) (by simp only [go_sem]) rfl ?_
            (try dsimp only); (try simp only [go_sem])
            refine IsK.go (by assumption) ?_
            refine aw_cond rfl (fun hc => ?_) (fun hc => ?_)
            · replace hF := if_t hc hF
              refine aw_srH fun K hK => ?_
              (try simp only [go_sem])
              refine IsK.go (by assumption) ?_
              refine aw_ret ?_
              (repeat (refine IsQ.go (by assumption) ?_; (try dsimp only); (try simp only [reduceCtorEq, E0])))
              cases hF
              cases (hj42 _ (hr42 _ rfl))
              first | (simp only [go_sem]; done) | simp only [go_sem, hw19, h44v]
            · replace hF := if_f hc hF
              refine aw_skip ?_
              (repeat (refine IsQ.go (by assumption) ?_; (try dsimp only); (try simp only [reduceCtorEq, E0])))
              refine aw_region ?_
              (try simp only [go_sem, hw19])
              (repeat (refine IsQ.go (by assumption) ?_; (try dsimp only); (try simp only [reduceCtorEq, E0])))
              cases hF
              exact ⟨_, rfl, (Upd.sub (show 1 ≤ 1 by decide) (by simp [go_sem, envSub, Env.get]) trivial)⟩
    rintro n41 hF
    (try dsimp only at hF ⊢)
    (repeat (refine IsQ.go (by assumption) ?_; (try dsimp only); (try simp only [reduceCtorEq, E0])))
    obtain ⟨b57, h58, hF⟩ := bind_some hF
    refine aw_srJ ⟨[(4, .p (vb b57))], [], 1⟩ (fun K hK => ?_) ?_
    · (try simp only [go_sem])
      (try simp only [go_sem])
      refine vOps_split rfl ?_ ?_ <;> intro hg59 <;> (try simp only [hg59, go_sem])
      · simp only [hg59, gbS] at h58
        obtain ⟨y60, h61, h58⟩ := bind_some h58
        (try simp only [go_sem, hg59])
        refine call_pure (law11_told_ok h61) rfl (by simp only [go_sem]) (by simp only [go_sem]) ?_
        (try dsimp only); (try simp only [go_sem, hg59])
        cases h58
        (try simp only [go_sem, hg59])
        refine IsK.go (by assumption) ?_
        exact (Upd.sub (show 1 ≤ 1 by decide) (by simp [go_sem, envSub, Env.get] <;> ((try simp only [decide_eq_true_eq, decide_eq_false_iff_not] at hg59); omega)) trivial)
      · simp only [hg59, gbS] at h58
        cases h58
        (try simp only [go_sem, hg59])
        refine IsK.go (by assumption) ?_
        exact (Upd.sub (show 1 ≤ 1 by decide) (by simp [go_sem, envSub, Env.get] <;> ((try simp only [decide_eq_true_eq, decide_eq_false_iff_not] at hg59); omega)) trivial)
    refine aw_ret ?_
    (repeat (refine IsQ.go (by assumption) ?_; (try dsimp only); (try simp only [reduceCtorEq, E0])))
    cases hF
    simp only [go_sem]
end Go.Abs
