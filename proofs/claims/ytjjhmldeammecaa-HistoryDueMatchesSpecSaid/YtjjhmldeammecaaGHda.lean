/- The walks of these functions against the plain ones (printed by a program of this repo). -/
import Derived.Test.YtjjhmldeammecaaRHd
import Derived.Test.YtjjhmldeammecaaGHca
namespace Go.Abs
open Go Go.Proofs
set_option maxRecDepth 8000
theorem ref11_CheckCalendar_ok {v0 : T_api_Calendar} {r0} (hF : ref11_CheckCalendar v0 = some r0) : APure Try.prog 21 [.p (.agg [.sl (v0.Free.map cI), .sl (v0.Holidays.map cI)])] (.p (vi r0)) := by
  cases hF
  exact checkCal21 _ _

theorem ref11_CheckTerms_ok {v0 : List T_api_Term} {r0} (hF : ref11_CheckTerms v0 = some r0) : APure Try.prog 26 [.p (.sl (v0.map T_api_Term.c))] (.p (vi r0)) := by
  refine apureZ 2 rc26_ok rfl ?_
  simp only [rc26, argEnv]
  unfold ref11_CheckTerms at hF
  refine aw_srH fun K hK => ?_
  (try simp only [go_sem])
  refine IsK.go (by assumption) ?_
  refine aw_seqH fun Q hQ => ?_
  refine aw_srH fun K hK => ?_
  (try simp only [go_sem])
  refine IsK.go (by assumption) ?_
  refine aw_cond rfl (fun hc => ?_) (fun hc => ?_)
  · replace hF := if_t hc hF
    refine aw_srH fun K hK => ?_
    (try simp only [go_sem])
    refine IsK.go (by assumption) ?_
    refine aw_ret ?_
    (repeat (refine IsQ.go (by assumption) ?_; (try dsimp only); (try simp only [reduceCtorEq, E0])))
    cases hF
    simp only [go_sem]
  · replace hF := if_f hc hF
    refine aw_skip ?_
    (repeat (refine IsQ.go (by assumption) ?_; (try dsimp only); (try simp only [reduceCtorEq, E0])))
    refine aw_seqH fun Q hQ => ?_
    refine aw_srH fun K hK => ?_
    (try simp only [go_sem])
    refine IsK.go (by assumption) ?_
    refine aw_cond rfl (fun hc => ?_) (fun hc => ?_)
    · replace hF := if_t hc hF
      refine aw_srH fun K hK => ?_
      (try simp only [go_sem])
      refine IsK.go (by assumption) ?_
      refine aw_ret ?_
      (repeat (refine IsQ.go (by assumption) ?_; (try dsimp only); (try simp only [reduceCtorEq, E0])))
      cases hF
      simp only [go_sem]
    · replace hF := if_f hc hF
      refine aw_skip ?_
      (repeat (refine IsQ.go (by assumption) ?_; (try dsimp only); (try simp only [reduceCtorEq, E0])))
      refine aw_seqH fun Q hQ => ?_
      refine aw_srH fun K hK => ?_
      (try simp only [go_sem])
      refine IsK.go (by assumption) ?_
      refine aw_joinX hF (fun (_ : Unit) => ⟨[], [], 0⟩) ?_ ?_
      · intro y9 hF hj9 Q hQ
        refine aw_blockH fun Q hQ => ?_
        refine aw_fact 0 rfl (fun _ _ => sl_lim) fun hl3 => ?_; simp only [List.length_map, top] at hl3
        refine aw_forL hF (fun i1 _ => ⟨[(0, .p (.sl (v0.map T_api_Term.c))), (11, .p (.sl (v0.map T_api_Term.c))), (12, .p (vi (v0.length : Int))), (13, .p (vi (i1 : Int)))], [], 0⟩) (Upd.sub (show 0 ≤ 0 by decide) (by simp [go_sem, envSub, Env.get]) trivial) ?_ ?_
        · rintro ⟨⟩ hy Q hQ
          (try dsimp only at hy ⊢)
          have hlt : decide (((v0.length : Int) : Int) < (v0.length : Int)) = false := by simp
          refine aw_srH fun K hK => ?_
          (try simp only [go_sem, hlt])
          refine IsK.go (by assumption) ?_
          refine aw_seqH fun Q hQ => ?_
          refine aw_cond rfl (fun hc => ?_) (fun hc => ?_)
          · cases hc
          refine aw_exit ?_
          (repeat (refine IsQ.go (by assumption) ?_; (try dsimp only); (try simp only [E0])))
          exact ⟨_, hy, (Upd.sub (show 0 ≤ 0 by decide) (by simp [go_sem, envSub]) trivial)⟩
        · rintro i1 x4 ⟨⟩ z9 hi hx hF hb9 hr9 Q hQ
          (try dsimp only at hF ⊢)
          have hlt : decide ((i1 : Int) < (v0.length : Int)) = true := by simp; omega
          have hw2 : IntKind.i64.wrap ((i1 : Int) + 1) = ((i1 + 1 : Nat) : Int) := by rw [wrap64 (by omega) (by omega)]; simp
          refine aw_srH fun K hK => ?_
          (try simp only [go_sem, hlt])
          refine IsK.go (by assumption) ?_
          refine aw_seqH fun Q hQ => ?_
          refine aw_cond rfl (fun hc => ?_) (fun hc => ?_)
          rotate_left; · cases hc
          refine aw_skip ?_
          (repeat (refine IsQ.go (by assumption) ?_; (try dsimp only); (try simp only [reduceCtorEq, E0])))
          refine aw_seqH fun Q hQ => ?_
          refine aw_blockH fun Q hQ => ?_
          refine aw_srH fun K hK => ?_
          (try simp only [go_sem, hx])
          refine IsK.go (by assumption) ?_
          refine aw_seqH fun Q hQ => ?_
          refine aw_srJ ⟨[(0, .p (.sl (v0.map T_api_Term.c))), (3, .p (vi (i1 : Int))), (4, .bp 0 0), (11, .p (.sl (v0.map T_api_Term.c))), (12, .p (vi (v0.length : Int))), (13, .p (vi (i1 : Int))), (35, .p (vb ((((decide (x4.Severity < 0)) || (decide (x4.Severity > 100))) || (decide (x4.Days < 0))) || (decide (x4.Days > 10000)))))], [(0, .cells [.p (vi x4.Severity), .p (vi x4.Days)])], 1⟩ (fun K hK => ?_) ?_
          · (try simp only [go_sem])
            (try simp only [go_sem])
            refine vOps_split rfl ?_ ?_ <;> intro hg10 <;> (try simp only [hg10, go_sem])
            · (try simp only [go_sem, hg10])
              refine IsK.go (by assumption) ?_
              exact (Upd.sub (show 1 ≤ 1 by decide) (by simp [go_sem, envSub, Env.get, hg10]) (by simp [go_sem, heapSub, Heap.get, belowO]))
            · (try simp only [go_sem, hg10])
              refine vOps_split rfl ?_ ?_ <;> intro hg11 <;> (try simp only [hg11, go_sem])
              · (try simp only [go_sem, hg10, hg11])
                refine IsK.go (by assumption) ?_
                exact (Upd.sub (show 1 ≤ 1 by decide) (by simp [go_sem, envSub, Env.get, hg10, hg11]) (by simp [go_sem, heapSub, Heap.get, belowO]))
              · (try simp only [go_sem, hg10, hg11])
                refine vOps_split rfl ?_ ?_ <;> intro hg12 <;> (try simp only [hg12, go_sem])
                · (try simp only [go_sem, hg10, hg11, hg12])
                  refine IsK.go (by assumption) ?_
                  exact (Upd.sub (show 1 ≤ 1 by decide) (by simp [go_sem, envSub, Env.get, hg10, hg11, hg12]) (by simp [go_sem, heapSub, Heap.get, belowO]))
                · (try simp only [go_sem, hg10, hg11, hg12])
                  refine IsK.go (by assumption) ?_
                  exact (Upd.sub (show 1 ≤ 1 by decide) (by simp [go_sem, envSub, Env.get, hg10, hg11, hg12]) (by simp [go_sem, heapSub, Heap.get, belowO]))
          refine aw_cond rfl (fun hc => ?_) (fun hc => ?_)
          · replace hF := if_t hc hF
            refine aw_srH fun K hK => ?_
            (try simp only [go_sem])
            refine IsK.go (by assumption) ?_
            refine aw_ret ?_
            (repeat (refine IsQ.go (by assumption) ?_; (try dsimp only); (try simp only [reduceCtorEq, E0])))
            cases hF
            cases (hj9 _ (hr9 _ rfl))
            simp only [go_sem]
          · replace hF := if_f hc hF
            refine aw_skip ?_
            (repeat (refine IsQ.go (by assumption) ?_; (try dsimp only); (try simp only [reduceCtorEq, E0])))
            obtain ⟨b15, h16, hF⟩ := bind_some hF
            refine aw_sdJ ⟨[(0, .p (.sl (v0.map T_api_Term.c))), (11, .p (.sl (v0.map T_api_Term.c))), (12, .p (vi (v0.length : Int))), (13, .p (vi (i1 : Int))), (48, .p (vb b15))], [], 1⟩ (fun K hK => ?_) ?_
            · (try simp only [go_sem])
              (try simp only [go_sem])
              refine vD_split rfl ?_ ?_ <;> intro hg17 <;> (try simp only [hg17, go_sem])
              · simp only [hg17, gbS] at h16
                obtain ⟨x18, h19, h16⟩ := bind_some h16
                replace h19 := idx_map T_api_Term.c h19; (try simp only [go_sem] at h19)
                cases h16
                (try simp only [go_sem, h19])
                refine IsK.go (by assumption) ?_
                exact (Upd.sub (show 1 ≤ 1 by decide) (by simp [go_sem, envSub, Env.get]) trivial)
              · simp only [hg17, gbS] at h16
                cases h16
                (try simp only [go_sem, hg17])
                refine IsK.go (by assumption) ?_
                exact (Upd.sub (show 1 ≤ 1 by decide) (by simp [go_sem, envSub, Env.get]) trivial)
            refine aw_cond rfl (fun hc => ?_) (fun hc => ?_)
            · replace hF := if_t hc hF
              refine aw_srH fun K hK => ?_
              (try simp only [go_sem])
              refine IsK.go (by assumption) ?_
              refine aw_ret ?_
              (repeat (refine IsQ.go (by assumption) ?_; (try dsimp only); (try simp only [reduceCtorEq, E0])))
              cases hF
              cases (hj9 _ (hr9 _ rfl))
              simp only [go_sem]
            · replace hF := if_f hc hF
              refine aw_skip ?_
              (repeat (refine IsQ.go (by assumption) ?_; (try dsimp only); (try simp only [reduceCtorEq, E0])))
              refine aw_region ?_
              (try simp only [go_sem, hw2])
              (repeat (refine IsQ.go (by assumption) ?_; (try dsimp only); (try simp only [reduceCtorEq, E0])))
              cases hF
              exact ⟨_, rfl, (Upd.sub (show 0 ≤ 0 by decide) (by simp [go_sem, envSub, Env.get]) trivial)⟩
      rintro ⟨⟩ hF
      (try dsimp only at hF ⊢)
      (repeat (refine IsQ.go (by assumption) ?_; (try dsimp only); (try simp only [reduceCtorEq, E0])))
      refine aw_srH fun K hK => ?_
      (try simp only [go_sem])
      refine IsK.go (by assumption) ?_
      refine aw_ret ?_
      (repeat (refine IsQ.go (by assumption) ?_; (try dsimp only); (try simp only [reduceCtorEq, E0])))
      cases hF
      simp only [go_sem]
theorem ref11_term_ok {v0 : List T_api_Term} {v1 : Int} {r0 r1} (hF : ref11_term v0 v1 = some (r0, r1)) : APure Try.prog 79 [.p (.sl (v0.map T_api_Term.c)), .p (vi v1)] (.tup [.p (.agg [vi r0.Severity, vi r0.Days]), .p (vb r1)]) := by
  refine apureZ 2 rc79_ok rfl ?_
  simp only [rc79, argEnv, Nat.reduceAdd]
  unfold ref11_term at hF
  refine aw_srH fun K hK => ?_
  (try simp only [go_sem])
  refine IsK.go (by assumption) ?_
  refine aw_srH fun K hK => ?_
  (try simp only [go_sem])
  refine IsK.go (by assumption) ?_
  refine aw_seqH fun Q hQ => ?_
  refine aw_srH fun K hK => ?_
  (try simp only [go_sem])
  refine IsK.go (by assumption) ?_
  refine aw_joinX hF (fun ((b8, n9, n10) : Bool × Int × Int) => ⟨[(4, .bp 0 0), (6, .bp 1 0), (7, .p (vb b8))], [(1, .cells [.p (vi n9), .p (vi n10)]), (0, .cells [.p (vi 0), .p (vi 0)])], 2⟩) ?_ ?_
  · intro y11 hF hj11 Q hQ
    refine aw_blockH fun Q hQ => ?_
    refine aw_fact 11 rfl (fun _ _ => sl_lim) fun hl3 => ?_; simp only [List.length_map, top] at hl3
    refine aw_forL hF (fun i1 (b5, n6, n7) => ⟨[(1, .p (vi v1)), (4, .bp 0 0), (6, .bp 1 0), (7, .p (vb b5)), (11, .p (.sl (v0.map T_api_Term.c))), (12, .p (vi (v0.length : Int))), (13, .p (vi (i1 : Int)))], [(1, .cells [.p (vi n6), .p (vi n7)]), (0, .cells [.p (vi 0), .p (vi 0)])], 2⟩) (Upd.sub (show 2 ≤ 2 by decide) (by simp [go_sem, envSub, Env.get]) (by simp [go_sem, heapSub, Heap.get, belowO])) ?_ ?_
    · rintro ⟨b5, n6, n7⟩ hy Q hQ
      (try dsimp only at hy ⊢)
      have hlt : decide (((v0.length : Int) : Int) < (v0.length : Int)) = false := by simp
      refine aw_srH fun K hK => ?_
      (try simp only [go_sem, hlt])
      refine IsK.go (by assumption) ?_
      refine aw_seqH fun Q hQ => ?_
      refine aw_cond rfl (fun hc => ?_) (fun hc => ?_)
      · cases hc
      refine aw_exit ?_
      (repeat (refine IsQ.go (by assumption) ?_; (try dsimp only); (try simp only [E0])))
      exact ⟨_, hy, (Upd.sub (show 2 ≤ 2 by decide) (by simp [go_sem, envSub, Env.get]) (by simp [go_sem, heapSub, Heap.get, belowO]))⟩
    · rintro i1 x4 ⟨b5, n6, n7⟩ z11 hi hx hF hb11 hr11 Q hQ
      (try dsimp only at hF ⊢)
      have hlt : decide ((i1 : Int) < (v0.length : Int)) = true := by simp; omega
      have hw2 : IntKind.i64.wrap ((i1 : Int) + 1) = ((i1 + 1 : Nat) : Int) := by rw [wrap64 (by omega) (by omega)]; simp
      refine aw_srH fun K hK => ?_
      (try simp only [go_sem, hlt])
      refine IsK.go (by assumption) ?_
      refine aw_seqH fun Q hQ => ?_
      refine aw_cond rfl (fun hc => ?_) (fun hc => ?_)
      rotate_left; · cases hc
      refine aw_skip ?_
      (repeat (refine IsQ.go (by assumption) ?_; (try dsimp only); (try simp only [reduceCtorEq, E0])))
      refine aw_seqH fun Q hQ => ?_
      refine aw_blockH fun Q hQ => ?_
      refine aw_srH fun K hK => ?_
      (try simp only [go_sem, hx])
      refine IsK.go (by assumption) ?_
      refine aw_srH fun K hK => ?_
      (try simp only [go_sem])
      refine IsK.go (by assumption) ?_
      refine aw_cond rfl (fun hc => ?_) (fun hc => ?_)
      · replace hF := if_t hc hF
        refine aw_region ?_
        (try simp only [go_sem])
        (repeat (refine IsQ.go (by assumption) ?_; (try dsimp only); (try simp only [reduceCtorEq, E0])))
        refine aw_region ?_
        (try simp only [go_sem, hw2])
        (repeat (refine IsQ.go (by assumption) ?_; (try dsimp only); (try simp only [reduceCtorEq, E0])))
        cases hF
        exact ⟨_, rfl, (Upd.sub (show 2 ≤ 2 by decide) (by simp [go_sem, envSub, Env.get]) (by simp [go_sem, heapSub, Heap.get, belowO]))⟩
      · replace hF := if_f hc hF
        refine aw_skip ?_
        (repeat (refine IsQ.go (by assumption) ?_; (try dsimp only); (try simp only [reduceCtorEq, E0])))
        refine aw_region ?_
        (try simp only [go_sem, hw2])
        (repeat (refine IsQ.go (by assumption) ?_; (try dsimp only); (try simp only [reduceCtorEq, E0])))
        cases hF
        exact ⟨_, rfl, (Upd.sub (show 2 ≤ 2 by decide) (by simp [go_sem, envSub, Env.get]) (by simp [go_sem, heapSub, Heap.get, belowO]))⟩
  rintro ⟨b8, n9, n10⟩ hF
  (try dsimp only at hF ⊢)
  (repeat (refine IsQ.go (by assumption) ?_; (try dsimp only); (try simp only [reduceCtorEq, E0])))
  refine aw_srH fun K hK => ?_
  (try simp only [go_sem])
  refine IsK.go (by assumption) ?_
  refine aw_ret ?_
  (repeat (refine IsQ.go (by assumption) ?_; (try dsimp only); (try simp only [reduceCtorEq, E0])))
  cases hF
  simp only [go_sem]
theorem ref11_calendarOf_ok {v0 : T_api_Calendar} {r0} (hF : ref11_calendarOf v0 = some r0) : APure Try.prog 70 [.p (.agg [.sl (v0.Free.map cI), .sl (v0.Holidays.map cI)])] (.p (.agg (T_ref11_calendar.c r0))) := by
  unfold ref11_calendarOf at hF
  split at hF
  · rename_i h
    cases hF
    exact calendarOf70 (calOk h)
  · cases hF

theorem ref11_calendar_add_ok {v0 : T_ref11_calendar} {v1 v2 : Int} {r0 r1} (hF : ref11_calendar_add v0 v1 v2 = some (r0, r1)) : APure Try.prog 76 [.p (.agg (T_ref11_calendar.c v0)), .p (vi v1), .p (vi v2)] (.tup [.p (vi r0), .p (vb r1)]) := by
  unfold ref11_calendar_add at hF
  split at hF
  · rename_i h
    cases hF
    exact add76 v0.fr v0.hol v1 v2 h.1 h.2.1 h.2.2.1 h.2.2.2
  · cases hF

theorem ref11_Due_ok {v0 : T_api_Calendar} {v1 : List T_api_Term} {v2 : T_api_Window} {r0 r1 r2} (hF : ref11_Due v0 v1 v2 = some (r0, r1, r2)) : APure Try.prog 24 [.p (.agg [.sl (v0.Free.map cI), .sl (v0.Holidays.map cI)]), .p (.sl (v1.map T_api_Term.c)), .p (.agg [vs v2.Advisory.b, vs v2.Component.b, vi v2.Severity, vi v2.From, vi v2.To, vb v2.Open])] (.tup [.p (vi r0), .p (vb r1), .p (vi r2)]) := by
  refine apureZ 2 rc24_ok rfl ?_
  simp only [rc24, argEnv, Nat.reduceAdd]
  unfold ref11_Due at hF
  refine aw_srH fun K hK => ?_
  (try simp only [go_sem])
  refine IsK.go (by assumption) ?_
  refine aw_seqH fun Q hQ => ?_
  obtain ⟨y1, h2, hF⟩ := bind_some hF
  refine aw_srH fun K hK => ?_
  (try simp only [go_sem])
  refine call_pure (ref11_CheckCalendar_ok h2) rfl (by simp only [go_sem]) (by simp only [go_sem]) ?_
  (try dsimp only); (try simp only [go_sem])
  refine IsK.go (by assumption) ?_
  refine aw_srH fun K hK => ?_
  (try simp only [go_sem])
  refine IsK.go (by assumption) ?_
  refine aw_cond rfl (fun hc => ?_) (fun hc => ?_)
  · replace hF := if_t hc hF
    refine aw_srH fun K hK => ?_
    (try simp only [go_sem])
    refine IsK.go (by assumption) ?_
    refine aw_ret ?_
    (repeat (refine IsQ.go (by assumption) ?_; (try dsimp only); (try simp only [reduceCtorEq, E0])))
    cases hF
    simp only [go_sem]
  · replace hF := if_f hc hF
    refine aw_skip ?_
    (repeat (refine IsQ.go (by assumption) ?_; (try dsimp only); (try simp only [reduceCtorEq, E0])))
    refine aw_seqH fun Q hQ => ?_
    obtain ⟨y3, h4, hF⟩ := bind_some hF
    refine aw_srH fun K hK => ?_
    (try simp only [go_sem])
    refine call_pure (ref11_CheckTerms_ok h4) rfl (by simp only [go_sem]) (by simp only [go_sem]) ?_
    (try dsimp only); (try simp only [go_sem])
    refine IsK.go (by assumption) ?_
    refine aw_srH fun K hK => ?_
    (try simp only [go_sem])
    refine IsK.go (by assumption) ?_
    refine aw_cond rfl (fun hc => ?_) (fun hc => ?_)
    · replace hF := if_t hc hF
      refine aw_srH fun K hK => ?_
      (try simp only [go_sem])
      refine IsK.go (by assumption) ?_
      refine aw_ret ?_
      (repeat (refine IsQ.go (by assumption) ?_; (try dsimp only); (try simp only [reduceCtorEq, E0])))
      cases hF
      simp only [go_sem]
    · replace hF := if_f hc hF
      refine aw_skip ?_
      (repeat (refine IsQ.go (by assumption) ?_; (try dsimp only); (try simp only [reduceCtorEq, E0])))
      refine aw_seqH fun Q hQ => ?_
      obtain ⟨b7, h8, hF⟩ := bind_some hF
      refine aw_srJ ⟨[(1, .p (.sl (v1.map T_api_Term.c))), (3, .bp 0 0), (5, .bp 1 0), (38, .p (vb b7))], [(1, .cells [.p (vs v2.Advisory.b), .p (vs v2.Component.b), .p (vi v2.Severity), .p (vi v2.From), .p (vi v2.To), .p (vb v2.Open)]), (0, .cells [.p (.sl (v0.Free.map cI)), .p (.sl (v0.Holidays.map cI))])], 2⟩ (fun K hK => ?_) ?_
      · (try simp only [go_sem])
        (try simp only [go_sem])
        refine vOps_split rfl ?_ ?_ <;> intro hg9 <;> (try simp only [hg9, go_sem])
        · simp only [hg9, gbS] at h8
          cases h8
          (try simp only [go_sem, hg9])
          refine IsK.go (by assumption) ?_
          exact (Upd.sub (show 2 ≤ 2 by decide) (by simp [go_sem, envSub, Env.get]) (by simp [go_sem, heapSub, Heap.get, belowO]))
        · (try simp only [go_sem, hg9])
          refine vOps_split rfl ?_ ?_ <;> intro hg10 <;> (try simp only [hg10, go_sem])
          · simp only [hg9, hg10, gbS] at h8
            cases h8
            (try simp only [go_sem, hg9, hg10])
            refine IsK.go (by assumption) ?_
            exact (Upd.sub (show 2 ≤ 2 by decide) (by simp [go_sem, envSub, Env.get]) (by simp [go_sem, heapSub, Heap.get, belowO]))
          · simp only [hg9, hg10, gbS] at h8
            obtain ⟨y11, h12, h8⟩ := bind_some h8
            (try simp only [go_sem, hg9, hg10])
            refine call_pure (ref11_isDay_ok h12) rfl (by simp only [go_sem]) (by simp only [go_sem]) ?_
            (try dsimp only); (try simp only [go_sem])
            cases h8
            (try simp only [go_sem, hg9, hg10])
            refine IsK.go (by assumption) ?_
            exact (Upd.sub (show 2 ≤ 2 by decide) (by simp [go_sem, envSub, Env.get]) (by simp [go_sem, heapSub, Heap.get, belowO]))
      refine aw_cond rfl (fun hc => ?_) (fun hc => ?_)
      · replace hF := if_t hc hF
        refine aw_srH fun K hK => ?_
        (try simp only [go_sem])
        refine IsK.go (by assumption) ?_
        refine aw_ret ?_
        (repeat (refine IsQ.go (by assumption) ?_; (try dsimp only); (try simp only [reduceCtorEq, E0])))
        cases hF
        simp only [go_sem]
      · replace hF := if_f hc hF
        refine aw_skip ?_
        (repeat (refine IsQ.go (by assumption) ?_; (try dsimp only); (try simp only [reduceCtorEq, E0])))
        obtain ⟨⟨y13, y14⟩, h15, hF⟩ := bind_some hF
        (try dsimp only at hF)
        refine aw_srH fun K hK => ?_
        (try simp only [go_sem])
        refine call_pure (ref11_term_ok h15) rfl (by simp only [go_sem]) (by simp only [go_sem]) ?_
        (try dsimp only); (try simp only [go_sem])
        refine IsK.go (by assumption) ?_
        refine aw_seqH fun Q hQ => ?_
        refine aw_srH fun K hK => ?_
        (try simp only [go_sem])
        refine IsK.go (by assumption) ?_
        refine aw_cond rfl (fun hc => ?_) (fun hc => ?_)
        · replace hF := if_t hc hF
          refine aw_srH fun K hK => ?_
          (try simp only [go_sem])
          refine IsK.go (by assumption) ?_
          refine aw_ret ?_
          (repeat (refine IsQ.go (by assumption) ?_; (try dsimp only); (try simp only [reduceCtorEq, E0])))
          cases hF
          simp only [go_sem]
        · replace hF := if_f hc hF
          refine aw_skip ?_
          (repeat (refine IsQ.go (by assumption) ?_; (try dsimp only); (try simp only [reduceCtorEq, E0])))
          obtain ⟨y16, h17, hF⟩ := bind_some hF
          obtain ⟨⟨y18, y19⟩, h20, hF⟩ := bind_some hF
          (try dsimp only at hF)
          refine aw_sdH fun K hK => ?_
          (try simp only [go_sem])
          refine ⟨_, call_pure (ref11_calendarOf_ok h17) rfl (by simp only [go_sem]) (by simp only [go_sem]) ⟨rfl, rfl, rfl⟩, ?_⟩
          (try dsimp only); (try simp only [go_sem])
          refine ⟨_, call_pure (ref11_calendar_add_ok h20) rfl (by simp only [go_sem]) (by simp only [go_sem]) ⟨rfl, rfl, rfl⟩, ?_⟩
          (try dsimp only); (try simp only [go_sem])
          refine IsK.go (by assumption) ?_
          refine aw_seqH fun Q hQ => ?_
          refine aw_srH fun K hK => ?_
          (try simp only [go_sem])
          refine IsK.go (by assumption) ?_
          refine aw_cond rfl (fun hc => ?_) (fun hc => ?_)
          · replace hF := if_t hc hF
            refine aw_srH fun K hK => ?_
            (try simp only [go_sem])
            refine IsK.go (by assumption) ?_
            refine aw_ret ?_
            (repeat (refine IsQ.go (by assumption) ?_; (try dsimp only); (try simp only [reduceCtorEq, E0])))
            cases hF
            simp only [go_sem]
          · replace hF := if_f hc hF
            refine aw_skip ?_
            (repeat (refine IsQ.go (by assumption) ?_; (try dsimp only); (try simp only [reduceCtorEq, E0])))
            refine aw_srH fun K hK => ?_
            (try simp only [go_sem])
            refine IsK.go (by assumption) ?_
            refine aw_ret ?_
            (repeat (refine IsQ.go (by assumption) ?_; (try dsimp only); (try simp only [reduceCtorEq, E0])))
            cases hF
            simp only [go_sem]
theorem history_CheckCalendar_ok {v0 : T_api_Calendar} {r0} (hF : history_CheckCalendar v0 = some r0) : APure Try.prog 22 [.p (.agg [.sl (v0.Free.map cI), .sl (v0.Holidays.map cI)])] (.p (vi r0)) := by
  cases hF
  exact checkCal22 _ _

theorem history_CheckTerms_ok {v0 : List T_api_Term} {r0} (hF : history_CheckTerms v0 = some r0) : APure Try.prog 27 [.p (.sl (v0.map T_api_Term.c))] (.p (vi r0)) := by
  refine apureZ 2 rc27_ok rfl ?_
  simp only [rc27, argEnv]
  unfold history_CheckTerms at hF
  refine aw_srH fun K hK => ?_
  (try simp only [go_sem])
  refine IsK.go (by assumption) ?_
  refine aw_seqH fun Q hQ => ?_
  refine aw_blockH fun Q hQ => ?_
  refine aw_srH fun K hK => ?_
  (try simp only [go_sem])
  refine IsK.go (by assumption) ?_
  refine aw_cond rfl (fun hc => ?_) (fun hc => ?_)
  · replace hF := if_t hc hF
    refine aw_srH fun K hK => ?_
    (try simp only [go_sem])
    refine IsK.go (by assumption) ?_
    refine aw_ret ?_
    (repeat (refine IsQ.go (by assumption) ?_; (try dsimp only); (try simp only [reduceCtorEq, E0])))
    cases hF
    simp only [go_sem]
  · replace hF := if_f hc hF
    refine aw_srH fun K hK => ?_
    (try simp only [go_sem])
    refine IsK.go (by assumption) ?_
    refine aw_cond rfl (fun hc => ?_) (fun hc => ?_)
    · replace hF := if_t hc hF
      refine aw_srH fun K hK => ?_
      (try simp only [go_sem])
      refine IsK.go (by assumption) ?_
      refine aw_ret ?_
      (repeat (refine IsQ.go (by assumption) ?_; (try dsimp only); (try simp only [reduceCtorEq, E0])))
      cases hF
      simp only [go_sem]
    · replace hF := if_f hc hF
      refine aw_skip ?_
      (repeat (refine IsQ.go (by assumption) ?_; (try dsimp only); (try simp only [reduceCtorEq, E0])))
      refine aw_seqH fun Q hQ => ?_
      refine aw_srH fun K hK => ?_
      (try simp only [go_sem])
      refine IsK.go (by assumption) ?_
      refine aw_joinX hF (fun (_ : Unit) => ⟨[], [], 0⟩) ?_ ?_
      · intro y9 hF hj9 Q hQ
        refine aw_blockH fun Q hQ => ?_
        refine aw_fact 0 rfl (fun _ _ => sl_lim) fun hl3 => ?_; simp only [List.length_map, top] at hl3
        refine aw_forL hF (fun i1 _ => ⟨[(0, .p (.sl (v0.map T_api_Term.c))), (13, .p (.sl (v0.map T_api_Term.c))), (14, .p (vi (v0.length : Int))), (15, .p (vi (i1 : Int)))], [], 0⟩) (Upd.sub (show 0 ≤ 0 by decide) (by simp [go_sem, envSub, Env.get]) trivial) ?_ ?_
        · rintro ⟨⟩ hy Q hQ
          (try dsimp only at hy ⊢)
          have hlt : decide (((v0.length : Int) : Int) < (v0.length : Int)) = false := by simp
          refine aw_srH fun K hK => ?_
          (try simp only [go_sem, hlt])
          refine IsK.go (by assumption) ?_
          refine aw_seqH fun Q hQ => ?_
          refine aw_cond rfl (fun hc => ?_) (fun hc => ?_)
          · cases hc
          refine aw_exit ?_
          (repeat (refine IsQ.go (by assumption) ?_; (try dsimp only); (try simp only [E0])))
          exact ⟨_, hy, (Upd.sub (show 0 ≤ 0 by decide) (by simp [go_sem, envSub]) trivial)⟩
        · rintro i1 x4 ⟨⟩ z9 hi hx hF hb9 hr9 Q hQ
          (try dsimp only at hF ⊢)
          have hlt : decide ((i1 : Int) < (v0.length : Int)) = true := by simp; omega
          have hw2 : IntKind.i64.wrap ((i1 : Int) + 1) = ((i1 + 1 : Nat) : Int) := by rw [wrap64 (by omega) (by omega)]; simp
          refine aw_srH fun K hK => ?_
          (try simp only [go_sem, hlt])
          refine IsK.go (by assumption) ?_
          refine aw_seqH fun Q hQ => ?_
          refine aw_cond rfl (fun hc => ?_) (fun hc => ?_)
          rotate_left; · cases hc
          refine aw_skip ?_
          (repeat (refine IsQ.go (by assumption) ?_; (try dsimp only); (try simp only [reduceCtorEq, E0])))
          refine aw_seqH fun Q hQ => ?_
          refine aw_blockH fun Q hQ => ?_
          refine aw_srH fun K hK => ?_
          (try simp only [go_sem, hx])
          refine IsK.go (by assumption) ?_
          refine aw_blockH fun Q hQ => ?_
          refine aw_srJ ⟨[(0, .p (.sl (v0.map T_api_Term.c))), (3, .p (vi (i1 : Int))), (4, .bp 0 0), (13, .p (.sl (v0.map T_api_Term.c))), (14, .p (vi (v0.length : Int))), (15, .p (vi (i1 : Int))), (20, .p (vb ((((decide (x4.Severity < 0)) || (decide (x4.Severity > 100))) || (decide (x4.Days < 0))) || (decide (x4.Days > 10000)))))], [(0, .cells [.p (vi x4.Severity), .p (vi x4.Days)])], 1⟩ (fun K hK => ?_) ?_
          · (try simp only [go_sem])
            (try simp only [go_sem])
            refine vOps_split rfl ?_ ?_ <;> intro hg10 <;> (try simp only [hg10, go_sem])
            · (try simp only [go_sem, hg10])
              refine IsK.go (by assumption) ?_
              exact (Upd.sub (show 1 ≤ 1 by decide) (by simp [go_sem, envSub, Env.get, hg10]) (by simp [go_sem, heapSub, Heap.get, belowO]))
            · (try simp only [go_sem, hg10])
              refine vOps_split rfl ?_ ?_ <;> intro hg11 <;> (try simp only [hg11, go_sem])
              · (try simp only [go_sem, hg10, hg11])
                refine IsK.go (by assumption) ?_
                exact (Upd.sub (show 1 ≤ 1 by decide) (by simp [go_sem, envSub, Env.get, hg10, hg11]) (by simp [go_sem, heapSub, Heap.get, belowO]))
              · (try simp only [go_sem, hg10, hg11])
                refine vOps_split rfl ?_ ?_ <;> intro hg12 <;> (try simp only [hg12, go_sem])
                · (try simp only [go_sem, hg10, hg11, hg12])
                  refine IsK.go (by assumption) ?_
                  exact (Upd.sub (show 1 ≤ 1 by decide) (by simp [go_sem, envSub, Env.get, hg10, hg11, hg12]) (by simp [go_sem, heapSub, Heap.get, belowO]))
                · (try simp only [go_sem, hg10, hg11, hg12])
                  refine IsK.go (by assumption) ?_
                  exact (Upd.sub (show 1 ≤ 1 by decide) (by simp [go_sem, envSub, Env.get, hg10, hg11, hg12]) (by simp [go_sem, heapSub, Heap.get, belowO]))
          refine aw_cond rfl (fun hc => ?_) (fun hc => ?_)
          · replace hF := if_t hc hF
            refine aw_srH fun K hK => ?_
            (try simp only [go_sem])
            refine IsK.go (by assumption) ?_
            refine aw_ret ?_
            (repeat (refine IsQ.go (by assumption) ?_; (try dsimp only); (try simp only [reduceCtorEq, E0])))
            cases hF
            cases (hj9 _ (hr9 _ rfl))
            simp only [go_sem]
          · replace hF := if_f hc hF
            obtain ⟨b15, h16, hF⟩ := bind_some hF
            refine aw_sdJ ⟨[(0, .p (.sl (v0.map T_api_Term.c))), (13, .p (.sl (v0.map T_api_Term.c))), (14, .p (vi (v0.length : Int))), (15, .p (vi (i1 : Int))), (39, .p (vb b15))], [], 1⟩ (fun K hK => ?_) ?_
            · (try simp only [go_sem])
              (try simp only [go_sem])
              refine vD_split rfl ?_ ?_ <;> intro hg17 <;> (try simp only [hg17, go_sem])
              · simp only [hg17, gbS] at h16
                obtain ⟨x18, h19, h16⟩ := bind_some h16
                replace h19 := idx_map T_api_Term.c h19; (try simp only [go_sem] at h19)
                cases h16
                (try simp only [go_sem, h19])
                refine IsK.go (by assumption) ?_
                exact (Upd.sub (show 1 ≤ 1 by decide) (by simp [go_sem, envSub, Env.get]) trivial)
              · simp only [hg17, gbS] at h16
                cases h16
                (try simp only [go_sem, hg17])
                refine IsK.go (by assumption) ?_
                exact (Upd.sub (show 1 ≤ 1 by decide) (by simp [go_sem, envSub, Env.get]) trivial)
            refine aw_cond rfl (fun hc => ?_) (fun hc => ?_)
            · replace hF := if_t hc hF
              refine aw_srH fun K hK => ?_
              (try simp only [go_sem])
              refine IsK.go (by assumption) ?_
              refine aw_ret ?_
              (repeat (refine IsQ.go (by assumption) ?_; (try dsimp only); (try simp only [reduceCtorEq, E0])))
              cases hF
              cases (hj9 _ (hr9 _ rfl))
              simp only [go_sem]
            · replace hF := if_f hc hF
              refine aw_skip ?_
              (repeat (refine IsQ.go (by assumption) ?_; (try dsimp only); (try simp only [reduceCtorEq, E0])))
              refine aw_region ?_
              (try simp only [go_sem, hw2])
              (repeat (refine IsQ.go (by assumption) ?_; (try dsimp only); (try simp only [reduceCtorEq, E0])))
              cases hF
              exact ⟨_, rfl, (Upd.sub (show 0 ≤ 0 by decide) (by simp [go_sem, envSub, Env.get]) trivial)⟩
      rintro ⟨⟩ hF
      (try dsimp only at hF ⊢)
      (repeat (refine IsQ.go (by assumption) ?_; (try dsimp only); (try simp only [reduceCtorEq, E0])))
      refine aw_srH fun K hK => ?_
      (try simp only [go_sem])
      refine IsK.go (by assumption) ?_
      refine aw_ret ?_
      (repeat (refine IsQ.go (by assumption) ?_; (try dsimp only); (try simp only [reduceCtorEq, E0])))
      cases hF
      simp only [go_sem]
theorem history_weekOf_ok {v0 : T_api_Calendar} {r0} (hF : history_weekOf v0 = some r0) : APure Try.prog 73 [.p (.agg [.sl (v0.Free.map cI), .sl (v0.Holidays.map cI)])] (.p (.agg (T_history_week.c r0))) := by
  unfold history_weekOf at hF
  split at hF
  · rename_i h
    cases hF
    exact weekOf73 (calOk h)
  · cases hF

theorem history_week_add_ok {v0 : T_history_week} {v1 v2 : Int} {r0 r1} (hF : history_week_add v0 v1 v2 = some (r0, r1)) : APure Try.prog 77 [.p (.agg (T_history_week.c v0)), .p (vi v1), .p (vi v2)] (.tup [.p (vi r0), .p (vb r1)]) := by
  unfold history_week_add at hF
  split at hF
  · rename_i h
    cases hF
    exact add77 (calOk h.1) v1 v2 h.2.1 h.2.2.1 h.2.2.2.1 h.2.2.2.2
  · cases hF

theorem history_week_due_ok {v0 : T_history_week} {v1 : List T_api_Term} {v2 : T_api_Window} {r0 r1 r2} (hF : history_week_due v0 v1 v2 = some (r0, r1, r2)) : APure Try.prog 80 [.p (.agg (T_history_week.c v0)), .p (.sl (v1.map T_api_Term.c)), .p (.agg [vs v2.Advisory.b, vs v2.Component.b, vi v2.Severity, vi v2.From, vi v2.To, vb v2.Open])] (.tup [.p (vi r0), .p (vb r1), .p (vi r2)]) := by
  refine apureZ 2 rc80_ok rfl ?_
  simp only [rc80, argEnv, Nat.reduceAdd]
  unfold history_week_due at hF
  refine aw_srH fun K hK => ?_
  (try simp only [go_sem])
  refine IsK.go (by assumption) ?_
  refine aw_srH fun K hK => ?_
  (try simp only [go_sem])
  refine IsK.go (by assumption) ?_
  refine aw_seqH fun Q hQ => ?_
  refine aw_srH fun K hK => ?_
  (try simp only [go_sem])
  refine IsK.go (by assumption) ?_
  refine aw_joinX hF (fun (n6 : Int) => ⟨[(3, .bp 0 0), (5, .bp 1 0), (9, .p (vi n6))], [(1, .cells [.p (vs v2.Advisory.b), .p (vs v2.Component.b), .p (vi v2.Severity), .p (vi v2.From), .p (vi v2.To), .p (vb v2.Open)]), (0, .cells ((T_history_week.c v0).map .p))], 2⟩) ?_ ?_
  · intro y7 hF hj7 Q hQ
    refine aw_blockH fun Q hQ => ?_
    refine aw_fact 14 rfl (fun _ _ => sl_lim) fun hl3 => ?_; simp only [List.length_map, top] at hl3
    refine aw_forL hF (fun i1 n5 => ⟨[(3, .bp 0 0), (5, .bp 1 0), (9, .p (vi n5)), (14, .p (.sl (v1.map T_api_Term.c))), (15, .p (vi (v1.length : Int))), (16, .p (vi (i1 : Int)))], [(1, .cells [.p (vs v2.Advisory.b), .p (vs v2.Component.b), .p (vi v2.Severity), .p (vi v2.From), .p (vi v2.To), .p (vb v2.Open)]), (0, .cells ((T_history_week.c v0).map .p))], 2⟩) (Upd.sub (show 2 ≤ 2 by decide) (by simp [go_sem, envSub, Env.get]) (by simp [go_sem, heapSub, Heap.get, belowO])) ?_ ?_
    · rintro n5 hy Q hQ
      (try dsimp only at hy ⊢)
      have hlt : decide (((v1.length : Int) : Int) < (v1.length : Int)) = false := by simp
      refine aw_srH fun K hK => ?_
      (try simp only [go_sem, hlt])
      refine IsK.go (by assumption) ?_
      refine aw_seqH fun Q hQ => ?_
      refine aw_cond rfl (fun hc => ?_) (fun hc => ?_)
      · cases hc
      refine aw_exit ?_
      (repeat (refine IsQ.go (by assumption) ?_; (try dsimp only); (try simp only [E0])))
      exact ⟨_, hy, (Upd.sub (show 2 ≤ 2 by decide) (by simp [go_sem, envSub, Env.get]) (by simp [go_sem, heapSub, Heap.get, belowO]))⟩
    · rintro i1 x4 n5 z7 hi hx hF hb7 hr7 Q hQ
      (try dsimp only at hF ⊢)
      have hlt : decide ((i1 : Int) < (v1.length : Int)) = true := by simp; omega
      have hw2 : IntKind.i64.wrap ((i1 : Int) + 1) = ((i1 + 1 : Nat) : Int) := by rw [wrap64 (by omega) (by omega)]; simp
      refine aw_srH fun K hK => ?_
      (try simp only [go_sem, hlt])
      refine IsK.go (by assumption) ?_
      refine aw_seqH fun Q hQ => ?_
      refine aw_cond rfl (fun hc => ?_) (fun hc => ?_)
      rotate_left; · cases hc
      refine aw_skip ?_
      (repeat (refine IsQ.go (by assumption) ?_; (try dsimp only); (try simp only [reduceCtorEq, E0])))
      refine aw_seqH fun Q hQ => ?_
      refine aw_blockH fun Q hQ => ?_
      refine aw_srH fun K hK => ?_
      (try simp only [go_sem, hx])
      refine IsK.go (by assumption) ?_
      refine aw_srH fun K hK => ?_
      (try simp only [go_sem])
      refine IsK.go (by assumption) ?_
      refine aw_cond rfl (fun hc => ?_) (fun hc => ?_)
      · replace hF := if_t hc hF
        refine aw_region ?_
        (try simp only [go_sem])
        (repeat (refine IsQ.go (by assumption) ?_; (try dsimp only); (try simp only [reduceCtorEq, E0])))
        refine aw_region ?_
        (try simp only [go_sem, hw2])
        (repeat (refine IsQ.go (by assumption) ?_; (try dsimp only); (try simp only [reduceCtorEq, E0])))
        cases hF
        exact ⟨_, rfl, (Upd.sub (show 2 ≤ 2 by decide) (by simp [go_sem, envSub, Env.get]) (by simp [go_sem, heapSub, Heap.get, belowO]))⟩
      · replace hF := if_f hc hF
        refine aw_skip ?_
        (repeat (refine IsQ.go (by assumption) ?_; (try dsimp only); (try simp only [reduceCtorEq, E0])))
        refine aw_region ?_
        (try simp only [go_sem, hw2])
        (repeat (refine IsQ.go (by assumption) ?_; (try dsimp only); (try simp only [reduceCtorEq, E0])))
        cases hF
        exact ⟨_, rfl, (Upd.sub (show 2 ≤ 2 by decide) (by simp [go_sem, envSub, Env.get]) (by simp [go_sem, heapSub, Heap.get, belowO]))⟩
  rintro n6 hF
  (try dsimp only at hF ⊢)
  (repeat (refine IsQ.go (by assumption) ?_; (try dsimp only); (try simp only [reduceCtorEq, E0])))
  refine aw_seqH fun Q hQ => ?_
  refine aw_srH fun K hK => ?_
  (try simp only [go_sem])
  refine IsK.go (by assumption) ?_
  refine aw_cond rfl (fun hc => ?_) (fun hc => ?_)
  · replace hF := if_t hc hF
    refine aw_srH fun K hK => ?_
    (try simp only [go_sem])
    refine IsK.go (by assumption) ?_
    refine aw_ret ?_
    (repeat (refine IsQ.go (by assumption) ?_; (try dsimp only); (try simp only [reduceCtorEq, E0])))
    cases hF
    simp only [go_sem]
  · replace hF := if_f hc hF
    refine aw_skip ?_
    (repeat (refine IsQ.go (by assumption) ?_; (try dsimp only); (try simp only [reduceCtorEq, E0])))
    obtain ⟨⟨y8, y9⟩, h10, hF⟩ := bind_some hF
    (try dsimp only at hF)
    refine aw_srH fun K hK => ?_
    (try simp only [go_sem])
    refine call_pure (history_week_add_ok h10) rfl (by simp only [go_sem]) (by simp only [go_sem]) ?_
    (try dsimp only); (try simp only [go_sem])
    refine IsK.go (by assumption) ?_
    refine aw_seqH fun Q hQ => ?_
    refine aw_srH fun K hK => ?_
    (try simp only [go_sem])
    refine IsK.go (by assumption) ?_
    refine aw_cond rfl (fun hc => ?_) (fun hc => ?_)
    · replace hF := if_t hc hF
      refine aw_srH fun K hK => ?_
      (try simp only [go_sem])
      refine IsK.go (by assumption) ?_
      refine aw_ret ?_
      (repeat (refine IsQ.go (by assumption) ?_; (try dsimp only); (try simp only [reduceCtorEq, E0])))
      cases hF
      simp only [go_sem]
    · replace hF := if_f hc hF
      refine aw_skip ?_
      (repeat (refine IsQ.go (by assumption) ?_; (try dsimp only); (try simp only [reduceCtorEq, E0])))
      refine aw_srH fun K hK => ?_
      (try simp only [go_sem])
      refine IsK.go (by assumption) ?_
      refine aw_ret ?_
      (repeat (refine IsQ.go (by assumption) ?_; (try dsimp only); (try simp only [reduceCtorEq, E0])))
      cases hF
      simp only [go_sem]
theorem history_Due_ok {v0 : T_api_Calendar} {v1 : List T_api_Term} {v2 : T_api_Window} {r0 r1 r2} (hF : history_Due v0 v1 v2 = some (r0, r1, r2)) : APure Try.prog 25 [.p (.agg [.sl (v0.Free.map cI), .sl (v0.Holidays.map cI)]), .p (.sl (v1.map T_api_Term.c)), .p (.agg [vs v2.Advisory.b, vs v2.Component.b, vi v2.Severity, vi v2.From, vi v2.To, vb v2.Open])] (.tup [.p (vi r0), .p (vb r1), .p (vi r2)]) := by
  refine apureZ 2 rc25_ok rfl ?_
  simp only [rc25, argEnv, Nat.reduceAdd]
  unfold history_Due at hF
  refine aw_srH fun K hK => ?_
  (try simp only [go_sem])
  refine IsK.go (by assumption) ?_
  refine aw_seqH fun Q hQ => ?_
  obtain ⟨y1, h2, hF⟩ := bind_some hF
  refine aw_srH fun K hK => ?_
  (try simp only [go_sem])
  refine call_pure (history_CheckCalendar_ok h2) rfl (by simp only [go_sem]) (by simp only [go_sem]) ?_
  (try dsimp only); (try simp only [go_sem])
  refine IsK.go (by assumption) ?_
  refine aw_srH fun K hK => ?_
  (try simp only [go_sem])
  refine IsK.go (by assumption) ?_
  refine aw_cond rfl (fun hc => ?_) (fun hc => ?_)
  · replace hF := if_t hc hF
    refine aw_srH fun K hK => ?_
    (try simp only [go_sem])
    refine IsK.go (by assumption) ?_
    refine aw_ret ?_
    (repeat (refine IsQ.go (by assumption) ?_; (try dsimp only); (try simp only [reduceCtorEq, E0])))
    cases hF
    simp only [go_sem]
  · replace hF := if_f hc hF
    refine aw_skip ?_
    (repeat (refine IsQ.go (by assumption) ?_; (try dsimp only); (try simp only [reduceCtorEq, E0])))
    refine aw_seqH fun Q hQ => ?_
    obtain ⟨y3, h4, hF⟩ := bind_some hF
    refine aw_srH fun K hK => ?_
    (try simp only [go_sem])
    refine call_pure (history_CheckTerms_ok h4) rfl (by simp only [go_sem]) (by simp only [go_sem]) ?_
    (try dsimp only); (try simp only [go_sem])
    refine IsK.go (by assumption) ?_
    refine aw_srH fun K hK => ?_
    (try simp only [go_sem])
    refine IsK.go (by assumption) ?_
    refine aw_cond rfl (fun hc => ?_) (fun hc => ?_)
    · replace hF := if_t hc hF
      refine aw_srH fun K hK => ?_
      (try simp only [go_sem])
      refine IsK.go (by assumption) ?_
      refine aw_ret ?_
      (repeat (refine IsQ.go (by assumption) ?_; (try dsimp only); (try simp only [reduceCtorEq, E0])))
      cases hF
      simp only [go_sem]
    · replace hF := if_f hc hF
      refine aw_skip ?_
      (repeat (refine IsQ.go (by assumption) ?_; (try dsimp only); (try simp only [reduceCtorEq, E0])))
      refine aw_seqH fun Q hQ => ?_
      obtain ⟨b7, h8, hF⟩ := bind_some hF
      refine aw_srJ ⟨[(1, .p (.sl (v1.map T_api_Term.c))), (3, .bp 0 0), (5, .bp 1 0), (34, .p (vb b7))], [(1, .cells [.p (vs v2.Advisory.b), .p (vs v2.Component.b), .p (vi v2.Severity), .p (vi v2.From), .p (vi v2.To), .p (vb v2.Open)]), (0, .cells [.p (.sl (v0.Free.map cI)), .p (.sl (v0.Holidays.map cI))])], 2⟩ (fun K hK => ?_) ?_
      · (try simp only [go_sem])
        (try simp only [go_sem])
        refine vOps_split rfl ?_ ?_ <;> intro hg9 <;> (try simp only [hg9, go_sem])
        · simp only [hg9, gbS] at h8
          cases h8
          (try simp only [go_sem, hg9])
          refine IsK.go (by assumption) ?_
          exact (Upd.sub (show 2 ≤ 2 by decide) (by simp [go_sem, envSub, Env.get]) (by simp [go_sem, heapSub, Heap.get, belowO]))
        · (try simp only [go_sem, hg9])
          refine vOps_split rfl ?_ ?_ <;> intro hg10 <;> (try simp only [hg10, go_sem])
          · simp only [hg9, hg10, gbS] at h8
            cases h8
            (try simp only [go_sem, hg9, hg10])
            refine IsK.go (by assumption) ?_
            exact (Upd.sub (show 2 ≤ 2 by decide) (by simp [go_sem, envSub, Env.get]) (by simp [go_sem, heapSub, Heap.get, belowO]))
          · simp only [hg9, hg10, gbS] at h8
            obtain ⟨y11, h12, h8⟩ := bind_some h8
            (try simp only [go_sem, hg9, hg10])
            refine call_pure (history_isDay_ok h12) rfl (by simp only [go_sem]) (by simp only [go_sem]) ?_
            (try dsimp only); (try simp only [go_sem])
            cases h8
            (try simp only [go_sem, hg9, hg10])
            refine IsK.go (by assumption) ?_
            exact (Upd.sub (show 2 ≤ 2 by decide) (by simp [go_sem, envSub, Env.get]) (by simp [go_sem, heapSub, Heap.get, belowO]))
      refine aw_cond rfl (fun hc => ?_) (fun hc => ?_)
      · replace hF := if_t hc hF
        refine aw_srH fun K hK => ?_
        (try simp only [go_sem])
        refine IsK.go (by assumption) ?_
        refine aw_ret ?_
        (repeat (refine IsQ.go (by assumption) ?_; (try dsimp only); (try simp only [reduceCtorEq, E0])))
        cases hF
        simp only [go_sem]
      · replace hF := if_f hc hF
        refine aw_skip ?_
        (repeat (refine IsQ.go (by assumption) ?_; (try dsimp only); (try simp only [reduceCtorEq, E0])))
        obtain ⟨y13, h14, hF⟩ := bind_some hF
        obtain ⟨⟨y15, y16, y17⟩, h18, hF⟩ := bind_some hF
        (try dsimp only at hF)
        refine aw_sdH fun K hK => ?_
        (try simp only [go_sem])
        refine ⟨_, call_pure (history_weekOf_ok h14) rfl (by simp only [go_sem]) (by simp only [go_sem]) ⟨rfl, rfl, rfl⟩, ?_⟩
        (try dsimp only); (try simp only [go_sem])
        refine ⟨_, call_pure (history_week_due_ok h18) rfl (by simp only [go_sem]) (by simp only [go_sem]) ⟨rfl, rfl, rfl⟩, ?_⟩
        (try dsimp only); (try simp only [go_sem])
        refine IsK.go (by assumption) ?_
        refine aw_ret ?_
        (repeat (refine IsQ.go (by assumption) ?_; (try dsimp only); (try simp only [reduceCtorEq, E0])))
        cases hF
        simp only [go_sem]
theorem law11_HistoryDueMatchesSpec_ok {v0 : T_api_Calendar} {v1 : List T_api_Term} {v2 : T_api_Window} {r0} (hF : law11_HistoryDueMatchesSpec v0 v1 v2 = some r0) : APure Try.prog 5 [.p (.agg [.sl (v0.Free.map cI), .sl (v0.Holidays.map cI)]), .p (.sl (v1.map T_api_Term.c)), .p (.agg [vs v2.Advisory.b, vs v2.Component.b, vi v2.Severity, vi v2.From, vi v2.To, vb v2.Open])] (.p (vb r0)) := by
  refine apureZ 2 rc5_ok rfl ?_
  simp only [rc5, argEnv, Nat.reduceAdd]
  unfold law11_HistoryDueMatchesSpec at hF
  refine aw_srH fun K hK => ?_
  (try simp only [go_sem])
  refine IsK.go (by assumption) ?_
  obtain ⟨⟨y1, y2, y3⟩, h4, hF⟩ := bind_some hF
  (try dsimp only at hF)
  refine aw_srH fun K hK => ?_
  (try simp only [go_sem])
  refine call_pure (ref11_Due_ok h4) rfl (by simp only [go_sem]) (by simp only [go_sem]) ?_
  (try dsimp only); (try simp only [go_sem])
  refine IsK.go (by assumption) ?_
  obtain ⟨⟨y5, y6, y7⟩, h8, hF⟩ := bind_some hF
  (try dsimp only at hF)
  refine aw_srH fun K hK => ?_
  (try simp only [go_sem])
  refine call_pure (history_Due_ok h8) rfl (by simp only [go_sem]) (by simp only [go_sem]) ?_
  (try dsimp only); (try simp only [go_sem])
  refine IsK.go (by assumption) ?_
  obtain ⟨y9, h10, hF⟩ := bind_some hF
  obtain ⟨y11, h12, hF⟩ := bind_some hF
  obtain ⟨b15, h16, hF⟩ := bind_some hF
  refine aw_srJ ⟨[(6, .p (vb b15))], [], 2⟩ (fun K hK => ?_) ?_
  · (try simp only [go_sem])
    (try simp only [go_sem])
    refine call_pure (ref11_CheckTerms_ok h10) rfl (by simp only [go_sem]) (by simp only [go_sem]) ?_
    (try dsimp only); (try simp only [go_sem])
    (try simp only [go_sem])
    refine call_pure (history_CheckTerms_ok h12) rfl (by simp only [go_sem]) (by simp only [go_sem]) ?_
    (try dsimp only); (try simp only [go_sem])
    (try simp only [go_sem])
    refine vOps_split rfl ?_ ?_ <;> intro hg17 <;> (try simp only [hg17, go_sem])
    · (try simp only [go_sem, hg17])
      refine vOps_split rfl ?_ ?_ <;> intro hg18 <;> (try simp only [hg18, go_sem])
      · (try simp only [go_sem, hg17, hg18])
        refine vOps_split rfl ?_ ?_ <;> intro hg19 <;> (try simp only [hg19, go_sem])
        · (try simp only [go_sem, hg17, hg18, hg19])
          refine vOps_split rfl ?_ ?_ <;> intro hg20 <;> (try simp only [hg20, go_sem])
          · simp only [hg17, hg18, hg19, hg20, gbS] at h16
            obtain ⟨y21, h22, h16⟩ := bind_some h16
            (try simp only [go_sem, hg17, hg18, hg19, hg20])
            refine call_pure (law11_told_ok h22) rfl (by simp only [go_sem]) (by simp only [go_sem]) ?_
            (try dsimp only); (try simp only [go_sem, hg17, hg18, hg19, hg20])
            cases h16
            (try simp only [go_sem, hg17, hg18, hg19, hg20])
            refine IsK.go (by assumption) ?_
            exact (Upd.sub (show 2 ≤ 2 by decide) (by simp [go_sem, envSub, Env.get]) trivial)
          · simp only [hg17, hg18, hg19, hg20, gbS] at h16
            cases h16
            (try simp only [go_sem, hg17, hg18, hg19, hg20])
            refine IsK.go (by assumption) ?_
            exact (Upd.sub (show 2 ≤ 2 by decide) (by simp [go_sem, envSub, Env.get]) trivial)
        · simp only [hg17, hg18, hg19, gbS] at h16
          cases h16
          (try simp only [go_sem, hg17, hg18, hg19])
          refine IsK.go (by assumption) ?_
          exact (Upd.sub (show 2 ≤ 2 by decide) (by simp [go_sem, envSub, Env.get]) trivial)
      · simp only [hg17, hg18, gbS] at h16
        cases h16
        (try simp only [go_sem, hg17, hg18])
        refine IsK.go (by assumption) ?_
        exact (Upd.sub (show 2 ≤ 2 by decide) (by simp [go_sem, envSub, Env.get]) trivial)
    · simp only [hg17, gbS] at h16
      cases h16
      (try simp only [go_sem, hg17])
      refine IsK.go (by assumption) ?_
      exact (Upd.sub (show 2 ≤ 2 by decide) (by simp [go_sem, envSub, Env.get]) trivial)
  refine aw_ret ?_
  (repeat (refine IsQ.go (by assumption) ?_; (try dsimp only); (try simp only [reduceCtorEq, E0])))
  cases hF
  simp only [go_sem]
end Go.Abs
