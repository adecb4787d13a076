/- The walks of these functions against the plain ones (printed by a program of this repo). -/
import Derived.Test.YtjjhmldeammecaaRHy
import Derived.Test.YtjjhmldeammecaaGHwb
namespace Go.Abs
open Go Go.Proofs
set_option maxRecDepth 8000
theorem ref11_Why_ok {fuel : Nat} {v0 : T_api_Story} {v1 : Int} {r0 r1 r2} (hF : ref11_Why fuel v0 v1 = some (r0, r1, r2)) : APure Try.prog 41 [.p (.agg [vs v0.Product.b, .sl (v0.Releases.map T_api_Release.c), .sl (v0.Known.map T_api_Published.c), vi v0.Until]), .p (vi v1)] (.tup [.p (.sl (r0.map T_api_Window.c)), .p (.sl (r1.map T_api_Window.c)), .p (vi r2)]) := by
  refine apureZ 2 rc41_ok rfl ?_
  simp only [rc41, argEnv, Nat.reduceAdd]
  unfold ref11_Why at hF
  refine aw_srH fun K hK => ?_
  (try simp only [go_sem])
  refine IsK.go (by assumption) ?_
  refine aw_seqH fun Q hQ => ?_
  obtain ⟨y1, h2, hF⟩ := bind_some hF
  refine aw_srH fun K hK => ?_
  (try simp only [go_sem])
  refine call_pure (ref11_Check_ok h2) rfl (by simp only [go_sem]) (by simp only [go_sem]) ?_
  (try dsimp only); (try simp only [go_sem])
  refine IsK.go (by assumption) ?_
  refine aw_srH fun K hK => ?_
  (try simp only [go_sem])
  refine IsK.go (by assumption) ?_
  refine aw_cond rfl (fun hc => ?_) (fun hc => ?_)
  · replace hF := if_t hc hF
    refine aw_srH fun K hK => ?_
    (try simp only [go_sem])
    refine IsK.go (by assumption) ?_
    refine aw_ret ?_
    (repeat (refine IsQ.go (by assumption) ?_; (try dsimp only); (try simp only [reduceCtorEq, E0])))
    cases hF
    simp only [go_sem]
  · replace hF := if_f hc hF
    refine aw_skip ?_
    (repeat (refine IsQ.go (by assumption) ?_; (try dsimp only); (try simp only [reduceCtorEq, E0])))
    refine aw_seqH fun Q hQ => ?_
    obtain ⟨y3, h4, hF⟩ := bind_some hF
    refine aw_srH fun K hK => ?_
    (try simp only [go_sem])
    refine call_pure (ref11_isDay_ok h4) rfl (by simp only [go_sem]) (by simp only [go_sem]) ?_
    (try dsimp only); (try simp only [go_sem])
    refine IsK.go (by assumption) ?_
    refine aw_cond rfl (fun hc => ?_) (fun hc => ?_)
    · replace hF := if_t hc hF
      refine aw_srH fun K hK => ?_
      (try simp only [go_sem])
      refine IsK.go (by assumption) ?_
      refine aw_ret ?_
      (repeat (refine IsQ.go (by assumption) ?_; (try dsimp only); (try simp only [reduceCtorEq, E0])))
      cases hF
      simp only [go_sem]
    · replace hF := if_f hc hF
      refine aw_skip ?_
      (repeat (refine IsQ.go (by assumption) ?_; (try dsimp only); (try simp only [reduceCtorEq, E0])))
      refine aw_seqH fun Q hQ => ?_
      obtain ⟨y5, h6, hF⟩ := bind_some hF
      refine aw_srH fun K hK => ?_
      (try simp only [go_sem])
      refine call_pure (ref11_windows_ok h6) rfl (by simp only [go_sem]) (by simp only [go_sem]) ?_
      (try dsimp only); (try simp only [go_sem])
      refine IsK.go (by assumption) ?_
      refine aw_upd (Upd.ownTmp _ 4 rfl) ?_; dsimp only
      refine aw_upd (Upd.ownTmp _ 5 rfl) ?_; dsimp only
      refine aw_joinX hF (fun ((l39, l40) : (List T_api_Window) × (List T_api_Window)) => ⟨[(4, .os 1 0 l39.length), (5, .os 2 0 l40.length)], [(2, .slice (l40.map T_api_Window.c)), (1, .slice (l39.map T_api_Window.c))], 3⟩) ?_ ?_
      · intro y41 hF hj41 Q hQ
        refine aw_blockH fun Q hQ => ?_
        refine aw_fact 19 rfl (fun _ _ => sl_lim) fun hl9 => ?_; simp only [List.length_map, top] at hl9
        refine aw_forL hF (fun i7 (l29, l30) => ⟨[(1, .p (vi v1)), (4, .os 1 0 l29.length), (5, .os 2 0 l30.length), (19, .p (.sl (y5.map T_api_Window.c))), (20, .p (vi (y5.length : Int))), (21, .p (vi (i7 : Int)))], [(2, .slice (l30.map T_api_Window.c)), (1, .slice (l29.map T_api_Window.c))], 3⟩) (Upd.sub (show 3 ≤ 3 by decide) (by simp [go_sem, envSub, Env.get]) (by simp [go_sem, heapSub, Heap.get, belowO])) ?_ ?_
        · rintro ⟨l29, l30⟩ hy Q hQ
          (try dsimp only at hy ⊢)
          have hlt : decide (((y5.length : Int) : Int) < (y5.length : Int)) = false := by simp
          refine aw_srH fun K hK => ?_
          (try simp only [go_sem, hlt])
          refine IsK.go (by assumption) ?_
          refine aw_seqH fun Q hQ => ?_
          refine aw_cond rfl (fun hc => ?_) (fun hc => ?_)
          · cases hc
          refine aw_exit ?_
          (repeat (refine IsQ.go (by assumption) ?_; (try dsimp only); (try simp only [E0])))
          exact ⟨_, hy, (Upd.sub (show 3 ≤ 3 by decide) (by simp [go_sem, envSub, Env.get]) (by simp [go_sem, heapSub, Heap.get, belowO]))⟩
        · rintro i7 x10 ⟨l29, l30⟩ z41 hi hx hF hb41 hr41 Q hQ
          (try dsimp only at hF ⊢)
          have hlt : decide ((i7 : Int) < (y5.length : Int)) = true := by simp; omega
          have hw8 : IntKind.i64.wrap ((i7 : Int) + 1) = ((i7 + 1 : Nat) : Int) := by rw [wrap64 (by omega) (by omega)]; simp
          refine aw_srH fun K hK => ?_
          (try simp only [go_sem, hlt])
          refine IsK.go (by assumption) ?_
          refine aw_seqH fun Q hQ => ?_
          refine aw_cond rfl (fun hc => ?_) (fun hc => ?_)
          rotate_left; · cases hc
          refine aw_skip ?_
          (repeat (refine IsQ.go (by assumption) ?_; (try dsimp only); (try simp only [reduceCtorEq, E0])))
          refine aw_seqH fun Q hQ => ?_
          refine aw_blockH fun Q hQ => ?_
          refine aw_srH fun K hK => ?_
          (try simp only [go_sem, hx])
          refine IsK.go (by assumption) ?_
          refine aw_joinK hF (fun (l44 : (List T_api_Window)) => ⟨[(1, .p (vi v1)), (4, .os 1 0 l44.length), (5, .os 2 0 l30.length), (9, .bp 3 0), (19, .p (.sl (y5.map T_api_Window.c))), (20, .p (vi (y5.length : Int))), (21, .p (vi (i7 : Int)))], [(3, .cells [.p (vs x10.Advisory.b), .p (vs x10.Component.b), .p (vi x10.Severity), .p (vi x10.From), .p (vi x10.To), .p (vb x10.Open)]), (2, .slice (l30.map T_api_Window.c)), (1, .slice (l44.map T_api_Window.c))], 4⟩) ?_ ?_
          · intro z45 hF hr45 Q hQ
            refine aw_srH fun K hK => ?_
            (try simp only [go_sem])
            refine IsK.go (by assumption) ?_
            refine aw_cond rfl (fun hc => ?_) (fun hc => ?_)
            · replace hF := if_t hc hF
              obtain ⟨l46, h47, hF⟩ := bind_some hF
              obtain ⟨h47, h47v⟩ := app_some h47; (try simp only [go_sem] at h47)
              refine aw_region ?_
              (try simp only [go_sem, h47])
              (repeat (refine IsQ.go (by assumption) ?_; (try dsimp only); (try simp only [reduceCtorEq, E0])))
              cases hF
              exact ⟨_, rfl, (Upd.sub (show 4 ≤ 4 by decide) (by simp [go_sem, envSub, Env.get, h47v]) (by simp [go_sem, heapSub, Heap.get, belowO, h47v]))⟩
            · replace hF := if_f hc hF
              refine aw_skip ?_
              (repeat (refine IsQ.go (by assumption) ?_; (try dsimp only); (try simp only [reduceCtorEq, E0])))
              cases hF
              exact ⟨_, rfl, (Upd.sub (show 4 ≤ 4 by decide) (by simp [go_sem, envSub, Env.get]) (by simp [go_sem, heapSub, Heap.get, belowO]))⟩
          rintro l44 hF
          (try dsimp only at hF ⊢)
          refine aw_srJ ⟨[(1, .p (vi v1)), (4, .os 1 0 l44.length), (5, .os 2 0 l30.length), (9, .bp 3 0), (19, .p (.sl (y5.map T_api_Window.c))), (20, .p (vi (y5.length : Int))), (21, .p (vi (i7 : Int))), (41, .p (vb ((x10.To == v1) && (!x10.Open))))], [(3, .cells [.p (vs x10.Advisory.b), .p (vs x10.Component.b), .p (vi x10.Severity), .p (vi x10.From), .p (vi x10.To), .p (vb x10.Open)]), (2, .slice (l30.map T_api_Window.c)), (1, .slice (l44.map T_api_Window.c))], 4⟩ (fun K hK => ?_) ?_
          · (try simp only [go_sem])
            (try simp only [go_sem])
            refine vOps_split rfl ?_ ?_ <;> intro hg48 <;> (try simp only [hg48, go_sem])
            · (try simp only [go_sem, hg48])
              refine IsK.go (by assumption) ?_
              exact (Upd.sub (show 4 ≤ 4 by decide) (by simp [go_sem, envSub, Env.get, hg48] <;> ((try simp only [decide_eq_true_eq, decide_eq_false_iff_not] at hg48); omega)) (by simp [go_sem, heapSub, Heap.get, belowO] <;> ((try simp only [decide_eq_true_eq, decide_eq_false_iff_not] at hg48); omega)))
            · (try simp only [go_sem, hg48])
              refine IsK.go (by assumption) ?_
              exact (Upd.sub (show 4 ≤ 4 by decide) (by simp [go_sem, envSub, Env.get, hg48] <;> ((try simp only [decide_eq_true_eq, decide_eq_false_iff_not] at hg48); omega)) (by simp [go_sem, heapSub, Heap.get, belowO] <;> ((try simp only [decide_eq_true_eq, decide_eq_false_iff_not] at hg48); omega)))
          refine aw_cond rfl (fun hc => ?_) (fun hc => ?_)
          · replace hF := if_t hc hF
            obtain ⟨l49, h50, hF⟩ := bind_some hF
            obtain ⟨h50, h50v⟩ := app_some h50; (try simp only [go_sem] at h50)
            refine aw_region ?_
            (try simp only [go_sem, h50])
            (repeat (refine IsQ.go (by assumption) ?_; (try dsimp only); (try simp only [reduceCtorEq, E0])))
            refine aw_region ?_
            (try simp only [go_sem, hw8])
            (repeat (refine IsQ.go (by assumption) ?_; (try dsimp only); (try simp only [reduceCtorEq, E0])))
            cases hF
            exact ⟨_, rfl, (Upd.sub (show 3 ≤ 3 by decide) (by simp [go_sem, envSub, Env.get, h50v]) (by simp [go_sem, heapSub, Heap.get, belowO, h50v]))⟩
          · replace hF := if_f hc hF
            refine aw_skip ?_
            (repeat (refine IsQ.go (by assumption) ?_; (try dsimp only); (try simp only [reduceCtorEq, E0])))
            refine aw_region ?_
            (try simp only [go_sem, hw8])
            (repeat (refine IsQ.go (by assumption) ?_; (try dsimp only); (try simp only [reduceCtorEq, E0])))
            cases hF
            exact ⟨_, rfl, (Upd.sub (show 3 ≤ 3 by decide) (by simp [go_sem, envSub, Env.get]) (by simp [go_sem, heapSub, Heap.get, belowO]))⟩
      rintro ⟨l39, l40⟩ hF
      (try dsimp only at hF ⊢)
      (repeat (refine IsQ.go (by assumption) ?_; (try dsimp only); (try simp only [reduceCtorEq, E0])))
      refine aw_srH fun K hK => ?_
      (try simp only [go_sem])
      refine IsK.go (by assumption) ?_
      refine aw_ret ?_
      (repeat (refine IsQ.go (by assumption) ?_; (try dsimp only); (try simp only [reduceCtorEq, E0])))
      cases hF
      simp only [go_sem]
theorem history_Why_ok {fuel : Nat} {v0 : T_api_Story} {v1 : Int} {r0 r1 r2} (hF : history_Why fuel v0 v1 = some (r0, r1, r2)) : APure Try.prog 42 [.p (.agg [vs v0.Product.b, .sl (v0.Releases.map T_api_Release.c), .sl (v0.Known.map T_api_Published.c), vi v0.Until]), .p (vi v1)] (.tup [.p (.sl (r0.map T_api_Window.c)), .p (.sl (r1.map T_api_Window.c)), .p (vi r2)]) := by
  refine apureZ 2 rc42_ok rfl ?_
  simp only [rc42, argEnv, Nat.reduceAdd]
  unfold history_Why at hF
  refine aw_srH fun K hK => ?_
  (try simp only [go_sem])
  refine IsK.go (by assumption) ?_
  refine aw_seqH fun Q hQ => ?_
  obtain ⟨y1, h2, hF⟩ := bind_some hF
  refine aw_srH fun K hK => ?_
  (try simp only [go_sem])
  refine call_pure (history_Check_ok h2) rfl (by simp only [go_sem]) (by simp only [go_sem]) ?_
  (try dsimp only); (try simp only [go_sem])
  refine IsK.go (by assumption) ?_
  refine aw_srH fun K hK => ?_
  (try simp only [go_sem])
  refine IsK.go (by assumption) ?_
  refine aw_cond rfl (fun hc => ?_) (fun hc => ?_)
  · replace hF := if_t hc hF
    refine aw_srH fun K hK => ?_
    (try simp only [go_sem])
    refine IsK.go (by assumption) ?_
    refine aw_ret ?_
    (repeat (refine IsQ.go (by assumption) ?_; (try dsimp only); (try simp only [reduceCtorEq, E0])))
    cases hF
    simp only [go_sem]
  · replace hF := if_f hc hF
    refine aw_skip ?_
    (repeat (refine IsQ.go (by assumption) ?_; (try dsimp only); (try simp only [reduceCtorEq, E0])))
    refine aw_seqH fun Q hQ => ?_
    obtain ⟨y3, h4, hF⟩ := bind_some hF
    refine aw_srH fun K hK => ?_
    (try simp only [go_sem])
    refine call_pure (history_isDay_ok h4) rfl (by simp only [go_sem]) (by simp only [go_sem]) ?_
    (try dsimp only); (try simp only [go_sem])
    refine IsK.go (by assumption) ?_
    refine aw_cond rfl (fun hc => ?_) (fun hc => ?_)
    · replace hF := if_t hc hF
      refine aw_srH fun K hK => ?_
      (try simp only [go_sem])
      refine IsK.go (by assumption) ?_
      refine aw_ret ?_
      (repeat (refine IsQ.go (by assumption) ?_; (try dsimp only); (try simp only [reduceCtorEq, E0])))
      cases hF
      simp only [go_sem]
    · replace hF := if_f hc hF
      refine aw_skip ?_
      (repeat (refine IsQ.go (by assumption) ?_; (try dsimp only); (try simp only [reduceCtorEq, E0])))
      refine aw_seqH fun Q hQ => ?_
      obtain ⟨y5, h6, hF⟩ := bind_some hF
      refine aw_srH fun K hK => ?_
      (try simp only [go_sem])
      refine call_pure (history_windows_ok h6) rfl (by simp only [go_sem]) (by simp only [go_sem]) ?_
      (try dsimp only); (try simp only [go_sem])
      refine IsK.go (by assumption) ?_
      refine aw_upd (Upd.ownTmp _ 4 rfl) ?_; dsimp only
      refine aw_upd (Upd.ownTmp _ 5 rfl) ?_; dsimp only
      refine aw_joinX hF (fun ((l39, l40) : (List T_api_Window) × (List T_api_Window)) => ⟨[(4, .os 1 0 l39.length), (5, .os 2 0 l40.length)], [(2, .slice (l40.map T_api_Window.c)), (1, .slice (l39.map T_api_Window.c))], 3⟩) ?_ ?_
      · intro y41 hF hj41 Q hQ
        refine aw_blockH fun Q hQ => ?_
        refine aw_fact 19 rfl (fun _ _ => sl_lim) fun hl9 => ?_; simp only [List.length_map, top] at hl9
        refine aw_forL hF (fun i7 (l29, l30) => ⟨[(1, .p (vi v1)), (4, .os 1 0 l29.length), (5, .os 2 0 l30.length), (19, .p (.sl (y5.map T_api_Window.c))), (20, .p (vi (y5.length : Int))), (21, .p (vi (i7 : Int)))], [(2, .slice (l30.map T_api_Window.c)), (1, .slice (l29.map T_api_Window.c))], 3⟩) (Upd.sub (show 3 ≤ 3 by decide) (by simp [go_sem, envSub, Env.get]) (by simp [go_sem, heapSub, Heap.get, belowO])) ?_ ?_
        · rintro ⟨l29, l30⟩ hy Q hQ
          (try dsimp only at hy ⊢)
          have hlt : decide (((y5.length : Int) : Int) < (y5.length : Int)) = false := by simp
          refine aw_srH fun K hK => ?_
          (try simp only [go_sem, hlt])
          refine IsK.go (by assumption) ?_
          refine aw_seqH fun Q hQ => ?_
          refine aw_cond rfl (fun hc => ?_) (fun hc => ?_)
          · cases hc
          refine aw_exit ?_
          (repeat (refine IsQ.go (by assumption) ?_; (try dsimp only); (try simp only [E0])))
          exact ⟨_, hy, (Upd.sub (show 3 ≤ 3 by decide) (by simp [go_sem, envSub, Env.get]) (by simp [go_sem, heapSub, Heap.get, belowO]))⟩
        · rintro i7 x10 ⟨l29, l30⟩ z41 hi hx hF hb41 hr41 Q hQ
          (try dsimp only at hF ⊢)
          have hlt : decide ((i7 : Int) < (y5.length : Int)) = true := by simp; omega
          have hw8 : IntKind.i64.wrap ((i7 : Int) + 1) = ((i7 + 1 : Nat) : Int) := by rw [wrap64 (by omega) (by omega)]; simp
          refine aw_srH fun K hK => ?_
          (try simp only [go_sem, hlt])
          refine IsK.go (by assumption) ?_
          refine aw_seqH fun Q hQ => ?_
          refine aw_cond rfl (fun hc => ?_) (fun hc => ?_)
          rotate_left; · cases hc
          refine aw_skip ?_
          (repeat (refine IsQ.go (by assumption) ?_; (try dsimp only); (try simp only [reduceCtorEq, E0])))
          refine aw_seqH fun Q hQ => ?_
          refine aw_blockH fun Q hQ => ?_
          refine aw_srH fun K hK => ?_
          (try simp only [go_sem, hx])
          refine IsK.go (by assumption) ?_
          refine aw_joinK hF (fun (l44 : (List T_api_Window)) => ⟨[(1, .p (vi v1)), (4, .os 1 0 l44.length), (5, .os 2 0 l30.length), (9, .bp 3 0), (19, .p (.sl (y5.map T_api_Window.c))), (20, .p (vi (y5.length : Int))), (21, .p (vi (i7 : Int)))], [(3, .cells [.p (vs x10.Advisory.b), .p (vs x10.Component.b), .p (vi x10.Severity), .p (vi x10.From), .p (vi x10.To), .p (vb x10.Open)]), (2, .slice (l30.map T_api_Window.c)), (1, .slice (l44.map T_api_Window.c))], 4⟩) ?_ ?_
          · intro z45 hF hr45 Q hQ
            refine aw_srH fun K hK => ?_
            (try simp only [go_sem])
            refine IsK.go (by assumption) ?_
            refine aw_cond rfl (fun hc => ?_) (fun hc => ?_)
            · replace hF := if_t hc hF
              obtain ⟨l46, h47, hF⟩ := bind_some hF
              obtain ⟨h47, h47v⟩ := app_some h47; (try simp only [go_sem] at h47)
              refine aw_region ?_
              (try simp only [go_sem, h47])
              (repeat (refine IsQ.go (by assumption) ?_; (try dsimp only); (try simp only [reduceCtorEq, E0])))
              cases hF
              exact ⟨_, rfl, (Upd.sub (show 4 ≤ 4 by decide) (by simp [go_sem, envSub, Env.get, h47v]) (by simp [go_sem, heapSub, Heap.get, belowO, h47v]))⟩
            · replace hF := if_f hc hF
              refine aw_skip ?_
              (repeat (refine IsQ.go (by assumption) ?_; (try dsimp only); (try simp only [reduceCtorEq, E0])))
              cases hF
              exact ⟨_, rfl, (Upd.sub (show 4 ≤ 4 by decide) (by simp [go_sem, envSub, Env.get]) (by simp [go_sem, heapSub, Heap.get, belowO]))⟩
          rintro l44 hF
          (try dsimp only at hF ⊢)
          refine aw_srJ ⟨[(1, .p (vi v1)), (4, .os 1 0 l44.length), (5, .os 2 0 l30.length), (9, .bp 3 0), (19, .p (.sl (y5.map T_api_Window.c))), (20, .p (vi (y5.length : Int))), (21, .p (vi (i7 : Int))), (41, .p (vb ((x10.To == v1) && (!x10.Open))))], [(3, .cells [.p (vs x10.Advisory.b), .p (vs x10.Component.b), .p (vi x10.Severity), .p (vi x10.From), .p (vi x10.To), .p (vb x10.Open)]), (2, .slice (l30.map T_api_Window.c)), (1, .slice (l44.map T_api_Window.c))], 4⟩ (fun K hK => ?_) ?_
          · (try simp only [go_sem])
            (try simp only [go_sem])
            refine vOps_split rfl ?_ ?_ <;> intro hg48 <;> (try simp only [hg48, go_sem])
            · (try simp only [go_sem, hg48])
              refine IsK.go (by assumption) ?_
              exact (Upd.sub (show 4 ≤ 4 by decide) (by simp [go_sem, envSub, Env.get, hg48] <;> ((try simp only [decide_eq_true_eq, decide_eq_false_iff_not] at hg48); omega)) (by simp [go_sem, heapSub, Heap.get, belowO] <;> ((try simp only [decide_eq_true_eq, decide_eq_false_iff_not] at hg48); omega)))
            · (try simp only [go_sem, hg48])
              refine IsK.go (by assumption) ?_
              exact (Upd.sub (show 4 ≤ 4 by decide) (by simp [go_sem, envSub, Env.get, hg48] <;> ((try simp only [decide_eq_true_eq, decide_eq_false_iff_not] at hg48); omega)) (by simp [go_sem, heapSub, Heap.get, belowO] <;> ((try simp only [decide_eq_true_eq, decide_eq_false_iff_not] at hg48); omega)))
          refine aw_cond rfl (fun hc => ?_) (fun hc => ?_)
          · replace hF := if_t hc hF
            obtain ⟨l49, h50, hF⟩ := bind_some hF
            obtain ⟨h50, h50v⟩ := app_some h50; (try simp only [go_sem] at h50)
            refine aw_region ?_
            (try simp only [go_sem, h50])
            (repeat (refine IsQ.go (by assumption) ?_; (try dsimp only); (try simp only [reduceCtorEq, E0])))
            refine aw_region ?_
            (try simp only [go_sem, hw8])
            (repeat (refine IsQ.go (by assumption) ?_; (try dsimp only); (try simp only [reduceCtorEq, E0])))
            cases hF
            exact ⟨_, rfl, (Upd.sub (show 3 ≤ 3 by decide) (by simp [go_sem, envSub, Env.get, h50v]) (by simp [go_sem, heapSub, Heap.get, belowO, h50v]))⟩
          · replace hF := if_f hc hF
            refine aw_skip ?_
            (repeat (refine IsQ.go (by assumption) ?_; (try dsimp only); (try simp only [reduceCtorEq, E0])))
            refine aw_region ?_
            (try simp only [go_sem, hw8])
            (repeat (refine IsQ.go (by assumption) ?_; (try dsimp only); (try simp only [reduceCtorEq, E0])))
            cases hF
            exact ⟨_, rfl, (Upd.sub (show 3 ≤ 3 by decide) (by simp [go_sem, envSub, Env.get]) (by simp [go_sem, heapSub, Heap.get, belowO]))⟩
      rintro ⟨l39, l40⟩ hF
      (try dsimp only at hF ⊢)
      (repeat (refine IsQ.go (by assumption) ?_; (try dsimp only); (try simp only [reduceCtorEq, E0])))
      refine aw_srH fun K hK => ?_
      (try simp only [go_sem])
      refine IsK.go (by assumption) ?_
      refine aw_ret ?_
      (repeat (refine IsQ.go (by assumption) ?_; (try dsimp only); (try simp only [reduceCtorEq, E0])))
      cases hF
      simp only [go_sem]
theorem law11_HistoryWhyMatchesSpec_ok {fuel : Nat} {v0 : T_api_Story} {v1 : Int} {r0} (hF : law11_HistoryWhyMatchesSpec fuel v0 v1 = some r0) : APure Try.prog 9 [.p (.agg [vs v0.Product.b, .sl (v0.Releases.map T_api_Release.c), .sl (v0.Known.map T_api_Published.c), vi v0.Until]), .p (vi v1)] (.p (vb r0)) := by
  refine apureZ 2 rc9_ok rfl ?_
  simp only [rc9, argEnv, Nat.reduceAdd]
  unfold law11_HistoryWhyMatchesSpec at hF
  refine aw_srH fun K hK => ?_
  (try simp only [go_sem])
  refine IsK.go (by assumption) ?_
  obtain ⟨⟨y1, y2, y3⟩, h4, hF⟩ := bind_some hF
  (try dsimp only at hF)
  refine aw_srH fun K hK => ?_
  (try simp only [go_sem])
  refine call_pure (ref11_Why_ok h4) rfl (by simp only [go_sem]) (by simp only [go_sem]) ?_
  (try dsimp only); (try simp only [go_sem])
  refine IsK.go (by assumption) ?_
  obtain ⟨⟨y5, y6, y7⟩, h8, hF⟩ := bind_some hF
  (try dsimp only at hF)
  refine aw_srH fun K hK => ?_
  (try simp only [go_sem])
  refine call_pure (history_Why_ok h8) rfl (by simp only [go_sem]) (by simp only [go_sem]) ?_
  (try dsimp only); (try simp only [go_sem])
  refine IsK.go (by assumption) ?_
  obtain ⟨y9, h10, hF⟩ := bind_some hF
  obtain ⟨b13, h14, hF⟩ := bind_some hF
  obtain ⟨b17, h18, hF⟩ := bind_some hF
  refine aw_srJ ⟨[(4, .p (vb b17))], [], 1⟩ (fun K hK => ?_) ?_
  · (try simp only [go_sem])
    (try simp only [go_sem])
    refine call_pure (slices_Equal_Window_Window_ok h10) rfl (by simp only [go_sem]) (by simp only [go_sem]) ?_
    (try dsimp only); (try simp only [go_sem])
    (try simp only [go_sem])
    refine vOps_split rfl ?_ ?_ <;> intro hg19 <;> (try simp only [hg19, go_sem])
    · simp only [hg19, gbS] at h14
      obtain ⟨y20, h21, h14⟩ := bind_some h14
      (try simp only [go_sem, hg19])
      refine call_pure (slices_Equal_Window_Window_ok h21) rfl (by simp only [go_sem]) (by simp only [go_sem]) ?_
      (try dsimp only); (try simp only [go_sem, hg19])
      cases h14
      (try simp only [go_sem, hg19])
      refine vOps_split rfl ?_ ?_ <;> intro hg22 <;> (try simp only [hg22, go_sem])
      · (try simp only [go_sem, hg19, hg22])
        refine vOps_split rfl ?_ ?_ <;> intro hg23 <;> (try simp only [hg23, go_sem])
        · simp only [hg22, hg23, gbS] at h18
          obtain ⟨y24, h25, h18⟩ := bind_some h18
          (try simp only [go_sem, hg19, hg22, hg23])
          refine call_pure (law11_told_ok h25) rfl (by simp only [go_sem]) (by simp only [go_sem]) ?_
          (try dsimp only); (try simp only [go_sem, hg19, hg22, hg23])
          cases h18
          (try simp only [go_sem, hg19, hg22, hg23])
          refine IsK.go (by assumption) ?_
          exact (Upd.sub (show 1 ≤ 1 by decide) (by simp [go_sem, envSub, Env.get] <;> ((try simp only [decide_eq_true_eq, decide_eq_false_iff_not] at hg19); (try simp only [decide_eq_true_eq, decide_eq_false_iff_not] at hg22); (try simp only [decide_eq_true_eq, decide_eq_false_iff_not] at hg23); omega)) trivial)
        · simp only [hg22, hg23, gbS] at h18
          cases h18
          (try simp only [go_sem, hg19, hg22, hg23])
          refine IsK.go (by assumption) ?_
          exact (Upd.sub (show 1 ≤ 1 by decide) (by simp [go_sem, envSub, Env.get] <;> ((try simp only [decide_eq_true_eq, decide_eq_false_iff_not] at hg19); (try simp only [decide_eq_true_eq, decide_eq_false_iff_not] at hg22); (try simp only [decide_eq_true_eq, decide_eq_false_iff_not] at hg23); omega)) trivial)
      · simp only [hg22, gbS] at h18
        cases h18
        (try simp only [go_sem, hg19, hg22])
        refine IsK.go (by assumption) ?_
        exact (Upd.sub (show 1 ≤ 1 by decide) (by simp [go_sem, envSub, Env.get] <;> ((try simp only [decide_eq_true_eq, decide_eq_false_iff_not] at hg19); (try simp only [decide_eq_true_eq, decide_eq_false_iff_not] at hg22); omega)) trivial)
    · simp only [hg19, gbS] at h14
      cases h14
      simp only [gbS] at h18
      cases h18
      (try simp only [go_sem, hg19])
      refine IsK.go (by assumption) ?_
      exact (Upd.sub (show 1 ≤ 1 by decide) (by simp [go_sem, envSub, Env.get] <;> ((try simp only [decide_eq_true_eq, decide_eq_false_iff_not] at hg19); omega)) trivial)
  refine aw_ret ?_
  (repeat (refine IsQ.go (by assumption) ?_; (try dsimp only); (try simp only [reduceCtorEq, E0])))
  cases hF
  simp only [go_sem]
end Go.Abs
