/- The walks of these functions against the plain ones (printed by a program of this repo). -/
import Derived.Test.YtjjhmldeammecaaGHwa
namespace Go.Abs
open Go Go.Proofs
set_option maxRecDepth 8000
theorem history_orderWindows_ok {v0 : T_api_Window} {v1 : T_api_Window} {r0} (hF : history_orderWindows v0 v1 = some r0) : APure Try.prog 135 [.p (.agg [vs v0.Advisory.b, vs v0.Component.b, vi v0.Severity, vi v0.From, vi v0.To, vb v0.Open]), .p (.agg [vs v1.Advisory.b, vs v1.Component.b, vi v1.Severity, vi v1.From, vi v1.To, vb v1.Open])] (.p (vi r0)) := by
  refine apureZ 2 rc135_ok rfl ?_
  simp only [rc135, argEnv, Nat.reduceAdd]
  unfold history_orderWindows at hF
  refine aw_srH fun K hK => ?_
  (try simp only [go_sem])
  refine IsK.go (by assumption) ?_
  obtain ⟨y1, h2, hF⟩ := bind_some hF
  obtain ⟨y3, h4, hF⟩ := bind_some hF
  obtain ⟨y5, h6, hF⟩ := bind_some hF
  obtain ⟨y7, h8, hF⟩ := bind_some hF
  refine aw_sdH fun K hK => ?_
  refine vD_cut 9 fun K hK => ?_
  (try simp only [go_sem])
  refine ⟨_, call_pure (cmp_Compare_int_ok h2) rfl (by simp only [go_sem]) (by simp only [go_sem]) ⟨rfl, rfl, rfl⟩, ?_⟩
  (try dsimp only); (try simp only [go_sem])
  refine IsK.go (by assumption) ?_
  (try simp only [go_sem])
  refine ⟨_, call_pure (cmp_Compare_string_ok h4) rfl (by simp only [go_sem]) (by simp only [go_sem]) ⟨rfl, rfl, rfl⟩, ?_⟩
  (try dsimp only); (try simp only [go_sem])
  refine ⟨_, call_pure (cmp_Compare_string_ok h6) rfl (by simp only [go_sem]) (by simp only [go_sem]) ⟨rfl, rfl, rfl⟩, ?_⟩
  (try dsimp only); (try simp only [go_sem])
  refine ⟨_, call_lent (cmp_Or_int_ok h8) 1 (by simp only [go_sem]) (by simp only [go_sem]) rfl ⟨rfl, rfl, rfl⟩, ?_⟩
  (try dsimp only); (try simp only [go_sem])
  refine IsK.go (by assumption) ?_
  refine aw_ret ?_
  (repeat (refine IsQ.go (by assumption) ?_; (try dsimp only); (try simp only [reduceCtorEq, E0])))
  cases hF
  simp only [go_sem]
theorem history_windows_ok {fuel : Nat} {v0 : T_api_Story} {r0} (hF : history_windows fuel v0 = some r0) : APure Try.prog 99 [.p (.agg [vs v0.Product.b, .sl (v0.Releases.map T_api_Release.c), .sl (v0.Known.map T_api_Published.c), vi v0.Until])] (.p (.sl (r0.map T_api_Window.c))) := by
  refine apureZ 2 rc99_ok rfl ?_
  simp only [rc99, argEnv]
  unfold history_windows at hF
  refine aw_srH fun K hK => ?_
  (try simp only [go_sem])
  refine IsK.go (by assumption) ?_
  refine aw_srH fun K hK => ?_
  (try simp only [go_sem])
  refine IsK.go (by assumption) ?_
  refine aw_srH fun K hK => ?_
  (try simp only [go_sem])
  refine IsK.go (by assumption) ?_
  refine aw_seqH fun Q hQ => ?_
  obtain ⟨y1, h2, hF⟩ := bind_some hF
  refine aw_srH fun K hK => ?_
  (try simp only [go_sem])
  refine call_pure (history_pieces_ok h2) rfl (by simp only [go_sem]) (by simp only [go_sem]) ?_
  (try dsimp only); (try simp only [go_sem])
  refine IsK.go (by assumption) ?_
  refine aw_upd (Upd.ownTmp _ 3 rfl) ?_; dsimp only
  refine aw_joinX hF (fun (l41 : (List T_api_Window)) => ⟨[(1, .bp 0 0), (3, .os 2 0 l41.length)], [(2, .slice (l41.map T_api_Window.c)), (0, .cells [.p (vs v0.Product.b), .p (.sl (v0.Releases.map T_api_Release.c)), .p (.sl (v0.Known.map T_api_Published.c)), .p (vi v0.Until)])], 3⟩) ?_ ?_
  · intro y42 hF hj42 Q hQ
    refine aw_blockH fun Q hQ => ?_
    refine aw_fact 13 rfl (fun _ _ => sl_lim) fun hl5 => ?_; simp only [List.length_map, top] at hl5
    refine aw_forL hF (fun i3 (m27, l28) => ⟨[(1, .bp 0 0), (3, .os 2 0 l28.length), (4, .mp 1), (13, .p (.sl (y1.map T_history_piece.c))), (14, .p (vi (y1.length : Int))), (15, .p (vi (i3 : Int)))], [(2, .slice (l28.map T_api_Window.c)), (1, .map (m27.map (cM (pA T_history_key.c) pI))), (0, .cells [.p (vs v0.Product.b), .p (.sl (v0.Releases.map T_api_Release.c)), .p (.sl (v0.Known.map T_api_Published.c)), .p (vi v0.Until)])], 3⟩) (Upd.sub (show 3 ≤ 3 by decide) (by simp [go_sem, envSub, Env.get]) (by simp [go_sem, heapSub, Heap.get, belowO])) ?_ ?_
    · rintro ⟨m27, l28⟩ hy Q hQ
      (try dsimp only at hy ⊢)
      have hlt : decide (((y1.length : Int) : Int) < (y1.length : Int)) = false := by simp
      refine aw_srH fun K hK => ?_
      (try simp only [go_sem, hlt])
      refine IsK.go (by assumption) ?_
      refine aw_seqH fun Q hQ => ?_
      refine aw_cond rfl (fun hc => ?_) (fun hc => ?_)
      · cases hc
      refine aw_exit ?_
      (repeat (refine IsQ.go (by assumption) ?_; (try dsimp only); (try simp only [E0])))
      exact ⟨_, hy, (Upd.sub (show 3 ≤ 3 by decide) (by simp [go_sem, envSub, Env.get]) (by simp [go_sem, heapSub, Heap.get, belowO]))⟩
    · rintro i3 x6 ⟨m27, l28⟩ z42 hi hx hF hb42 hr42 Q hQ
      (try dsimp only at hF ⊢)
      have hlt : decide ((i3 : Int) < (y1.length : Int)) = true := by simp; omega
      have hw4 : IntKind.i64.wrap ((i3 : Int) + 1) = ((i3 + 1 : Nat) : Int) := by rw [wrap64 (by omega) (by omega)]; simp
      refine aw_srH fun K hK => ?_
      (try simp only [go_sem, hlt])
      refine IsK.go (by assumption) ?_
      refine aw_seqH fun Q hQ => ?_
      refine aw_cond rfl (fun hc => ?_) (fun hc => ?_)
      rotate_left; · cases hc
      refine aw_skip ?_
      (repeat (refine IsQ.go (by assumption) ?_; (try dsimp only); (try simp only [reduceCtorEq, E0])))
      refine aw_seqH fun Q hQ => ?_
      refine aw_blockH fun Q hQ => ?_
      refine aw_srH fun K hK => ?_
      (try simp only [go_sem, hx])
      refine IsK.go (by assumption) ?_
      obtain ⟨y43, h44, hF⟩ := bind_some hF
      refine aw_srH fun K hK => ?_
      (try simp only [go_sem])
      refine call_pure (history_keyOf_ok h44) rfl (by simp only [go_sem]) (by simp only [go_sem]) ?_
      (try dsimp only); (try simp only [go_sem])
      refine IsK.go (by assumption) ?_
      refine aw_seqH fun Q hQ => ?_
      refine aw_srH fun K hK => ?_
      (try simp only [go_sem])
      refine IsK.go (by assumption) ?_
      obtain ⟨b47, h48, hF⟩ := bind_some hF
      refine aw_sdJ ⟨[(1, .bp 0 0), (3, .os 2 0 l28.length), (4, .mp 1), (6, .bp 3 0), (7, .bp 4 0), (8, .p (vi ((mget T_history_key.keq y43 m27).getD 0))), (13, .p (.sl (y1.map T_history_piece.c))), (14, .p (vi (y1.length : Int))), (15, .p (vi (i3 : Int))), (38, .p (vb b47))], [(4, .cells [.p (vs y43.advisory.b), .p (vs y43.component.b)]), (3, .cells [.p (vs x6.x.Advisory.b), .p (vs x6.x.Component.b), .p (vi x6.x.Severity), .p (vi x6.from'), .p (vi x6.to')]), (2, .slice (l28.map T_api_Window.c)), (1, .map (m27.map (cM (pA T_history_key.c) pI))), (0, .cells [.p (vs v0.Product.b), .p (.sl (v0.Releases.map T_api_Release.c)), .p (.sl (v0.Known.map T_api_Published.c)), .p (vi v0.Until)])], 5⟩ (fun K hK => ?_) ?_
      · (try simp only [go_sem])
        (try simp only [go_sem])
        refine vD_split rfl ?_ ?_ <;> intro hg49 <;> (try simp only [hg49, go_sem])
        · simp only [hg49, gbS] at h48
          obtain ⟨x50, h51, h48⟩ := bind_some h48
          replace h51 := idx_map T_api_Window.c h51; (try simp only [go_sem] at h51)
          cases h48
          (try simp only [go_sem, h51])
          refine IsK.go (by assumption) ?_
          exact (Upd.sub (show 5 ≤ 5 by decide) (by simp [go_sem, envSub, Env.get] <;> ((try simp only [decide_eq_true_eq, decide_eq_false_iff_not] at hg49); omega)) (by simp [go_sem, heapSub, Heap.get, belowO] <;> ((try simp only [decide_eq_true_eq, decide_eq_false_iff_not] at hg49); omega)))
        · simp only [hg49, gbS] at h48
          cases h48
          (try simp only [go_sem, hg49])
          refine IsK.go (by assumption) ?_
          exact (Upd.sub (show 5 ≤ 5 by decide) (by simp [go_sem, envSub, Env.get] <;> ((try simp only [decide_eq_true_eq, decide_eq_false_iff_not] at hg49); omega)) (by simp [go_sem, heapSub, Heap.get, belowO] <;> ((try simp only [decide_eq_true_eq, decide_eq_false_iff_not] at hg49); omega)))
      refine aw_cond rfl (fun hc => ?_) (fun hc => ?_)
      · replace hF := if_t hc hF
        obtain ⟨x52, h53, hF⟩ := bind_some hF
        replace h53 := idx_map T_api_Window.c h53; (try simp only [go_sem] at h53)
        obtain ⟨x54, h55, hF⟩ := bind_some hF
        replace h55 := idx_map T_api_Window.c h55; (try simp only [go_sem, List.map_set] at h55)
        refine aw_sxH fun K hK => ?_
        refine vD_cut 8 fun K hK => ?_
        (try simp only [go_sem])
        refine IsK.go (by assumption) ?_
        (try simp only [go_sem, h53, h55])
        refine IsK.go (by assumption) ?_
        refine And.intro (And.intro (SoftOK.rw (by rfl) (by rfl) (soft_n (by rfl))) (And.intro (SoftOK.rw (by rfl) (by rfl) (soft_n (by rfl))) (And.intro (SoftOK.rw (by rfl) (by rfl) (soft_n (by rfl))) trivial))) ?_
        refine aw_exit ?_
        (repeat (refine IsQ.go (by assumption) ?_; (try dsimp only); (try simp only [E0])))
        refine aw_region ?_
        (try simp only [go_sem, hw4])
        (repeat (refine IsQ.go (by assumption) ?_; (try dsimp only); (try simp only [reduceCtorEq, E0])))
        cases hF
        exact ⟨_, rfl, (Upd.sub (show 3 ≤ 3 by decide) (by simp [go_sem, envSub, Env.get]) (by simp [go_sem, heapSub, Heap.get, belowO]))⟩
      · replace hF := if_f hc hF
        refine aw_skip ?_
        (repeat (refine IsQ.go (by assumption) ?_; (try dsimp only); (try simp only [reduceCtorEq, E0])))
        refine aw_srH fun K hK => ?_
        (try simp only [go_sem])
        refine IsK.go (by assumption) ?_
        obtain ⟨l56, h57, hF⟩ := bind_some hF
        obtain ⟨h57, h57v⟩ := app_some h57; (try simp only [go_sem] at h57)
        refine aw_region ?_
        refine vOps_cut 9 fun K hK => ?_
        (try simp only [go_sem])
        refine IsK.go (by assumption) ?_
        (try simp only [go_sem, h57])
        (repeat (refine IsQ.go (by assumption) ?_; (try dsimp only); (try simp only [reduceCtorEq, E0])))
        refine aw_region ?_
        (try simp only [go_sem, hw4])
        (repeat (refine IsQ.go (by assumption) ?_; (try dsimp only); (try simp only [reduceCtorEq, E0])))
        cases hF
        exact ⟨_, rfl, (Upd.sub (show 3 ≤ 3 by decide) (by simp [go_sem, envSub, Env.get, h57v]) (by simp [go_sem, heapSub, Heap.get, belowO, h57v]))⟩
  rintro l41 hF
  (try dsimp only at hF ⊢)
  (repeat (refine IsQ.go (by assumption) ?_; (try dsimp only); (try simp only [reduceCtorEq, E0])))
  refine aw_seqH fun Q hQ => ?_
  refine aw_srH fun K hK => ?_
  (try simp only [go_sem])
  refine IsK.go (by assumption) ?_
  refine aw_joinX hF (fun (l66 : (List T_api_Window)) => ⟨[(3, .os 2 0 l66.length)], [(2, .slice (l66.map T_api_Window.c))], 3⟩) ?_ ?_
  · intro y67 hF hj67 Q hQ
    refine aw_blockH fun Q hQ => ?_
    refine aw_factH 2 rfl fun hl60 => ?_; simp only [List.length_map, lim] at hl60
    refine aw_forN hF (fun i58 l63 => ⟨[(1, .bp 0 0), (3, .os 2 0 l63.length), (75, .p (vi ((l41.length : Nat) : Int))), (76, .p (vi (i58 : Int)))], [(2, .slice (l63.map T_api_Window.c)), (0, .cells [.p (vs v0.Product.b), .p (.sl (v0.Releases.map T_api_Release.c)), .p (.sl (v0.Known.map T_api_Published.c)), .p (vi v0.Until)])], 3⟩) (Upd.sub (show 3 ≤ 3 by decide) (by simp [go_sem, envSub, Env.get]) (by simp [go_sem, heapSub, Heap.get, belowO])) ?_ ?_
    · rintro l63 hy Q hQ
      (try dsimp only at hy ⊢)
      have hlt : decide ((((l41.length : Nat) : Int) : Int) < ((l41.length : Nat) : Int)) = false := by simp
      refine aw_srH fun K hK => ?_
      (try simp only [go_sem, hlt])
      refine IsK.go (by assumption) ?_
      refine aw_seqH fun Q hQ => ?_
      refine aw_cond rfl (fun hc => ?_) (fun hc => ?_)
      · cases hc
      refine aw_exit ?_
      (repeat (refine IsQ.go (by assumption) ?_; (try dsimp only); (try simp only [E0])))
      exact ⟨_, hy, (Upd.sub (show 3 ≤ 3 by decide) (by simp [go_sem, envSub, Env.get]) (by simp [go_sem, heapSub, Heap.get, belowO]))⟩
    · rintro i58 l63 z67 hi hF hb67 hr67 Q hQ
      (try dsimp only at hF ⊢)
      have hlt : decide ((i58 : Int) < ((l41.length : Nat) : Int)) = true := by simp; omega
      have hw59 : IntKind.i64.wrap ((i58 : Int) + 1) = ((i58 + 1 : Nat) : Int) := by rw [wrap64 (by omega) (by omega)]; simp
      refine aw_srH fun K hK => ?_
      (try simp only [go_sem, hlt])
      refine IsK.go (by assumption) ?_
      refine aw_seqH fun Q hQ => ?_
      refine aw_cond rfl (fun hc => ?_) (fun hc => ?_)
      rotate_left; · cases hc
      refine aw_skip ?_
      (repeat (refine IsQ.go (by assumption) ?_; (try dsimp only); (try simp only [reduceCtorEq, E0])))
      refine aw_seqH fun Q hQ => ?_
      refine aw_blockH fun Q hQ => ?_
      refine aw_srH fun K hK => ?_
      (try simp only [go_sem])
      refine IsK.go (by assumption) ?_
      obtain ⟨x68, h69, hF⟩ := bind_some hF
      replace h69 := idx_map T_api_Window.c h69; (try simp only [go_sem] at h69)
      refine aw_d ?_
      (try simp only [go_sem, h69])
      (repeat (refine IsQ.go (by assumption) ?_; (try dsimp only); (try simp only [reduceCtorEq, E0])))
      refine aw_region ?_
      (try simp only [go_sem, hw59])
      (repeat (refine IsQ.go (by assumption) ?_; (try dsimp only); (try simp only [reduceCtorEq, E0])))
      cases hF
      exact ⟨_, rfl, (Upd.sub (show 3 ≤ 3 by decide) (by simp [go_sem, envSub, Env.get]) (by simp [go_sem, heapSub, Heap.get, belowO]))⟩
  rintro l66 hF
  (try dsimp only at hF ⊢)
  (repeat (refine IsQ.go (by assumption) ?_; (try dsimp only); (try simp only [reduceCtorEq, E0])))
  obtain ⟨y70, h71, hF⟩ := bind_some hF
  refine aw_srH fun K hK => ?_
  (try simp only [go_sem])
  refine calls_frz (inL [2]) (call_pure (history_sortedBy_Window_ok (g1_f := 135) (g1_a := []) (g1_c := []) rfl (by simp only [go_sem]) (fun _ _ _ h => history_orderWindows_ok h) h71) (by simp only [go_sem]) (by simp only [go_sem]) (by simp only [go_sem]) ?_)
  (try dsimp only); (try simp only [go_sem])
  refine IsK.go (by assumption) ?_
  refine aw_ret ?_
  (repeat (refine IsQ.go (by assumption) ?_; (try dsimp only); (try simp only [reduceCtorEq, E0])))
  cases hF
  simp only [go_sem]
theorem history_Windows_ok {fuel : Nat} {v0 : T_api_Story} {r0 r1} (hF : history_Windows fuel v0 = some (r0, r1)) : APure Try.prog 39 [.p (.agg [vs v0.Product.b, .sl (v0.Releases.map T_api_Release.c), .sl (v0.Known.map T_api_Published.c), vi v0.Until])] (.tup [.p (.sl (r0.map T_api_Window.c)), .p (vi r1)]) := by
  refine apureZ 2 rc39_ok rfl ?_
  simp only [rc39, argEnv]
  unfold history_Windows at hF
  refine aw_srH fun K hK => ?_
  (try simp only [go_sem])
  refine IsK.go (by assumption) ?_
  refine aw_seqH fun Q hQ => ?_
  obtain ⟨y1, h2, hF⟩ := bind_some hF
  refine aw_srH fun K hK => ?_
  (try simp only [go_sem])
  refine call_pure (history_Check_ok h2) rfl (by simp only [go_sem]) (by simp only [go_sem]) ?_
  (try dsimp only); (try simp only [go_sem])
  refine IsK.go (by assumption) ?_
  refine aw_srH fun K hK => ?_
  (try simp only [go_sem])
  refine IsK.go (by assumption) ?_
  refine aw_cond rfl (fun hc => ?_) (fun hc => ?_)
  · replace hF := if_t hc hF
    refine aw_srH fun K hK => ?_
    (try simp only [go_sem])
    refine IsK.go (by assumption) ?_
    refine aw_ret ?_
    (repeat (refine IsQ.go (by assumption) ?_; (try dsimp only); (try simp only [reduceCtorEq, E0])))
    cases hF
    simp only [go_sem]
  · replace hF := if_f hc hF
    refine aw_skip ?_
    (repeat (refine IsQ.go (by assumption) ?_; (try dsimp only); (try simp only [reduceCtorEq, E0])))
    obtain ⟨y3, h4, hF⟩ := bind_some hF
    refine aw_srH fun K hK => ?_
    (try simp only [go_sem])
    refine call_pure (history_windows_ok h4) rfl (by simp only [go_sem]) (by simp only [go_sem]) ?_
    (try dsimp only); (try simp only [go_sem])
    refine IsK.go (by assumption) ?_
    refine aw_ret ?_
    (repeat (refine IsQ.go (by assumption) ?_; (try dsimp only); (try simp only [reduceCtorEq, E0])))
    cases hF
    simp only [go_sem]
end Go.Abs
