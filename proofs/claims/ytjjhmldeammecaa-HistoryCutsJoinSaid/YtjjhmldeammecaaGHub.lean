/- The walks of these functions against the plain ones (printed by a program of this repo). -/
import Derived.Test.YtjjhmldeammecaaGHua
namespace Go.Abs
open Go Go.Proofs
set_option maxRecDepth 8000
theorem slices_stableCmpFunc_Published_ok {fuel : Nat} {v0 : List T_api_Published} {v1 : Int} {g2_f : FuncId} {g2_a g2_c : List AV} {g2 : T_api_Published → T_api_Published → Option Int} (g2_en : enters Try.prog g2_f = true) (g2_bl : belowL 0 g2_a ∧ belowL 0 g2_c) (g2_ok : ∀ x0 x1 y0, g2 x0 x1 = some y0 → APure Try.prog g2_f (g2_a ++ [.p (.agg [vs x0.Advisory.b, vi x0.Day, vi x0.Ended]), .p (.agg [vs x1.Advisory.b, vi x1.Day, vi x1.Ended])] ++ g2_c) (.p (vi y0))) {rows} (hF : slices_stableCmpFunc_Published fuel v0 v1 g2 = some rows) : AMut Try.prog 158 [.os 0 0 v0.length, .p (vi v1), .fn (.func g2_f) g2_a g2_c] (v0.map T_api_Published.c) (.tup []) (rows.map T_api_Published.c) := by
  refine amut rc158_ok (by rfl) ?_
  simp only [rc158, argEnv, Nat.reduceAdd]
  unfold slices_stableCmpFunc_Published at hF
  obtain ⟨g2_bk1, g2_bk2⟩ := below_all g2_bl
  refine aw_srH fun K hK => ?_
  (try simp only [go_sem])
  refine IsK.go (by assumption) ?_
  refine aw_srH fun K hK => ?_
  (try simp only [go_sem])
  refine IsK.go (by assumption) ?_
  refine aw_seqH fun Q hQ => ?_
  refine aw_joinX hF (fun ((n10, l11) : Int × (List T_api_Published)) => ⟨[(0, .os 0 0 l11.length), (1, .p (vi v1)), (2, .fn (.func g2_f) g2_a g2_c), (6, .p (vi 20)), (7, .p (vi n10))], [(0, .slice (l11.map T_api_Published.c))], 1⟩) ?_ ?_
  · intro y12 hF hj12 Q hQ
    refine aw_blockH fun Q hQ => ?_
    refine aw_loopK hF (fun ((n4, n5, l6) : Int × Int × (List T_api_Published)) => ⟨[(0, .os 0 0 l6.length), (1, .p (vi v1)), (2, .fn (.func g2_f) g2_a g2_c), (6, .p (vi 20)), (7, .p (vi n4)), (8, .p (vi n5))], [(0, .slice (l6.map T_api_Published.c))], 1⟩) (Upd.sub (show 1 ≤ 1 by decide) (by simp [go_sem, envSub, Env.get, g2_bk1, g2_bk2]) (by simp [go_sem, heapSub, Heap.get, belowO])) ?_
    rintro ⟨n4, n5, l6⟩ z12 hF hb12 hr12 Q hQ
    (try dsimp only at hF ⊢)
    refine aw_seqH fun Q hQ => ?_
    refine aw_srH fun K hK => ?_
    (try simp only [go_sem])
    refine IsK.go (by assumption) ?_
    refine aw_cond rfl (fun hc => ?_) (fun hc => ?_)
    · replace hF := if_t hc hF
      refine aw_skip ?_
      (repeat (refine IsQ.go (by assumption) ?_; (try dsimp only); (try simp only [reduceCtorEq, E0])))
      refine aw_blockH fun Q hQ => ?_
      obtain ⟨l13, h14, hF⟩ := bind_some hF
      obtain ⟨⟨⟩, h15, hF⟩ := bind_some hF
      replace h15 := chk_len h15
      (try simp only [List.length_set] at h15)
      refine aw_srH fun K hK => ?_
      (try simp only [go_sem])
      refine call_own (slices_insertionSortCmpFunc_Published_ok g2_en g2_bl g2_ok h14) 0 (by simp only [go_sem]) (by simp only [go_sem]; (try rfl)) (by simp only [go_sem, g2_bk1, g2_bk2]; (try trivial)) (by simp only [go_sem]; (try trivial)) ?_
      (try dsimp only); (try simp only [go_sem])
      refine IsK.go (by assumption) ?_
      refine aw_srH fun K hK => ?_
      (try simp only [go_sem])
      refine IsK.go (by assumption) ?_
      refine aw_region ?_
      (try simp only [go_sem])
      (repeat (refine IsQ.go (by assumption) ?_; (try dsimp only); (try simp only [reduceCtorEq, E0])))
      cases hF
      exact ⟨_, rfl, (Upd.sub (show 1 ≤ 1 by decide) (by simp [go_sem, envSub, Env.get, g2_bk1, g2_bk2, h15]) (by simp [go_sem, heapSub, Heap.get, belowO]))⟩
    · replace hF := if_f hc hF
      refine aw_exit ?_
      (repeat (refine IsQ.go (by assumption) ?_; (try dsimp only); (try simp only [E0])))
      cases hF
      exact ⟨_, hb12 _ rfl, (Upd.sub (show 1 ≤ 1 by decide) (by simp [go_sem, envSub, Env.get, g2_bk1, g2_bk2]) (by simp [go_sem, heapSub, Heap.get, belowO]))⟩
  rintro ⟨n10, l11⟩ hF
  (try dsimp only at hF ⊢)
  (repeat (refine IsQ.go (by assumption) ?_; (try dsimp only); (try simp only [reduceCtorEq, E0])))
  obtain ⟨l16, h17, hF⟩ := bind_some hF
  obtain ⟨⟨⟩, h18, hF⟩ := bind_some hF
  replace h18 := chk_len h18
  (try simp only [List.length_set] at h18)
  refine aw_srH fun K hK => ?_
  (try simp only [go_sem])
  refine call_own (slices_insertionSortCmpFunc_Published_ok g2_en g2_bl g2_ok h17) 0 (by simp only [go_sem]) (by simp only [go_sem]; (try rfl)) (by simp only [go_sem, g2_bk1, g2_bk2]; (try trivial)) (by simp only [go_sem]; (try trivial)) ?_
  (try dsimp only); (try simp only [go_sem])
  refine IsK.go (by assumption) ?_
  refine aw_joinX hF (fun (l57 : (List T_api_Published)) => ⟨[], [(0, .slice (l57.map T_api_Published.c))], 1⟩) ?_ ?_
  · intro y58 hF hj58 Q hQ
    refine aw_blockH fun Q hQ => ?_
    refine aw_loopK hF (fun ((n37, l38) : Int × (List T_api_Published)) => ⟨[(0, .os 0 0 l38.length), (1, .p (vi v1)), (2, .fn (.func g2_f) g2_a g2_c), (6, .p (vi n37))], [(0, .slice (l38.map T_api_Published.c))], 1⟩) (Upd.sub (show 1 ≤ 1 by decide) (by simp [go_sem, envSub, Env.get, g2_bk1, g2_bk2, h18]) (by simp [go_sem, heapSub, Heap.get, belowO])) ?_
    rintro ⟨n37, l38⟩ z58 hF hb58 hr58 Q hQ
    (try dsimp only at hF ⊢)
    refine aw_seqH fun Q hQ => ?_
    refine aw_srH fun K hK => ?_
    (try simp only [go_sem])
    refine IsK.go (by assumption) ?_
    refine aw_cond rfl (fun hc => ?_) (fun hc => ?_)
    · replace hF := if_t hc hF
      refine aw_skip ?_
      (repeat (refine IsQ.go (by assumption) ?_; (try dsimp only); (try simp only [reduceCtorEq, E0])))
      refine aw_blockH fun Q hQ => ?_
      refine aw_srH fun K hK => ?_
      (try simp only [go_sem])
      refine IsK.go (by assumption) ?_
      refine aw_seqH fun Q hQ => ?_
      refine aw_joinX hF (fun ((n68, l69) : Int × (List T_api_Published)) => ⟨[(0, .os 0 0 l69.length), (1, .p (vi v1)), (2, .fn (.func g2_f) g2_a g2_c), (6, .p (vi n37)), (7, .p (vi n68))], [(0, .slice (l69.map T_api_Published.c))], 1⟩) ?_ ?_
      · intro y70 hF hj70 Q hQ
        refine aw_blockH fun Q hQ => ?_
        refine aw_loopK hF (fun ((n62, n63, l64) : Int × Int × (List T_api_Published)) => ⟨[(0, .os 0 0 l64.length), (1, .p (vi v1)), (2, .fn (.func g2_f) g2_a g2_c), (6, .p (vi n37)), (7, .p (vi n62)), (8, .p (vi n63))], [(0, .slice (l64.map T_api_Published.c))], 1⟩) (Upd.sub (show 1 ≤ 1 by decide) (by simp [go_sem, envSub, Env.get, g2_bk1, g2_bk2]) (by simp [go_sem, heapSub, Heap.get, belowO])) ?_
        rintro ⟨n62, n63, l64⟩ z70 hF hb70 hr70 Q hQ
        (try dsimp only at hF ⊢)
        refine aw_seqH fun Q hQ => ?_
        refine aw_srH fun K hK => ?_
        (try simp only [go_sem])
        refine IsK.go (by assumption) ?_
        refine aw_cond rfl (fun hc => ?_) (fun hc => ?_)
        · replace hF := if_t hc hF
          refine aw_skip ?_
          (repeat (refine IsQ.go (by assumption) ?_; (try dsimp only); (try simp only [reduceCtorEq, E0])))
          refine aw_blockH fun Q hQ => ?_
          obtain ⟨l71, h72, hF⟩ := bind_some hF
          obtain ⟨⟨⟩, h73, hF⟩ := bind_some hF
          replace h73 := chk_len h73
          (try simp only [List.length_set] at h73)
          refine aw_srH fun K hK => ?_
          (try simp only [go_sem])
          refine call_own (slices_symMergeCmpFunc_Published_ok g2_en g2_bl g2_ok h72) 0 (by simp only [go_sem]) (by simp only [go_sem]; (try rfl)) (by simp only [go_sem, g2_bk1, g2_bk2]; (try trivial)) (by simp only [go_sem]; (try trivial)) ?_
          (try dsimp only); (try simp only [go_sem])
          refine IsK.go (by assumption) ?_
          refine aw_srH fun K hK => ?_
          (try simp only [go_sem])
          refine IsK.go (by assumption) ?_
          refine aw_region ?_
          (try simp only [go_sem])
          (repeat (refine IsQ.go (by assumption) ?_; (try dsimp only); (try simp only [reduceCtorEq, E0])))
          cases hF
          exact ⟨_, rfl, (Upd.sub (show 1 ≤ 1 by decide) (by simp [go_sem, envSub, Env.get, g2_bk1, g2_bk2, h73]) (by simp [go_sem, heapSub, Heap.get, belowO]))⟩
        · replace hF := if_f hc hF
          refine aw_exit ?_
          (repeat (refine IsQ.go (by assumption) ?_; (try dsimp only); (try simp only [E0])))
          cases hF
          exact ⟨_, hb70 _ rfl, (Upd.sub (show 1 ≤ 1 by decide) (by simp [go_sem, envSub, Env.get, g2_bk1, g2_bk2]) (by simp [go_sem, heapSub, Heap.get, belowO]))⟩
      rintro ⟨n68, l69⟩ hF
      (try dsimp only at hF ⊢)
      (repeat (refine IsQ.go (by assumption) ?_; (try dsimp only); (try simp only [reduceCtorEq, E0])))
      refine aw_seqH fun Q hQ => ?_
      refine aw_srH fun K hK => ?_
      (try simp only [go_sem])
      refine IsK.go (by assumption) ?_
      refine aw_srH fun K hK => ?_
      (try simp only [go_sem])
      refine IsK.go (by assumption) ?_
      refine aw_cond rfl (fun hc => ?_) (fun hc => ?_)
      · replace hF := if_t hc hF
        obtain ⟨l74, h75, hF⟩ := bind_some hF
        obtain ⟨⟨⟩, h76, hF⟩ := bind_some hF
        replace h76 := chk_len h76
        (try simp only [List.length_set] at h76)
        refine aw_region ?_
        (try simp only [go_sem])
        refine call_own (slices_symMergeCmpFunc_Published_ok g2_en g2_bl g2_ok h75) 0 (by simp only [go_sem]) (by simp only [go_sem]; (try rfl)) (by simp only [go_sem, g2_bk1, g2_bk2]; (try trivial)) (by simp only [go_sem]; (try trivial)) ?_
        (try dsimp only); (try simp only [go_sem])
        (repeat (refine IsQ.go (by assumption) ?_; (try dsimp only); (try simp only [reduceCtorEq, E0])))
        refine aw_region ?_
        (try simp only [go_sem])
        (repeat (refine IsQ.go (by assumption) ?_; (try dsimp only); (try simp only [reduceCtorEq, E0])))
        cases hF
        exact ⟨_, rfl, (Upd.sub (show 1 ≤ 1 by decide) (by simp [go_sem, envSub, Env.get, g2_bk1, g2_bk2, h76]) (by simp [go_sem, heapSub, Heap.get, belowO]))⟩
      · replace hF := if_f hc hF
        refine aw_skip ?_
        (repeat (refine IsQ.go (by assumption) ?_; (try dsimp only); (try simp only [reduceCtorEq, E0])))
        refine aw_region ?_
        (try simp only [go_sem])
        (repeat (refine IsQ.go (by assumption) ?_; (try dsimp only); (try simp only [reduceCtorEq, E0])))
        cases hF
        exact ⟨_, rfl, (Upd.sub (show 1 ≤ 1 by decide) (by simp [go_sem, envSub, Env.get, g2_bk1, g2_bk2]) (by simp [go_sem, heapSub, Heap.get, belowO]))⟩
    · replace hF := if_f hc hF
      refine aw_exit ?_
      (repeat (refine IsQ.go (by assumption) ?_; (try dsimp only); (try simp only [E0])))
      cases hF
      exact ⟨_, hb58 _ rfl, (Upd.sub (show 1 ≤ 1 by decide) (by simp [go_sem, envSub]) (by simp [go_sem, heapSub, Heap.get, belowO]))⟩
  rintro l57 hF
  (try dsimp only at hF ⊢)
  (repeat (refine IsQ.go (by assumption) ?_; (try dsimp only); (try simp only [reduceCtorEq, E0])))
  cases hF
  first | (simp only [go_sem]; done) | simp only [go_sem, g2_bk1, g2_bk2, h18]
theorem slices_SortStableFunc_Published_Published_ok {fuel : Nat} {v0 : List T_api_Published} {g1_f : FuncId} {g1_a g1_c : List AV} {g1 : T_api_Published → T_api_Published → Option Int} (g1_en : enters Try.prog g1_f = true) (g1_bl : belowL 0 g1_a ∧ belowL 0 g1_c) (g1_ok : ∀ x0 x1 y0, g1 x0 x1 = some y0 → APure Try.prog g1_f (g1_a ++ [.p (.agg [vs x0.Advisory.b, vi x0.Day, vi x0.Ended]), .p (.agg [vs x1.Advisory.b, vi x1.Day, vi x1.Ended])] ++ g1_c) (.p (vi y0))) {rows} (hF : slices_SortStableFunc_Published_Published fuel v0 g1 = some rows) : AMut Try.prog 151 [.os 0 0 v0.length, .fn (.func g1_f) g1_a g1_c] (v0.map T_api_Published.c) (.tup []) (rows.map T_api_Published.c) := by
  refine amut rc151_ok (by rfl) ?_
  simp only [rc151, argEnv, Nat.reduceAdd]
  unfold slices_SortStableFunc_Published_Published at hF
  obtain ⟨g1_bk1, g1_bk2⟩ := below_all g1_bl
  obtain ⟨l1, h2, hF⟩ := bind_some hF
  obtain ⟨⟨⟩, h3, hF⟩ := bind_some hF
  replace h3 := chk_len h3
  (try simp only [List.length_set] at h3)
  refine aw_region ?_
  (try simp only [go_sem])
  refine call_own (slices_stableCmpFunc_Published_ok g1_en g1_bl g1_ok h2) 0 (by simp only [go_sem]) (by simp only [go_sem]; (try rfl)) (by simp only [go_sem, g1_bk1, g1_bk2]; (try trivial)) (by simp only [go_sem]; (try trivial)) ?_
  (try dsimp only); (try simp only [go_sem])
  (repeat (refine IsQ.go (by assumption) ?_; (try dsimp only); (try simp only [reduceCtorEq, E0])))
  cases hF
  first | (simp only [go_sem]; done) | simp only [go_sem, g1_bk1, g1_bk2, h3]
theorem history_sortedBy_Published_ok {fuel : Nat} {v0 : List T_api_Published} {g1_f : FuncId} {g1_a g1_c : List AV} {g1 : T_api_Published → T_api_Published → Option Int} (g1_en : enters Try.prog g1_f = true) (g1_bl : belowL 0 g1_a ∧ belowL 0 g1_c) (g1_ok : ∀ x0 x1 y0, g1 x0 x1 = some y0 → APure Try.prog g1_f (g1_a ++ [.p (.agg [vs x0.Advisory.b, vi x0.Day, vi x0.Ended]), .p (.agg [vs x1.Advisory.b, vi x1.Day, vi x1.Ended])] ++ g1_c) (.p (vi y0))) {r0} (hF : history_sortedBy_Published fuel v0 g1 = some r0) : APure Try.prog 136 [.p (.sl (v0.map T_api_Published.c)), .fn (.func g1_f) g1_a g1_c] (.p (.sl (r0.map T_api_Published.c))) := by
  refine apureZ 2 rc136_ok rfl ?_
  simp only [rc136, argEnv, Nat.reduceAdd]
  unfold history_sortedBy_Published at hF
  obtain ⟨g1_bk1, g1_bk2⟩ := below_all g1_bl
  refine aw_srH fun K hK => ?_
  (try simp only [go_sem])
  refine IsK.go (by assumption) ?_
  obtain ⟨l1, h2, hF⟩ := bind_some hF
  refine aw_srH fun K hK => ?_
  (try simp only [go_sem])
  refine call_new (slices_Clone_Published_Published_own  h2) rfl (by simp only [go_sem]) ?_
  (try dsimp only); (try simp only [go_sem])
  refine IsK.go (by assumption) ?_
  obtain ⟨l3, h4, hF⟩ := bind_some hF
  obtain ⟨⟨⟩, h5, hF⟩ := bind_some hF
  replace h5 := chk_len h5
  (try simp only [List.length_set] at h5)
  refine aw_srH fun K hK => ?_
  (try simp only [go_sem])
  refine call_own (slices_SortStableFunc_Published_Published_ok g1_en g1_bl g1_ok h4) 0 (by simp only [go_sem]) (by simp only [go_sem]; (try rfl)) (by simp only [go_sem, g1_bk1, g1_bk2]; (try trivial)) (by simp only [go_sem]; (try trivial)) ?_
  (try dsimp only); (try simp only [go_sem])
  refine IsK.go (by assumption) ?_
  refine aw_srH fun K hK => ?_
  (try simp only [go_sem])
  refine IsK.go (by assumption) ?_
  refine aw_ret ?_
  (repeat (refine IsQ.go (by assumption) ?_; (try dsimp only); (try simp only [reduceCtorEq, E0])))
  cases hF
  first | (simp only [go_sem]; done) | simp only [go_sem, h5]
theorem history_joinedKnown_1_ok {v0 : T_api_Published} {v1 : T_api_Published} {r0} (hF : history_joinedKnown_1 v0 v1 = some r0) : APure Try.prog 137 [.p (.agg [vs v0.Advisory.b, vi v0.Day, vi v0.Ended]), .p (.agg [vs v1.Advisory.b, vi v1.Day, vi v1.Ended])] (.p (vi r0)) := by
  refine apureZ 2 rc137_ok rfl ?_
  simp only [rc137, argEnv, Nat.reduceAdd]
  unfold history_joinedKnown_1 at hF
  refine aw_srH fun K hK => ?_
  (try simp only [go_sem])
  refine IsK.go (by assumption) ?_
  obtain ⟨y1, h2, hF⟩ := bind_some hF
  refine aw_srH fun K hK => ?_
  (try simp only [go_sem])
  refine call_pure (cmp_Compare_string_ok h2) rfl (by simp only [go_sem]) (by simp only [go_sem]) ?_
  (try dsimp only); (try simp only [go_sem])
  refine IsK.go (by assumption) ?_
  refine aw_ret ?_
  (repeat (refine IsQ.go (by assumption) ?_; (try dsimp only); (try simp only [reduceCtorEq, E0])))
  cases hF
  simp only [go_sem]
theorem history_joinedKnown_ok {fuel : Nat} {v0 : List T_api_Published} {v1 : List T_api_Published} {r0 r1} (hF : history_joinedKnown fuel v0 v1 = some (r0, r1)) : APure Try.prog 103 [.p (.sl (v0.map T_api_Published.c)), .p (.sl (v1.map T_api_Published.c))] (.tup [.p (.sl (r0.map T_api_Published.c)), .p (vb r1)]) := by
  refine apureZ 2 rc103_ok rfl ?_
  simp only [rc103, argEnv, Nat.reduceAdd]
  unfold history_joinedKnown at hF
  refine aw_srH fun K hK => ?_
  (try simp only [go_sem])
  refine IsK.go (by assumption) ?_
  refine aw_srH fun K hK => ?_
  (try simp only [go_sem])
  refine IsK.go (by assumption) ?_
  obtain ⟨l1, h2, hF⟩ := bind_some hF
  refine aw_srH fun K hK => ?_
  (try simp only [go_sem])
  refine call_new (slices_Clone_Published_Published_own  h2) rfl (by simp only [go_sem]) ?_
  (try dsimp only); (try simp only [go_sem])
  refine IsK.go (by assumption) ?_
  refine aw_seqH fun Q hQ => ?_
  refine aw_srH fun K hK => ?_
  (try simp only [go_sem])
  refine IsK.go (by assumption) ?_
  refine aw_joinX hF (fun (m8 : (List (Str × T_api_Published))) => ⟨[(1, .p (.sl (v1.map T_api_Published.c))), (6, .mp 0), (7, .os 1 0 l1.length)], [(1, .slice (l1.map T_api_Published.c)), (0, .map (m8.map (cM kS (pA T_api_Published.c))))], 2⟩) ?_ ?_
  · intro y9 hF hj9 Q hQ
    refine aw_blockH fun Q hQ => ?_
    refine aw_fact 17 rfl (fun _ _ => sl_lim) fun hl5 => ?_; simp only [List.length_map, top] at hl5
    refine aw_forL hF (fun i3 m7 => ⟨[(1, .p (.sl (v1.map T_api_Published.c))), (6, .mp 0), (7, .os 1 0 l1.length), (17, .p (.sl (v0.map T_api_Published.c))), (18, .p (vi (v0.length : Int))), (19, .p (vi (i3 : Int)))], [(1, .slice (l1.map T_api_Published.c)), (0, .map (m7.map (cM kS (pA T_api_Published.c))))], 2⟩) (Upd.sub (show 2 ≤ 2 by decide) (by simp [go_sem, envSub, Env.get]) (by simp [go_sem, heapSub, Heap.get, belowO])) ?_ ?_
    · rintro m7 hy Q hQ
      (try dsimp only at hy ⊢)
      have hlt : decide (((v0.length : Int) : Int) < (v0.length : Int)) = false := by simp
      refine aw_srH fun K hK => ?_
      (try simp only [go_sem, hlt])
      refine IsK.go (by assumption) ?_
      refine aw_seqH fun Q hQ => ?_
      refine aw_cond rfl (fun hc => ?_) (fun hc => ?_)
      · cases hc
      refine aw_exit ?_
      (repeat (refine IsQ.go (by assumption) ?_; (try dsimp only); (try simp only [E0])))
      exact ⟨_, hy, (Upd.sub (show 2 ≤ 2 by decide) (by simp [go_sem, envSub, Env.get]) (by simp [go_sem, heapSub, Heap.get, belowO]))⟩
    · rintro i3 x6 m7 z9 hi hx hF hb9 hr9 Q hQ
      (try dsimp only at hF ⊢)
      have hlt : decide ((i3 : Int) < (v0.length : Int)) = true := by simp; omega
      have hw4 : IntKind.i64.wrap ((i3 : Int) + 1) = ((i3 + 1 : Nat) : Int) := by rw [wrap64 (by omega) (by omega)]; simp
      refine aw_srH fun K hK => ?_
      (try simp only [go_sem, hlt])
      refine IsK.go (by assumption) ?_
      refine aw_seqH fun Q hQ => ?_
      refine aw_cond rfl (fun hc => ?_) (fun hc => ?_)
      rotate_left; · cases hc
      refine aw_skip ?_
      (repeat (refine IsQ.go (by assumption) ?_; (try dsimp only); (try simp only [reduceCtorEq, E0])))
      refine aw_seqH fun Q hQ => ?_
      refine aw_blockH fun Q hQ => ?_
      refine aw_srH fun K hK => ?_
      (try simp only [go_sem, hx])
      refine IsK.go (by assumption) ?_
      refine aw_region ?_
      (try simp only [go_sem])
      (repeat (refine IsQ.go (by assumption) ?_; (try dsimp only); (try simp only [reduceCtorEq, E0])))
      refine aw_region ?_
      (try simp only [go_sem, hw4])
      (repeat (refine IsQ.go (by assumption) ?_; (try dsimp only); (try simp only [reduceCtorEq, E0])))
      cases hF
      exact ⟨_, rfl, (Upd.sub (show 2 ≤ 2 by decide) (by simp [go_sem, envSub, Env.get]) (by simp [go_sem, heapSub, Heap.get, belowO]))⟩
  rintro m8 hF
  (try dsimp only at hF ⊢)
  (repeat (refine IsQ.go (by assumption) ?_; (try dsimp only); (try simp only [reduceCtorEq, E0])))
  refine aw_seqH fun Q hQ => ?_
  refine aw_srH fun K hK => ?_
  (try simp only [go_sem])
  refine IsK.go (by assumption) ?_
  refine aw_joinX hF (fun (l19 : (List T_api_Published)) => ⟨[(7, .os 1 0 l19.length)], [(1, .slice (l19.map T_api_Published.c))], 2⟩) ?_ ?_
  · intro y20 hF hj20 Q hQ
    refine aw_blockH fun Q hQ => ?_
    refine aw_fact 28 rfl (fun _ _ => sl_lim) fun hl12 => ?_; simp only [List.length_map, top] at hl12
    refine aw_forL hF (fun i10 l16 => ⟨[(6, .mp 0), (7, .os 1 0 l16.length), (28, .p (.sl (v1.map T_api_Published.c))), (29, .p (vi (v1.length : Int))), (30, .p (vi (i10 : Int)))], [(1, .slice (l16.map T_api_Published.c)), (0, .map (m8.map (cM kS (pA T_api_Published.c))))], 2⟩) (Upd.sub (show 2 ≤ 2 by decide) (by simp [go_sem, envSub, Env.get]) (by simp [go_sem, heapSub, Heap.get, belowO])) ?_ ?_
    · rintro l16 hy Q hQ
      (try dsimp only at hy ⊢)
      have hlt : decide (((v1.length : Int) : Int) < (v1.length : Int)) = false := by simp
      refine aw_srH fun K hK => ?_
      (try simp only [go_sem, hlt])
      refine IsK.go (by assumption) ?_
      refine aw_seqH fun Q hQ => ?_
      refine aw_cond rfl (fun hc => ?_) (fun hc => ?_)
      · cases hc
      refine aw_exit ?_
      (repeat (refine IsQ.go (by assumption) ?_; (try dsimp only); (try simp only [E0])))
      exact ⟨_, hy, (Upd.sub (show 2 ≤ 2 by decide) (by simp [go_sem, envSub, Env.get]) (by simp [go_sem, heapSub, Heap.get, belowO]))⟩
    · rintro i10 x13 l16 z20 hi hx hF hb20 hr20 Q hQ
      (try dsimp only at hF ⊢)
      have hlt : decide ((i10 : Int) < (v1.length : Int)) = true := by simp; omega
      have hw11 : IntKind.i64.wrap ((i10 : Int) + 1) = ((i10 + 1 : Nat) : Int) := by rw [wrap64 (by omega) (by omega)]; simp
      refine aw_srH fun K hK => ?_
      (try simp only [go_sem, hlt])
      refine IsK.go (by assumption) ?_
      refine aw_seqH fun Q hQ => ?_
      refine aw_cond rfl (fun hc => ?_) (fun hc => ?_)
      rotate_left; · cases hc
      refine aw_skip ?_
      (repeat (refine IsQ.go (by assumption) ?_; (try dsimp only); (try simp only [reduceCtorEq, E0])))
      refine aw_seqH fun Q hQ => ?_
      refine aw_blockH fun Q hQ => ?_
      refine aw_srH fun K hK => ?_
      (try simp only [go_sem, hx])
      refine IsK.go (by assumption) ?_
      refine aw_srH fun K hK => ?_
      (try simp only [go_sem])
      refine IsK.go (by assumption) ?_
      refine aw_seqH fun Q hQ => ?_
      refine aw_srJ ⟨[(6, .mp 0), (7, .os 1 0 l16.length), (11, .bp 2 0), (13, .p (vb ((mget kEqS x13.Advisory m8).isSome))), (28, .p (.sl (v1.map T_api_Published.c))), (29, .p (vi (v1.length : Int))), (30, .p (vi (i10 : Int))), (46, .p (vb (((mget kEqS x13.Advisory m8).isSome) && (!(sEq (((mget kEqS x13.Advisory m8).getD (T_api_Published.mk str_ 0 0)).Advisory).b x13.Advisory.b && (((((mget kEqS x13.Advisory m8).getD (T_api_Published.mk str_ 0 0)).Day) == x13.Day) && ((((mget kEqS x13.Advisory m8).getD (T_api_Published.mk str_ 0 0)).Ended) == x13.Ended)))))))], [(2, .cells [.p (vs x13.Advisory.b), .p (vi x13.Day), .p (vi x13.Ended)]), (1, .slice (l16.map T_api_Published.c)), (0, .map (m8.map (cM kS (pA T_api_Published.c))))], 4⟩ (fun K hK => ?_) ?_
      · (try simp only [go_sem])
        (try simp only [go_sem])
        refine vOps_split rfl ?_ ?_ <;> intro hg21 <;> (try simp only [hg21, go_sem])
        · (try simp only [go_sem, hg21])
          refine IsK.go (by assumption) ?_
          exact (Upd.sub (show 4 ≤ 4 by decide) (by simp [go_sem, envSub, Env.get, hg21] <;> ((try simp only [decide_eq_true_eq, decide_eq_false_iff_not, hw11, List.length_append] at hg21); omega)) (by simp [go_sem, heapSub, Heap.get, belowO] <;> ((try simp only [decide_eq_true_eq, decide_eq_false_iff_not, hw11, List.length_append] at hg21); omega)))
        · (try simp only [go_sem, hg21])
          refine IsK.go (by assumption) ?_
          exact (Upd.sub (show 4 ≤ 4 by decide) (by simp [go_sem, envSub, Env.get, hg21] <;> ((try simp only [decide_eq_true_eq, decide_eq_false_iff_not, hw11, List.length_append] at hg21); omega)) (by simp [go_sem, heapSub, Heap.get, belowO] <;> ((try simp only [decide_eq_true_eq, decide_eq_false_iff_not, hw11, List.length_append] at hg21); omega)))
      refine aw_cond rfl (fun hc => ?_) (fun hc => ?_)
      · replace hF := if_t hc hF
        refine aw_srH fun K hK => ?_
        (try simp only [go_sem])
        refine IsK.go (by assumption) ?_
        refine aw_ret ?_
        (repeat (refine IsQ.go (by assumption) ?_; (try dsimp only); (try simp only [reduceCtorEq, E0])))
        cases hF
        cases (hj20 _ (hr20 _ rfl))
        first | (simp only [go_sem]; done) | simp only [go_sem, hw11]
      · replace hF := if_f hc hF
        refine aw_skip ?_
        (repeat (refine IsQ.go (by assumption) ?_; (try dsimp only); (try simp only [reduceCtorEq, E0])))
        refine aw_srH fun K hK => ?_
        (try simp only [go_sem])
        refine IsK.go (by assumption) ?_
        refine aw_cond rfl (fun hc => ?_) (fun hc => ?_)
        · replace hF := if_t hc hF
          obtain ⟨l22, h23, hF⟩ := bind_some hF
          obtain ⟨h23, h23v⟩ := app_some h23; (try simp only [go_sem] at h23)
          refine aw_region ?_
          (try simp only [go_sem, h23])
          (repeat (refine IsQ.go (by assumption) ?_; (try dsimp only); (try simp only [reduceCtorEq, E0])))
          refine aw_region ?_
          (try simp only [go_sem, hw11])
          (repeat (refine IsQ.go (by assumption) ?_; (try dsimp only); (try simp only [reduceCtorEq, E0])))
          cases hF
          exact ⟨_, rfl, (Upd.sub (show 2 ≤ 2 by decide) (by simp [go_sem, envSub, Env.get, h23v]) (by simp [go_sem, heapSub, Heap.get, belowO, h23v]))⟩
        · replace hF := if_f hc hF
          refine aw_skip ?_
          (repeat (refine IsQ.go (by assumption) ?_; (try dsimp only); (try simp only [reduceCtorEq, E0])))
          refine aw_region ?_
          (try simp only [go_sem, hw11])
          (repeat (refine IsQ.go (by assumption) ?_; (try dsimp only); (try simp only [reduceCtorEq, E0])))
          cases hF
          exact ⟨_, rfl, (Upd.sub (show 2 ≤ 2 by decide) (by simp [go_sem, envSub, Env.get]) (by simp [go_sem, heapSub, Heap.get, belowO]))⟩
  rintro l19 hF
  (try dsimp only at hF ⊢)
  (repeat (refine IsQ.go (by assumption) ?_; (try dsimp only); (try simp only [reduceCtorEq, E0])))
  obtain ⟨y24, h25, hF⟩ := bind_some hF
  refine aw_srH fun K hK => ?_
  (try simp only [go_sem])
  refine calls_frz (inL [1]) (call_pure (history_sortedBy_Published_ok (g1_f := 137) (g1_a := []) (g1_c := []) rfl (by simp only [go_sem]) (fun _ _ _ h => history_joinedKnown_1_ok h) h25) (by simp only [go_sem]) (by simp only [go_sem]) (by simp only [go_sem]) ?_)
  (try dsimp only); (try simp only [go_sem])
  refine IsK.go (by assumption) ?_
  refine aw_ret ?_
  (repeat (refine IsQ.go (by assumption) ?_; (try dsimp only); (try simp only [reduceCtorEq, E0])))
  cases hF
  simp only [go_sem]
theorem history_Join_1_ok {v0 : T_api_Release} {v1 : T_api_Release} {r0} (hF : history_Join_1 v0 v1 = some r0) : APure Try.prog 105 [.p (.agg [vs v0.Version.b, vi v0.Day, .sl (v0.Exposures.map T_api_Exposure.c)]), .p (.ptr [vs v1.Version.b, vi v1.Day, .sl (v1.Exposures.map T_api_Exposure.c)])] (.p (vb r0)) := by
  refine apureZ 2 rc105_ok rfl ?_
  simp only [rc105, argEnv, Nat.reduceAdd]
  unfold history_Join_1 at hF
  refine aw_srH fun K hK => ?_
  (try simp only [go_sem])
  refine IsK.go (by assumption) ?_
  refine aw_srH fun K hK => ?_
  (try simp only [go_sem])
  refine IsK.go (by assumption) ?_
  refine aw_ret ?_
  (repeat (refine IsQ.go (by assumption) ?_; (try dsimp only); (try simp only [reduceCtorEq, E0])))
  cases hF
  simp only [go_sem]
theorem slices_IndexFunc_Release_Release_ok {v0 : List T_api_Release} {g1_f : FuncId} {g1_a g1_c : List AV} {g1 : T_api_Release → Option Bool} (g1_en : enters Try.prog g1_f = true) (g1_bl : belowL 0 g1_a ∧ belowL 0 g1_c) (g1_ok : ∀ x0 y0, g1 x0 = some y0 → APure Try.prog g1_f (g1_a ++ [.p (.agg [vs x0.Version.b, vi x0.Day, .sl (x0.Exposures.map T_api_Exposure.c)])] ++ g1_c) (.p (vb y0))) {r0} (hF : slices_IndexFunc_Release_Release v0 g1 = some r0) : APure Try.prog 139 [.p (.sl (v0.map T_api_Release.c)), .fn (.func g1_f) g1_a g1_c] (.p (vi r0)) := by
  refine apureZ 2 rc139_ok rfl ?_
  simp only [rc139, argEnv, Nat.reduceAdd]
  unfold slices_IndexFunc_Release_Release at hF
  obtain ⟨g1_bk1, g1_bk2⟩ := below_all g1_bl
  refine aw_srH fun K hK => ?_
  (try simp only [go_sem])
  refine IsK.go (by assumption) ?_
  refine aw_seqH fun Q hQ => ?_
  refine aw_srH fun K hK => ?_
  (try simp only [go_sem])
  refine IsK.go (by assumption) ?_
  refine aw_joinX hF (fun (_ : Unit) => ⟨[], [], 0⟩) ?_ ?_
  · intro y7 hF hj7 Q hQ
    refine aw_blockH fun Q hQ => ?_
    refine aw_fact 0 rfl (fun _ _ => sl_lim) fun hl3 => ?_; simp only [List.length_map, top] at hl3
    refine aw_forL hF (fun i1 _ => ⟨[(0, .p (.sl (v0.map T_api_Release.c))), (1, .fn (.func g1_f) g1_a g1_c), (7, .p (vi (v0.length : Int))), (8, .p (vi (i1 : Int)))], [], 0⟩) (Upd.sub (show 0 ≤ 0 by decide) (by simp [go_sem, envSub, Env.get, g1_bk1, g1_bk2]) trivial) ?_ ?_
    · rintro ⟨⟩ hy Q hQ
      (try dsimp only at hy ⊢)
      have hlt : decide (((v0.length : Int) : Int) < (v0.length : Int)) = false := by simp
      refine aw_srH fun K hK => ?_
      (try simp only [go_sem, hlt])
      refine IsK.go (by assumption) ?_
      refine aw_seqH fun Q hQ => ?_
      refine aw_cond rfl (fun hc => ?_) (fun hc => ?_)
      · cases hc
      refine aw_exit ?_
      (repeat (refine IsQ.go (by assumption) ?_; (try dsimp only); (try simp only [E0])))
      exact ⟨_, hy, (Upd.sub (show 0 ≤ 0 by decide) (by simp [go_sem, envSub]) trivial)⟩
    · rintro i1 x4 ⟨⟩ z7 hi hx hF hb7 hr7 Q hQ
      (try dsimp only at hF ⊢)
      have hlt : decide ((i1 : Int) < (v0.length : Int)) = true := by simp; omega
      have hw2 : IntKind.i64.wrap ((i1 : Int) + 1) = ((i1 + 1 : Nat) : Int) := by rw [wrap64 (by omega) (by omega)]; simp
      refine aw_srH fun K hK => ?_
      (try simp only [go_sem, hlt])
      refine IsK.go (by assumption) ?_
      refine aw_seqH fun Q hQ => ?_
      refine aw_cond rfl (fun hc => ?_) (fun hc => ?_)
      rotate_left; · cases hc
      refine aw_skip ?_
      (repeat (refine IsQ.go (by assumption) ?_; (try dsimp only); (try simp only [reduceCtorEq, E0])))
      refine aw_seqH fun Q hQ => ?_
      refine aw_blockH fun Q hQ => ?_
      refine aw_srH fun K hK => ?_
      (try simp only [go_sem])
      refine IsK.go (by assumption) ?_
      obtain ⟨y8, h9, hF⟩ := bind_some hF
      refine aw_srH fun K hK => ?_
      (try simp only [go_sem, hx])
      refine ⟨g1_en, ?_⟩
      refine call_pure (g1_ok _ _ h9) rfl (by simp only [go_sem, g1_bk1, g1_bk2]) (by simp only [go_sem]) ?_
      (try dsimp only); (try simp only [go_sem, hx])
      refine IsK.go (by assumption) ?_
      refine aw_cond rfl (fun hc => ?_) (fun hc => ?_)
      · replace hF := if_t hc hF
        refine aw_srH fun K hK => ?_
        (try simp only [go_sem])
        refine IsK.go (by assumption) ?_
        refine aw_ret ?_
        (repeat (refine IsQ.go (by assumption) ?_; (try dsimp only); (try simp only [reduceCtorEq, E0])))
        cases hF
        cases (hj7 _ (hr7 _ rfl))
        first | (simp only [go_sem]; done) | simp only [go_sem, g1_bk1, g1_bk2, hw2]
      · replace hF := if_f hc hF
        refine aw_skip ?_
        (repeat (refine IsQ.go (by assumption) ?_; (try dsimp only); (try simp only [reduceCtorEq, E0])))
        refine aw_region ?_
        (try simp only [go_sem, hw2])
        (repeat (refine IsQ.go (by assumption) ?_; (try dsimp only); (try simp only [reduceCtorEq, E0])))
        cases hF
        exact ⟨_, rfl, (Upd.sub (show 0 ≤ 0 by decide) (by simp [go_sem, envSub, Env.get, g1_bk1, g1_bk2]) trivial)⟩
  rintro ⟨⟩ hF
  (try dsimp only at hF ⊢)
  (repeat (refine IsQ.go (by assumption) ?_; (try dsimp only); (try simp only [reduceCtorEq, E0])))
  refine aw_srH fun K hK => ?_
  (try simp only [go_sem])
  refine IsK.go (by assumption) ?_
  refine aw_ret ?_
  (repeat (refine IsQ.go (by assumption) ?_; (try dsimp only); (try simp only [reduceCtorEq, E0])))
  cases hF
  first | (simp only [go_sem]; done) | simp only [go_sem, g1_bk1, g1_bk2]
theorem slices_ContainsFunc_Release_Release_ok {v0 : List T_api_Release} {g1_f : FuncId} {g1_a g1_c : List AV} {g1 : T_api_Release → Option Bool} (g1_en : enters Try.prog g1_f = true) (g1_bl : belowL 0 g1_a ∧ belowL 0 g1_c) (g1_ok : ∀ x0 y0, g1 x0 = some y0 → APure Try.prog g1_f (g1_a ++ [.p (.agg [vs x0.Version.b, vi x0.Day, .sl (x0.Exposures.map T_api_Exposure.c)])] ++ g1_c) (.p (vb y0))) {r0} (hF : slices_ContainsFunc_Release_Release v0 g1 = some r0) : APure Try.prog 104 [.p (.sl (v0.map T_api_Release.c)), .fn (.func g1_f) g1_a g1_c] (.p (vb r0)) := by
  refine apureZ 2 rc104_ok rfl ?_
  simp only [rc104, argEnv, Nat.reduceAdd]
  unfold slices_ContainsFunc_Release_Release at hF
  obtain ⟨g1_bk1, g1_bk2⟩ := below_all g1_bl
  refine aw_srH fun K hK => ?_
  (try simp only [go_sem])
  refine IsK.go (by assumption) ?_
  obtain ⟨y1, h2, hF⟩ := bind_some hF
  refine aw_srH fun K hK => ?_
  (try simp only [go_sem])
  refine call_pure (slices_IndexFunc_Release_Release_ok g1_en g1_bl g1_ok h2) rfl (by simp only [go_sem, g1_bk1, g1_bk2]) (by simp only [go_sem]) ?_
  (try dsimp only); (try simp only [go_sem])
  refine IsK.go (by assumption) ?_
  refine aw_ret ?_
  (repeat (refine IsQ.go (by assumption) ?_; (try dsimp only); (try simp only [reduceCtorEq, E0])))
  cases hF
  first | (simp only [go_sem]; done) | simp only [go_sem, g1_bk1, g1_bk2]
theorem history_Join_ok {fuel : Nat} {v0 : T_api_Story} {v1 : T_api_Story} {r0 r1} (hF : history_Join fuel v0 v1 = some (r0, r1)) : APure Try.prog 48 [.p (.agg [vs v0.Product.b, .sl (v0.Releases.map T_api_Release.c), .sl (v0.Known.map T_api_Published.c), vi v0.Until]), .p (.agg [vs v1.Product.b, .sl (v1.Releases.map T_api_Release.c), .sl (v1.Known.map T_api_Published.c), vi v1.Until])] (.tup [.p (.agg [vs r0.Product.b, .sl (r0.Releases.map T_api_Release.c), .sl (r0.Known.map T_api_Published.c), vi r0.Until]), .p (vi r1)]) := by
  refine apureZ 2 rc48_ok rfl ?_
  simp only [rc48, argEnv, Nat.reduceAdd]
  unfold history_Join at hF
  refine aw_srH fun K hK => ?_
  (try simp only [go_sem])
  refine IsK.go (by assumption) ?_
  refine aw_seqH fun Q hQ => ?_
  obtain ⟨y1, h2, hF⟩ := bind_some hF
  refine aw_srH fun K hK => ?_
  (try simp only [go_sem])
  refine call_pure (history_Check_ok h2) rfl (by simp only [go_sem]) (by simp only [go_sem]) ?_
  (try dsimp only); (try simp only [go_sem])
  refine IsK.go (by assumption) ?_
  refine aw_srH fun K hK => ?_
  (try simp only [go_sem])
  refine IsK.go (by assumption) ?_
  refine aw_cond rfl (fun hc => ?_) (fun hc => ?_)
  · replace hF := if_t hc hF
    refine aw_srH fun K hK => ?_
    (try simp only [go_sem])
    refine IsK.go (by assumption) ?_
    refine aw_ret ?_
    (repeat (refine IsQ.go (by assumption) ?_; (try dsimp only); (try simp only [reduceCtorEq, E0])))
    cases hF
    simp only [go_sem]
  · replace hF := if_f hc hF
    refine aw_skip ?_
    (repeat (refine IsQ.go (by assumption) ?_; (try dsimp only); (try simp only [reduceCtorEq, E0])))
    refine aw_seqH fun Q hQ => ?_
    obtain ⟨y3, h4, hF⟩ := bind_some hF
    refine aw_srH fun K hK => ?_
    (try simp only [go_sem])
    refine call_pure (history_Check_ok h4) rfl (by simp only [go_sem]) (by simp only [go_sem]) ?_
    (try dsimp only); (try simp only [go_sem])
    refine IsK.go (by assumption) ?_
    refine aw_srH fun K hK => ?_
    (try simp only [go_sem])
    refine IsK.go (by assumption) ?_
    refine aw_cond rfl (fun hc => ?_) (fun hc => ?_)
    · replace hF := if_t hc hF
      refine aw_srH fun K hK => ?_
      (try simp only [go_sem])
      refine IsK.go (by assumption) ?_
      refine aw_ret ?_
      (repeat (refine IsQ.go (by assumption) ?_; (try dsimp only); (try simp only [reduceCtorEq, E0])))
      cases hF
      simp only [go_sem]
    · replace hF := if_f hc hF
      refine aw_skip ?_
      (repeat (refine IsQ.go (by assumption) ?_; (try dsimp only); (try simp only [reduceCtorEq, E0])))
      refine aw_seqH fun Q hQ => ?_
      refine aw_blockH fun Q hQ => ?_
      refine aw_srH fun K hK => ?_
      (try simp only [go_sem])
      refine IsK.go (by assumption) ?_
      refine aw_cond rfl (fun hc => ?_) (fun hc => ?_)
      · replace hF := if_t hc hF
        refine aw_srH fun K hK => ?_
        (try simp only [go_sem])
        refine IsK.go (by assumption) ?_
        refine aw_ret ?_
        (repeat (refine IsQ.go (by assumption) ?_; (try dsimp only); (try simp only [reduceCtorEq, E0])))
        cases hF
        simp only [go_sem]
      · replace hF := if_f hc hF
        refine aw_srJ ⟨[(2, .bp 0 0), (3, .bp 1 0), (4, .bp 2 0), (35, .p (vb ((decide ((v1.Releases.length : Int) > 0)) && (decide (v1.Until < v0.Until)))))], [(2, .cells [.p (vs str_.b), .p (.c (.slice none 0 0)), .p (.c (.slice none 0 0)), .p (vi 0)]), (1, .cells [.p (vs v1.Product.b), .p (.sl (v1.Releases.map T_api_Release.c)), .p (.sl (v1.Known.map T_api_Published.c)), .p (vi v1.Until)]), (0, .cells [.p (vs v0.Product.b), .p (.sl (v0.Releases.map T_api_Release.c)), .p (.sl (v0.Known.map T_api_Published.c)), .p (vi v0.Until)])], 3⟩ (fun K hK => ?_) ?_
        · (try simp only [go_sem])
          (try simp only [go_sem])
          refine vOps_split rfl ?_ ?_ <;> intro hg5 <;> (try simp only [hg5, go_sem])
          · (try simp only [go_sem, hg5])
            refine IsK.go (by assumption) ?_
            exact (Upd.sub (show 3 ≤ 3 by decide) (by simp [go_sem, envSub, Env.get] <;> ((try simp only [decide_eq_true_eq] at hg5); omega)) (by simp [go_sem, heapSub, Heap.get, belowO] <;> ((try simp only [decide_eq_true_eq, decide_eq_false_iff_not] at hg5); omega)))
          · (try simp only [go_sem, hg5])
            refine IsK.go (by assumption) ?_
            exact (Upd.sub (show 3 ≤ 3 by decide) (by simp [go_sem, envSub, Env.get] <;> ((try simp only [decide_eq_false_iff_not] at hg5); omega)) (by simp [go_sem, heapSub, Heap.get, belowO] <;> ((try simp only [decide_eq_true_eq, decide_eq_false_iff_not] at hg5); omega)))
        refine aw_cond rfl (fun hc => ?_) (fun hc => ?_)
        · replace hF := if_t hc hF
          refine aw_srH fun K hK => ?_
          (try simp only [go_sem])
          refine IsK.go (by assumption) ?_
          refine aw_ret ?_
          (repeat (refine IsQ.go (by assumption) ?_; (try dsimp only); (try simp only [reduceCtorEq, E0])))
          cases hF
          simp only [go_sem]
        · replace hF := if_f hc hF
          refine aw_skip ?_
          (repeat (refine IsQ.go (by assumption) ?_; (try dsimp only); (try simp only [reduceCtorEq, E0])))
          obtain ⟨⟨y6, y7⟩, h8, hF⟩ := bind_some hF
          (try dsimp only at hF)
          refine aw_srH fun K hK => ?_
          (try simp only [go_sem])
          refine call_pure (history_joinedKnown_ok h8) rfl (by simp only [go_sem]) (by simp only [go_sem]) ?_
          (try dsimp only); (try simp only [go_sem])
          refine IsK.go (by assumption) ?_
          refine aw_seqH fun Q hQ => ?_
          refine aw_srH fun K hK => ?_
          (try simp only [go_sem])
          refine IsK.go (by assumption) ?_
          refine aw_cond rfl (fun hc => ?_) (fun hc => ?_)
          · replace hF := if_t hc hF
            refine aw_srH fun K hK => ?_
            (try simp only [go_sem])
            refine IsK.go (by assumption) ?_
            refine aw_ret ?_
            (repeat (refine IsQ.go (by assumption) ?_; (try dsimp only); (try simp only [reduceCtorEq, E0])))
            cases hF
            simp only [go_sem]
          · replace hF := if_f hc hF
            refine aw_skip ?_
            (repeat (refine IsQ.go (by assumption) ?_; (try dsimp only); (try simp only [reduceCtorEq, E0])))
            refine aw_srH fun K hK => ?_
            (try simp only [go_sem])
            refine IsK.go (by assumption) ?_
            refine aw_seqH fun Q hQ => ?_
            refine aw_srH fun K hK => ?_
            (try simp only [go_sem])
            refine IsK.go (by assumption) ?_
            refine aw_upd (Upd.ownCell _ 3 1 (by simp only [go_sem]; rfl) rfl) ?_; simp only [go_sem]
            refine aw_joinX hF (fun (l38 : (List T_api_Release)) => ⟨[(3, .bp 1 0), (4, .bp 2 0), (10, .bp 3 0)], [(4, .slice (l38.map T_api_Release.c)), (3, .cells [.p (vs v0.Product.b), .os 4 0 l38.length, .p (.sl (y6.map T_api_Published.c)), .p (vi v1.Until)]), (2, .cells [.p (vs str_.b), .p (.c (.slice none 0 0)), .p (.c (.slice none 0 0)), .p (vi 0)]), (1, .cells [.p (vs v1.Product.b), .p (.sl (v1.Releases.map T_api_Release.c)), .p (.sl (v1.Known.map T_api_Published.c)), .p (vi v1.Until)])], 5⟩) ?_ ?_
            · intro y39 hF hj39 Q hQ
              refine aw_blockH fun Q hQ => ?_
              refine aw_fact 66 rfl (fun _ _ => sl_lim) fun hl11 => ?_; simp only [List.length_map, top] at hl11
              refine aw_forL hF (fun i9 l29 => ⟨[(3, .bp 1 0), (4, .bp 2 0), (10, .bp 3 0), (66, .p (.sl (v0.Releases.map T_api_Release.c))), (67, .p (vi (v0.Releases.length : Int))), (68, .p (vi (i9 : Int)))], [(4, .slice (l29.map T_api_Release.c)), (3, .cells [.p (vs v0.Product.b), .os 4 0 l29.length, .p (.sl (y6.map T_api_Published.c)), .p (vi v1.Until)]), (2, .cells [.p (vs str_.b), .p (.c (.slice none 0 0)), .p (.c (.slice none 0 0)), .p (vi 0)]), (1, .cells [.p (vs v1.Product.b), .p (.sl (v1.Releases.map T_api_Release.c)), .p (.sl (v1.Known.map T_api_Published.c)), .p (vi v1.Until)])], 5⟩) (Upd.sub (show 5 ≤ 5 by decide) (by simp [go_sem, envSub, Env.get]) (by simp [go_sem, heapSub, Heap.get, belowO])) ?_ ?_
              · rintro l29 hy Q hQ
                (try dsimp only at hy ⊢)
                have hlt : decide (((v0.Releases.length : Int) : Int) < (v0.Releases.length : Int)) = false := by simp
                refine aw_srH fun K hK => ?_
                (try simp only [go_sem, hlt])
                refine IsK.go (by assumption) ?_
                refine aw_seqH fun Q hQ => ?_
                refine aw_cond rfl (fun hc => ?_) (fun hc => ?_)
                · cases hc
                refine aw_exit ?_
                (repeat (refine IsQ.go (by assumption) ?_; (try dsimp only); (try simp only [E0])))
                exact ⟨_, hy, (Upd.sub (show 5 ≤ 5 by decide) (by simp [go_sem, envSub, Env.get]) (by simp [go_sem, heapSub, Heap.get, belowO]))⟩
              · rintro i9 x12 l29 z39 hi hx hF hb39 hr39 Q hQ
                (try dsimp only at hF ⊢)
                have hlt : decide ((i9 : Int) < (v0.Releases.length : Int)) = true := by simp; omega
                have hw10 : IntKind.i64.wrap ((i9 : Int) + 1) = ((i9 + 1 : Nat) : Int) := by rw [wrap64 (by omega) (by omega)]; simp
                refine aw_srH fun K hK => ?_
                (try simp only [go_sem, hlt])
                refine IsK.go (by assumption) ?_
                refine aw_seqH fun Q hQ => ?_
                refine aw_cond rfl (fun hc => ?_) (fun hc => ?_)
                rotate_left; · cases hc
                refine aw_skip ?_
                (repeat (refine IsQ.go (by assumption) ?_; (try dsimp only); (try simp only [reduceCtorEq, E0])))
                refine aw_seqH fun Q hQ => ?_
                refine aw_blockH fun Q hQ => ?_
                refine aw_srH fun K hK => ?_
                (try simp only [go_sem, hx])
                refine IsK.go (by assumption) ?_
                obtain ⟨b42, h43, hF⟩ := bind_some hF
                refine aw_sdJ ⟨[(3, .bp 1 0), (4, .bp 2 0), (10, .bp 3 0), (12, .bp 5 0), (66, .p (.sl (v0.Releases.map T_api_Release.c))), (67, .p (vi (v0.Releases.length : Int))), (68, .p (vi (i9 : Int))), (85, .p (vb b42))], [(5, .cells [.p (vs x12.Version.b), .p (vi x12.Day), .p (.sl (x12.Exposures.map T_api_Exposure.c))]), (4, .slice (l29.map T_api_Release.c)), (3, .cells [.p (vs v0.Product.b), .os 4 0 l29.length, .p (.sl (y6.map T_api_Published.c)), .p (vi v1.Until)]), (2, .cells [.p (vs str_.b), .p (.c (.slice none 0 0)), .p (.c (.slice none 0 0)), .p (vi 0)]), (1, .cells [.p (vs v1.Product.b), .p (.sl (v1.Releases.map T_api_Release.c)), .p (.sl (v1.Known.map T_api_Published.c)), .p (vi v1.Until)])], 6⟩ (fun K hK => ?_) ?_
                · (try simp only [go_sem])
                  (try simp only [go_sem])
                  refine vD_split rfl ?_ ?_ <;> intro hg44 <;> (try simp only [hg44, go_sem])
                  · simp only [hg44, gbS] at h43
                    cases h43
                    (try simp only [go_sem, hg44])
                    refine IsK.go (by assumption) ?_
                    exact (Upd.sub (show 6 ≤ 6 by decide) (by simp [go_sem, envSub, Env.get] <;> ((try simp only [decide_eq_true_eq, decide_eq_false_iff_not, hw10, List.length_append] at hg44); omega)) (by simp [go_sem, heapSub, Heap.get, belowO] <;> ((try simp only [decide_eq_true_eq, decide_eq_false_iff_not, hw10, List.length_append] at hg44); omega)))
                  · simp only [hg44, gbS] at h43
                    obtain ⟨x45, h46, h43⟩ := bind_some h43
                    replace h46 := idx_map T_api_Release.c h46; (try simp only [go_sem] at h46)
                    cases h43
                    (try simp only [go_sem, h46])
                    refine IsK.go (by assumption) ?_
                    exact (Upd.sub (show 6 ≤ 6 by decide) (by simp [go_sem, envSub, Env.get] <;> ((try simp only [decide_eq_true_eq, decide_eq_false_iff_not, hw10, List.length_append] at hg44); omega)) (by simp [go_sem, heapSub, Heap.get, belowO] <;> ((try simp only [decide_eq_true_eq, decide_eq_false_iff_not, hw10, List.length_append] at hg44); omega)))
                refine aw_cond rfl (fun hc => ?_) (fun hc => ?_)
                · replace hF := if_t hc hF
                  obtain ⟨y47, h48, hF⟩ := bind_some hF
                  obtain ⟨l49, h50, hF⟩ := bind_some hF
                  obtain ⟨h50, h50v⟩ := app_some h50; (try simp only [go_sem] at h50)
                  refine aw_x ?_
                  (try simp only [go_sem])
                  refine ⟨_, call_pure (history_copied_ok h48) (by first | rfl | simp only [go_sem, h50v, List.map_take, List.map_drop, w64]) (by simp only [go_sem]) (by simp only [go_sem]) ⟨rfl, rfl, rfl⟩, ?_⟩
                  (try dsimp only); (try simp only [go_sem, h50])
                  refine And.intro (And.intro (SoftOK.rw (by rfl) (by rfl) (soft_n (by rfl))) (And.intro (SoftOK.rw (by rfl) (by rfl) (soft_n (by rfl))) trivial)) ?_
                  (repeat (refine IsQ.go (by assumption) ?_; (try dsimp only); (try simp only [reduceCtorEq, E0])))
                  refine aw_region ?_
                  (try simp only [go_sem, hw10])
                  (repeat (refine IsQ.go (by assumption) ?_; (try dsimp only); (try simp only [reduceCtorEq, E0])))
                  cases hF
                  exact ⟨_, rfl, (Upd.sub (show 5 ≤ 5 by decide) (by simp [go_sem, envSub, Env.get]) (by simp [go_sem, heapSub, Heap.get, belowO, h50v]))⟩
                · replace hF := if_f hc hF
                  refine aw_skip ?_
                  (repeat (refine IsQ.go (by assumption) ?_; (try dsimp only); (try simp only [reduceCtorEq, E0])))
                  refine aw_region ?_
                  (try simp only [go_sem, hw10])
                  (repeat (refine IsQ.go (by assumption) ?_; (try dsimp only); (try simp only [reduceCtorEq, E0])))
                  cases hF
                  exact ⟨_, rfl, (Upd.sub (show 5 ≤ 5 by decide) (by simp [go_sem, envSub, Env.get]) (by simp [go_sem, heapSub, Heap.get, belowO]))⟩
            rintro l38 hF
            (try dsimp only at hF ⊢)
            (repeat (refine IsQ.go (by assumption) ?_; (try dsimp only); (try simp only [reduceCtorEq, E0])))
            refine aw_seqH fun Q hQ => ?_
            refine aw_srH fun K hK => ?_
            (try simp only [go_sem])
            refine IsK.go (by assumption) ?_
            refine aw_joinX hF (fun (l68 : (List T_api_Release)) => ⟨[(4, .bp 2 0), (10, .bp 3 0)], [(4, .slice (l68.map T_api_Release.c)), (3, .cells [.p (vs v0.Product.b), .os 4 0 l68.length, .p (.sl (y6.map T_api_Published.c)), .p (vi v1.Until)]), (2, .cells [.p (vs str_.b), .p (.c (.slice none 0 0)), .p (.c (.slice none 0 0)), .p (vi 0)])], 5⟩) ?_ ?_
            · intro y69 hF hj69 Q hQ
              refine aw_blockH fun Q hQ => ?_
              refine aw_fact 95 rfl (fun _ _ => sl_lim) fun hl53 => ?_; simp only [List.length_map, top] at hl53
              refine aw_forL hF (fun i51 l61 => ⟨[(4, .bp 2 0), (10, .bp 3 0), (95, .p (.sl (v1.Releases.map T_api_Release.c))), (96, .p (vi (v1.Releases.length : Int))), (97, .p (vi (i51 : Int)))], [(4, .slice (l61.map T_api_Release.c)), (3, .cells [.p (vs v0.Product.b), .os 4 0 l61.length, .p (.sl (y6.map T_api_Published.c)), .p (vi v1.Until)]), (2, .cells [.p (vs str_.b), .p (.c (.slice none 0 0)), .p (.c (.slice none 0 0)), .p (vi 0)])], 5⟩) (Upd.sub (show 5 ≤ 5 by decide) (by simp [go_sem, envSub, Env.get]) (by simp [go_sem, heapSub, Heap.get, belowO])) ?_ ?_
              · rintro l61 hy Q hQ
                (try dsimp only at hy ⊢)
                have hlt : decide (((v1.Releases.length : Int) : Int) < (v1.Releases.length : Int)) = false := by simp
                refine aw_srH fun K hK => ?_
                (try simp only [go_sem, hlt])
                refine IsK.go (by assumption) ?_
                refine aw_seqH fun Q hQ => ?_
                refine aw_cond rfl (fun hc => ?_) (fun hc => ?_)
                · cases hc
                refine aw_exit ?_
                (repeat (refine IsQ.go (by assumption) ?_; (try dsimp only); (try simp only [E0])))
                exact ⟨_, hy, (Upd.sub (show 5 ≤ 5 by decide) (by simp [go_sem, envSub, Env.get]) (by simp [go_sem, heapSub, Heap.get, belowO]))⟩
              · rintro i51 x54 l61 z69 hi hx hF hb69 hr69 Q hQ
                (try dsimp only at hF ⊢)
                have hlt : decide ((i51 : Int) < (v1.Releases.length : Int)) = true := by simp; omega
                have hw52 : IntKind.i64.wrap ((i51 : Int) + 1) = ((i51 + 1 : Nat) : Int) := by rw [wrap64 (by omega) (by omega)]; simp
                refine aw_srH fun K hK => ?_
                (try simp only [go_sem, hlt])
                refine IsK.go (by assumption) ?_
                refine aw_seqH fun Q hQ => ?_
                refine aw_cond rfl (fun hc => ?_) (fun hc => ?_)
                rotate_left; · cases hc
                refine aw_skip ?_
                (repeat (refine IsQ.go (by assumption) ?_; (try dsimp only); (try simp only [reduceCtorEq, E0])))
                refine aw_seqH fun Q hQ => ?_
                refine aw_blockH fun Q hQ => ?_
                refine aw_srH fun K hK => ?_
                (try simp only [go_sem, hx])
                refine IsK.go (by assumption) ?_
                refine aw_seqH fun Q hQ => ?_
                obtain ⟨y70, h71, hF⟩ := bind_some hF
                refine aw_srH fun K hK => ?_
                (try simp only [go_sem])
                refine call_lent (slices_ContainsFunc_Release_Release_ok (g1_f := 105) (g1_a := []) (g1_c := [.p (.ptr [vs x54.Version.b, vi x54.Day, .sl (x54.Exposures.map T_api_Exposure.c)])]) rfl (by simp only [go_sem]) (fun _ _ h => history_Join_1_ok h) h71) 1 (by simp only [go_sem]) (by simp only [go_sem]) rfl ?_
                (try dsimp only); (try simp only [go_sem])
                refine IsK.go (by assumption) ?_
                refine aw_cond rfl (fun hc => ?_) (fun hc => ?_)
                · replace hF := if_t hc hF
                  refine aw_srH fun K hK => ?_
                  (try simp only [go_sem])
                  refine IsK.go (by assumption) ?_
                  refine aw_ret ?_
                  (repeat (refine IsQ.go (by assumption) ?_; (try dsimp only); (try simp only [reduceCtorEq, E0])))
                  cases hF
                  cases (hj69 _ (hr69 _ rfl))
                  first | (simp only [go_sem]; done) | simp only [go_sem, hw52]
                · replace hF := if_f hc hF
                  refine aw_skip ?_
                  (repeat (refine IsQ.go (by assumption) ?_; (try dsimp only); (try simp only [reduceCtorEq, E0])))
                  obtain ⟨y72, h73, hF⟩ := bind_some hF
                  obtain ⟨l74, h75, hF⟩ := bind_some hF
                  obtain ⟨h75, h75v⟩ := app_some h75; (try simp only [go_sem] at h75)
                  refine aw_x ?_
                  (try simp only [go_sem])
                  refine ⟨_, call_pure (history_copied_ok h73) (by first | rfl | simp only [go_sem, h75v, List.map_take, List.map_drop, w64]) (by simp only [go_sem]) (by simp only [go_sem]) ⟨rfl, rfl, rfl⟩, ?_⟩
                  (try dsimp only); (try simp only [go_sem, h75])
                  refine And.intro (And.intro (SoftOK.rw (by rfl) (by rfl) (soft_n (by rfl))) (And.intro (SoftOK.rw (by rfl) (by rfl) (soft_n (by rfl))) trivial)) ?_
                  (repeat (refine IsQ.go (by assumption) ?_; (try dsimp only); (try simp only [reduceCtorEq, E0])))
                  refine aw_region ?_
                  (try simp only [go_sem, hw52])
                  (repeat (refine IsQ.go (by assumption) ?_; (try dsimp only); (try simp only [reduceCtorEq, E0])))
                  cases hF
                  exact ⟨_, rfl, (Upd.sub (show 5 ≤ 5 by decide) (by simp [go_sem, envSub, Env.get]) (by simp [go_sem, heapSub, Heap.get, belowO, h75v]))⟩
            rintro l68 hF
            (try dsimp only at hF ⊢)
            (repeat (refine IsQ.go (by assumption) ?_; (try dsimp only); (try simp only [reduceCtorEq, E0])))
            refine aw_seqH fun Q hQ => ?_
            obtain ⟨y76, h77, hF⟩ := bind_some hF
            refine aw_srH fun K hK => ?_
            (try simp only [go_sem])
            refine call_lent (history_Check_ok h77) 1 (by simp only [go_sem]) (by simp only [go_sem]) rfl ?_
            (try dsimp only); (try simp only [go_sem])
            refine IsK.go (by assumption) ?_
            refine aw_srH fun K hK => ?_
            (try simp only [go_sem])
            refine IsK.go (by assumption) ?_
            refine aw_cond rfl (fun hc => ?_) (fun hc => ?_)
            · replace hF := if_t hc hF
              refine aw_srH fun K hK => ?_
              (try simp only [go_sem])
              refine IsK.go (by assumption) ?_
              refine aw_ret ?_
              (repeat (refine IsQ.go (by assumption) ?_; (try dsimp only); (try simp only [reduceCtorEq, E0])))
              cases hF
              simp only [go_sem]
            · replace hF := if_f hc hF
              refine aw_skip ?_
              (repeat (refine IsQ.go (by assumption) ?_; (try dsimp only); (try simp only [reduceCtorEq, E0])))
              refine aw_srH fun K hK => ?_
              (try simp only [go_sem])
              refine IsK.go (by assumption) ?_
              refine aw_ret ?_
              (repeat (refine IsQ.go (by assumption) ?_; (try dsimp only); (try simp only [reduceCtorEq, E0])))
              cases hF
              simp only [go_sem]
theorem slices_EqualFunc_Release_Release_Release_Release_ok {v0 : List T_api_Release} {v1 : List T_api_Release} {g2_f : FuncId} {g2_a g2_c : List AV} {g2 : T_api_Release → T_api_Release → Option Bool} (g2_en : enters Try.prog g2_f = true) (g2_bl : belowL 0 g2_a ∧ belowL 0 g2_c) (g2_ok : ∀ x0 x1 y0, g2 x0 x1 = some y0 → APure Try.prog g2_f (g2_a ++ [.p (.agg [vs x0.Version.b, vi x0.Day, .sl (x0.Exposures.map T_api_Exposure.c)]), .p (.agg [vs x1.Version.b, vi x1.Day, .sl (x1.Exposures.map T_api_Exposure.c)])] ++ g2_c) (.p (vb y0))) {r0} (hF : slices_EqualFunc_Release_Release_Release_Release v0 v1 g2 = some r0) : APure Try.prog 106 [.p (.sl (v0.map T_api_Release.c)), .p (.sl (v1.map T_api_Release.c)), .fn (.func g2_f) g2_a g2_c] (.p (vb r0)) := by
  refine apureZ 2 rc106_ok rfl ?_
  simp only [rc106, argEnv, Nat.reduceAdd]
  unfold slices_EqualFunc_Release_Release_Release_Release at hF
  obtain ⟨g2_bk1, g2_bk2⟩ := below_all g2_bl
  refine aw_srH fun K hK => ?_
  (try simp only [go_sem])
  refine IsK.go (by assumption) ?_
  refine aw_seqH fun Q hQ => ?_
  refine aw_srH fun K hK => ?_
  (try simp only [go_sem])
  refine IsK.go (by assumption) ?_
  refine aw_cond rfl (fun hc => ?_) (fun hc => ?_)
  · replace hF := if_t hc hF
    refine aw_srH fun K hK => ?_
    (try simp only [go_sem])
    refine IsK.go (by assumption) ?_
    refine aw_ret ?_
    (repeat (refine IsQ.go (by assumption) ?_; (try dsimp only); (try simp only [reduceCtorEq, E0])))
    cases hF
    first | (simp only [go_sem]; done) | simp only [go_sem, g2_bk1, g2_bk2]
  · replace hF := if_f hc hF
    refine aw_skip ?_
    (repeat (refine IsQ.go (by assumption) ?_; (try dsimp only); (try simp only [reduceCtorEq, E0])))
    refine aw_seqH fun Q hQ => ?_
    refine aw_srH fun K hK => ?_
    (try simp only [go_sem])
    refine IsK.go (by assumption) ?_
    refine aw_joinX hF (fun (_ : Unit) => ⟨[], [], 0⟩) ?_ ?_
    · intro y9 hF hj9 Q hQ
      refine aw_blockH fun Q hQ => ?_
      refine aw_fact 15 rfl (fun _ _ => sl_lim) fun hl3 => ?_; simp only [List.length_map, top] at hl3
      refine aw_forL hF (fun i1 _ => ⟨[(1, .p (.sl (v1.map T_api_Release.c))), (2, .fn (.func g2_f) g2_a g2_c), (15, .p (.sl (v0.map T_api_Release.c))), (16, .p (vi (v0.length : Int))), (17, .p (vi (i1 : Int)))], [], 0⟩) (Upd.sub (show 0 ≤ 0 by decide) (by simp [go_sem, envSub, Env.get, g2_bk1, g2_bk2]) trivial) ?_ ?_
      · rintro ⟨⟩ hy Q hQ
        (try dsimp only at hy ⊢)
        have hlt : decide (((v0.length : Int) : Int) < (v0.length : Int)) = false := by simp
        refine aw_srH fun K hK => ?_
        (try simp only [go_sem, hlt])
        refine IsK.go (by assumption) ?_
        refine aw_seqH fun Q hQ => ?_
        refine aw_cond rfl (fun hc => ?_) (fun hc => ?_)
        · cases hc
        refine aw_exit ?_
        (repeat (refine IsQ.go (by assumption) ?_; (try dsimp only); (try simp only [E0])))
        exact ⟨_, hy, (Upd.sub (show 0 ≤ 0 by decide) (by simp [go_sem, envSub]) trivial)⟩
      · rintro i1 x4 ⟨⟩ z9 hi hx hF hb9 hr9 Q hQ
        (try dsimp only at hF ⊢)
        have hlt : decide ((i1 : Int) < (v0.length : Int)) = true := by simp; omega
        have hw2 : IntKind.i64.wrap ((i1 : Int) + 1) = ((i1 + 1 : Nat) : Int) := by rw [wrap64 (by omega) (by omega)]; simp
        refine aw_srH fun K hK => ?_
        (try simp only [go_sem, hlt])
        refine IsK.go (by assumption) ?_
        refine aw_seqH fun Q hQ => ?_
        refine aw_cond rfl (fun hc => ?_) (fun hc => ?_)
        rotate_left; · cases hc
        refine aw_skip ?_
        (repeat (refine IsQ.go (by assumption) ?_; (try dsimp only); (try simp only [reduceCtorEq, E0])))
        refine aw_seqH fun Q hQ => ?_
        refine aw_blockH fun Q hQ => ?_
        refine aw_srH fun K hK => ?_
        (try simp only [go_sem, hx])
        refine IsK.go (by assumption) ?_
        obtain ⟨x10, h11, hF⟩ := bind_some hF
        replace h11 := idx_map T_api_Release.c h11; (try simp only [go_sem] at h11)
        refine aw_srH fun K hK => ?_
        (try simp only [go_sem, h11])
        refine IsK.go (by assumption) ?_
        obtain ⟨y12, h13, hF⟩ := bind_some hF
        refine aw_srH fun K hK => ?_
        (try simp only [go_sem])
        refine ⟨g2_en, ?_⟩
        refine call_pure (g2_ok _ _ _ h13) rfl (by simp only [go_sem, g2_bk1, g2_bk2]) (by simp only [go_sem]) ?_
        (try dsimp only); (try simp only [go_sem])
        refine IsK.go (by assumption) ?_
        refine aw_cond rfl (fun hc => ?_) (fun hc => ?_)
        · replace hF := if_t hc hF
          refine aw_srH fun K hK => ?_
          (try simp only [go_sem])
          refine IsK.go (by assumption) ?_
          refine aw_ret ?_
          (repeat (refine IsQ.go (by assumption) ?_; (try dsimp only); (try simp only [reduceCtorEq, E0])))
          cases hF
          cases (hj9 _ (hr9 _ rfl))
          first | (simp only [go_sem]; done) | simp only [go_sem, g2_bk1, g2_bk2, hw2]
        · replace hF := if_f hc hF
          refine aw_skip ?_
          (repeat (refine IsQ.go (by assumption) ?_; (try dsimp only); (try simp only [reduceCtorEq, E0])))
          refine aw_region ?_
          (try simp only [go_sem, hw2])
          (repeat (refine IsQ.go (by assumption) ?_; (try dsimp only); (try simp only [reduceCtorEq, E0])))
          cases hF
          exact ⟨_, rfl, (Upd.sub (show 0 ≤ 0 by decide) (by simp [go_sem, envSub, Env.get, g2_bk1, g2_bk2]) trivial)⟩
    rintro ⟨⟩ hF
    (try dsimp only at hF ⊢)
    (repeat (refine IsQ.go (by assumption) ?_; (try dsimp only); (try simp only [reduceCtorEq, E0])))
    refine aw_srH fun K hK => ?_
    (try simp only [go_sem])
    refine IsK.go (by assumption) ?_
    refine aw_ret ?_
    (repeat (refine IsQ.go (by assumption) ?_; (try dsimp only); (try simp only [reduceCtorEq, E0])))
    cases hF
    first | (simp only [go_sem]; done) | simp only [go_sem, g2_bk1, g2_bk2]
theorem slices_Equal_Published_Published_ok {v0 : List T_api_Published} {v1 : List T_api_Published} {r0} (hF : slices_Equal_Published_Published v0 v1 = some r0) : APure Try.prog 107 [.p (.sl (v0.map T_api_Published.c)), .p (.sl (v1.map T_api_Published.c))] (.p (vb r0)) := by
  refine apureZ 2 rc107_ok rfl ?_
  simp only [rc107, argEnv, Nat.reduceAdd]
  unfold slices_Equal_Published_Published at hF
  refine aw_srH fun K hK => ?_
  (try simp only [go_sem])
  refine IsK.go (by assumption) ?_
  refine aw_seqH fun Q hQ => ?_
  refine aw_srH fun K hK => ?_
  (try simp only [go_sem])
  refine IsK.go (by assumption) ?_
  refine aw_cond rfl (fun hc => ?_) (fun hc => ?_)
  · replace hF := if_t hc hF
    refine aw_srH fun K hK => ?_
    (try simp only [go_sem])
    refine IsK.go (by assumption) ?_
    refine aw_ret ?_
    (repeat (refine IsQ.go (by assumption) ?_; (try dsimp only); (try simp only [reduceCtorEq, E0])))
    cases hF
    simp only [go_sem]
  · replace hF := if_f hc hF
    refine aw_skip ?_
    (repeat (refine IsQ.go (by assumption) ?_; (try dsimp only); (try simp only [reduceCtorEq, E0])))
    refine aw_seqH fun Q hQ => ?_
    refine aw_srH fun K hK => ?_
    (try simp only [go_sem])
    refine IsK.go (by assumption) ?_
    refine aw_joinX hF (fun (_ : Unit) => ⟨[], [], 0⟩) ?_ ?_
    · intro y7 hF hj7 Q hQ
      refine aw_blockH fun Q hQ => ?_
      refine aw_fact 0 rfl (fun _ _ => sl_lim) fun hl3 => ?_; simp only [List.length_map, top] at hl3
      refine aw_forL hF (fun i1 _ => ⟨[(0, .p (.sl (v0.map T_api_Published.c))), (1, .p (.sl (v1.map T_api_Published.c))), (12, .p (vi (v0.length : Int))), (13, .p (vi (i1 : Int)))], [], 0⟩) (Upd.sub (show 0 ≤ 0 by decide) (by simp [go_sem, envSub, Env.get]) trivial) ?_ ?_
      · rintro ⟨⟩ hy Q hQ
        (try dsimp only at hy ⊢)
        have hlt : decide (((v0.length : Int) : Int) < (v0.length : Int)) = false := by simp
        refine aw_srH fun K hK => ?_
        (try simp only [go_sem, hlt])
        refine IsK.go (by assumption) ?_
        refine aw_seqH fun Q hQ => ?_
        refine aw_cond rfl (fun hc => ?_) (fun hc => ?_)
        · cases hc
        refine aw_exit ?_
        (repeat (refine IsQ.go (by assumption) ?_; (try dsimp only); (try simp only [E0])))
        exact ⟨_, hy, (Upd.sub (show 0 ≤ 0 by decide) (by simp [go_sem, envSub]) trivial)⟩
      · rintro i1 x4 ⟨⟩ z7 hi hx hF hb7 hr7 Q hQ
        (try dsimp only at hF ⊢)
        have hlt : decide ((i1 : Int) < (v0.length : Int)) = true := by simp; omega
        have hw2 : IntKind.i64.wrap ((i1 : Int) + 1) = ((i1 + 1 : Nat) : Int) := by rw [wrap64 (by omega) (by omega)]; simp
        refine aw_srH fun K hK => ?_
        (try simp only [go_sem, hlt])
        refine IsK.go (by assumption) ?_
        refine aw_seqH fun Q hQ => ?_
        refine aw_cond rfl (fun hc => ?_) (fun hc => ?_)
        rotate_left; · cases hc
        refine aw_skip ?_
        (repeat (refine IsQ.go (by assumption) ?_; (try dsimp only); (try simp only [reduceCtorEq, E0])))
        refine aw_seqH fun Q hQ => ?_
        refine aw_blockH fun Q hQ => ?_
        refine aw_srH fun K hK => ?_
        (try simp only [go_sem])
        refine IsK.go (by assumption) ?_
        obtain ⟨x8, h9, hF⟩ := bind_some hF
        replace h9 := idx_map T_api_Published.c h9; (try simp only [go_sem] at h9)
        refine aw_sdH fun K hK => ?_
        (try simp only [go_sem, hx, h9])
        refine IsK.go (by assumption) ?_
        refine aw_cond rfl (fun hc => ?_) (fun hc => ?_)
        · replace hF := if_t hc hF
          refine aw_srH fun K hK => ?_
          (try simp only [go_sem])
          refine IsK.go (by assumption) ?_
          refine aw_ret ?_
          (repeat (refine IsQ.go (by assumption) ?_; (try dsimp only); (try simp only [reduceCtorEq, E0])))
          cases hF
          cases (hj7 _ (hr7 _ rfl))
          first | (simp only [go_sem]; done) | simp only [go_sem, hw2]
        · replace hF := if_f hc hF
          refine aw_skip ?_
          (repeat (refine IsQ.go (by assumption) ?_; (try dsimp only); (try simp only [reduceCtorEq, E0])))
          refine aw_region ?_
          (try simp only [go_sem, hw2])
          (repeat (refine IsQ.go (by assumption) ?_; (try dsimp only); (try simp only [reduceCtorEq, E0])))
          cases hF
          exact ⟨_, rfl, (Upd.sub (show 0 ≤ 0 by decide) (by simp [go_sem, envSub, Env.get]) trivial)⟩
    rintro ⟨⟩ hF
    (try dsimp only at hF ⊢)
    (repeat (refine IsQ.go (by assumption) ?_; (try dsimp only); (try simp only [reduceCtorEq, E0])))
    refine aw_srH fun K hK => ?_
    (try simp only [go_sem])
    refine IsK.go (by assumption) ?_
    refine aw_ret ?_
    (repeat (refine IsQ.go (by assumption) ?_; (try dsimp only); (try simp only [reduceCtorEq, E0])))
    cases hF
    simp only [go_sem]
theorem law11_equal_ok {v0 : T_api_Story} {v1 : T_api_Story} {r0} (hF : law11_equal v0 v1 = some r0) : APure Try.prog 49 [.p (.agg [vs v0.Product.b, .sl (v0.Releases.map T_api_Release.c), .sl (v0.Known.map T_api_Published.c), vi v0.Until]), .p (.agg [vs v1.Product.b, .sl (v1.Releases.map T_api_Release.c), .sl (v1.Known.map T_api_Published.c), vi v1.Until])] (.p (vb r0)) := by
  refine apureZ 2 rc49_ok rfl ?_
  simp only [rc49, argEnv, Nat.reduceAdd]
  unfold law11_equal at hF
  refine aw_srH fun K hK => ?_
  (try simp only [go_sem])
  refine IsK.go (by assumption) ?_
  obtain ⟨b3, h4, hF⟩ := bind_some hF
  obtain ⟨b7, h8, hF⟩ := bind_some hF
  refine aw_srJ ⟨[(4, .p (vb b7))], [], 2⟩ (fun K hK => ?_) ?_
  · (try simp only [go_sem])
    (try simp only [go_sem])
    refine vOps_split rfl ?_ ?_ <;> intro hg9 <;> (try simp only [hg9, go_sem])
    · (try simp only [go_sem, hg9])
      refine vOps_split rfl ?_ ?_ <;> intro hg10 <;> (try simp only [hg10, go_sem])
      · simp only [hg9, hg10, gbS] at h4
        obtain ⟨y11, h12, h4⟩ := bind_some h4
        (try simp only [go_sem, hg9, hg10])
        refine call_pure (slices_EqualFunc_Release_Release_Release_Release_ok (g2_f := 37) (g2_a := []) (g2_c := []) rfl (by simp only [go_sem]) (fun _ _ _ h => law11_sameRelease_ok h) h12) rfl (by simp only [go_sem]) (by simp only [go_sem]) ?_
        (try dsimp only); (try simp only [go_sem, hg9, hg10])
        cases h4
        (try simp only [go_sem, hg9, hg10])
        refine vOps_split rfl ?_ ?_ <;> intro hg13 <;> (try simp only [hg13, go_sem])
        · simp only [hg13, gbS] at h8
          obtain ⟨y14, h15, h8⟩ := bind_some h8
          (try simp only [go_sem, hg9, hg10, hg13])
          refine call_pure (slices_Equal_Published_Published_ok h15) rfl (by simp only [go_sem]) (by simp only [go_sem]) ?_
          (try dsimp only); (try simp only [go_sem, hg9, hg10, hg13])
          cases h8
          (try simp only [go_sem, hg9, hg10, hg13])
          refine IsK.go (by assumption) ?_
          exact (Upd.sub (show 2 ≤ 2 by decide) (by simp [go_sem, envSub, Env.get] <;> ((try simp only [decide_eq_true_eq, decide_eq_false_iff_not] at hg9); (try simp only [decide_eq_true_eq, decide_eq_false_iff_not] at hg10); (try simp only [decide_eq_true_eq, decide_eq_false_iff_not] at hg13); omega)) trivial)
        · simp only [hg13, gbS] at h8
          cases h8
          (try simp only [go_sem, hg9, hg10, hg13])
          refine IsK.go (by assumption) ?_
          exact (Upd.sub (show 2 ≤ 2 by decide) (by simp [go_sem, envSub, Env.get] <;> ((try simp only [decide_eq_true_eq, decide_eq_false_iff_not] at hg9); (try simp only [decide_eq_true_eq, decide_eq_false_iff_not] at hg10); (try simp only [decide_eq_true_eq, decide_eq_false_iff_not] at hg13); omega)) trivial)
      · simp only [hg9, hg10, gbS] at h4
        cases h4
        simp only [gbS] at h8
        cases h8
        (try simp only [go_sem, hg9, hg10])
        refine IsK.go (by assumption) ?_
        exact (Upd.sub (show 2 ≤ 2 by decide) (by simp [go_sem, envSub, Env.get] <;> ((try simp only [decide_eq_true_eq, decide_eq_false_iff_not] at hg9); (try simp only [decide_eq_true_eq, decide_eq_false_iff_not] at hg10); omega)) trivial)
    · simp only [hg9, gbS] at h4
      cases h4
      simp only [gbS] at h8
      cases h8
      (try simp only [go_sem, hg9])
      refine IsK.go (by assumption) ?_
      exact (Upd.sub (show 2 ≤ 2 by decide) (by simp [go_sem, envSub, Env.get] <;> ((try simp only [decide_eq_true_eq, decide_eq_false_iff_not] at hg9); omega)) trivial)
  refine aw_ret ?_
  (repeat (refine IsQ.go (by assumption) ?_; (try dsimp only); (try simp only [reduceCtorEq, E0])))
  cases hF
  simp only [go_sem]
theorem law11_HistoryCutsJoin_ok {fuel : Nat} {v0 : T_api_Story} {v1 : Int} {r0} (hF : law11_HistoryCutsJoin fuel v0 v1 = some r0) : APure Try.prog 12 [.p (.agg [vs v0.Product.b, .sl (v0.Releases.map T_api_Release.c), .sl (v0.Known.map T_api_Published.c), vi v0.Until]), .p (vi v1)] (.p (vb r0)) := by
  refine apureZ 2 rc12_ok rfl ?_
  simp only [rc12, argEnv, Nat.reduceAdd]
  unfold law11_HistoryCutsJoin at hF
  refine aw_srH fun K hK => ?_
  (try simp only [go_sem])
  refine IsK.go (by assumption) ?_
  obtain ⟨⟨y1, y2⟩, h3, hF⟩ := bind_some hF
  (try dsimp only at hF)
  refine aw_srH fun K hK => ?_
  (try simp only [go_sem])
  refine call_pure (history_Cut_ok h3) rfl (by simp only [go_sem]) (by simp only [go_sem]) ?_
  (try dsimp only); (try simp only [go_sem])
  refine IsK.go (by assumption) ?_
  refine aw_seqH fun Q hQ => ?_
  refine aw_srH fun K hK => ?_
  (try simp only [go_sem])
  refine IsK.go (by assumption) ?_
  refine aw_cond rfl (fun hc => ?_) (fun hc => ?_)
  · replace hF := if_t hc hF
    obtain ⟨⟨y4, y5⟩, h6, hF⟩ := bind_some hF
    (try dsimp only at hF)
    refine aw_srH fun K hK => ?_
    (try simp only [go_sem])
    refine call_pure (ref11_Cut_ok h6) rfl (by simp only [go_sem]) (by simp only [go_sem]) ?_
    (try dsimp only); (try simp only [go_sem])
    refine IsK.go (by assumption) ?_
    obtain ⟨b9, h10, hF⟩ := bind_some hF
    refine aw_srJ ⟨[(4, .p (vb b9))], [], 3⟩ (fun K hK => ?_) ?_
    · (try simp only [go_sem])
      (try simp only [go_sem])
      refine vOps_split rfl ?_ ?_ <;> intro hg11 <;> (try simp only [hg11, go_sem])
      · simp only [hg11, gbS] at h10
        obtain ⟨y12, h13, h10⟩ := bind_some h10
        (try simp only [go_sem, hg11])
        refine call_pure (law11_told_ok h13) rfl (by simp only [go_sem]) (by simp only [go_sem]) ?_
        (try dsimp only); (try simp only [go_sem, hg11])
        cases h10
        (try simp only [go_sem, hg11])
        refine IsK.go (by assumption) ?_
        exact (Upd.sub (show 3 ≤ 3 by decide) (by simp [go_sem, envSub, Env.get] <;> ((try simp only [decide_eq_true_eq, decide_eq_false_iff_not] at hg11); omega)) trivial)
      · simp only [hg11, gbS] at h10
        cases h10
        (try simp only [go_sem, hg11])
        refine IsK.go (by assumption) ?_
        exact (Upd.sub (show 3 ≤ 3 by decide) (by simp [go_sem, envSub, Env.get] <;> ((try simp only [decide_eq_true_eq, decide_eq_false_iff_not] at hg11); omega)) trivial)
    refine aw_ret ?_
    (repeat (refine IsQ.go (by assumption) ?_; (try dsimp only); (try simp only [reduceCtorEq, E0])))
    cases hF
    simp only [go_sem]
  · replace hF := if_f hc hF
    refine aw_skip ?_
    (repeat (refine IsQ.go (by assumption) ?_; (try dsimp only); (try simp only [reduceCtorEq, E0])))
    refine aw_srH fun K hK => ?_
    (try simp only [go_sem])
    refine IsK.go (by assumption) ?_
    refine aw_srH fun K hK => ?_
    (try simp only [go_sem])
    refine IsK.go (by assumption) ?_
    refine aw_seqH fun Q hQ => ?_
    refine aw_srH fun K hK => ?_
    (try simp only [go_sem])
    refine IsK.go (by assumption) ?_
    refine aw_upd (Upd.ownCell _ 2 1 (by simp only [go_sem]; rfl) rfl) ?_; simp only [go_sem]
    refine aw_joinX hF (fun (l25 : (List T_api_Release)) => ⟨[(2, .bp 0 0), (5, .bp 1 0), (9, .bp 2 0)], [(3, .slice (l25.map T_api_Release.c)), (2, .cells [.p (vs v0.Product.b), .os 3 0 l25.length, .p (.sl (v0.Known.map T_api_Published.c)), .p (vi v0.Until)]), (1, .cells [.p (vs y1.Product.b), .p (.sl (y1.Releases.map T_api_Release.c)), .p (.sl (y1.Known.map T_api_Published.c)), .p (vi y1.Until)]), (0, .cells [.p (vs v0.Product.b), .p (.sl (v0.Releases.map T_api_Release.c)), .p (.sl (v0.Known.map T_api_Published.c)), .p (vi v0.Until)])], 4⟩) ?_ ?_
    · intro y26 hF hj26 Q hQ
      refine aw_blockH fun Q hQ => ?_
      refine aw_fact 37 rfl (fun _ _ => sl_lim) fun hl16 => ?_; simp only [List.length_map, top] at hl16
      refine aw_forL hF (fun i14 l22 => ⟨[(1, .p (vi v1)), (2, .bp 0 0), (5, .bp 1 0), (9, .bp 2 0), (37, .p (.sl (v0.Releases.map T_api_Release.c))), (38, .p (vi (v0.Releases.length : Int))), (39, .p (vi (i14 : Int)))], [(3, .slice (l22.map T_api_Release.c)), (2, .cells [.p (vs v0.Product.b), .os 3 0 l22.length, .p (.sl (v0.Known.map T_api_Published.c)), .p (vi v0.Until)]), (1, .cells [.p (vs y1.Product.b), .p (.sl (y1.Releases.map T_api_Release.c)), .p (.sl (y1.Known.map T_api_Published.c)), .p (vi y1.Until)]), (0, .cells [.p (vs v0.Product.b), .p (.sl (v0.Releases.map T_api_Release.c)), .p (.sl (v0.Known.map T_api_Published.c)), .p (vi v0.Until)])], 4⟩) (Upd.sub (show 4 ≤ 4 by decide) (by simp [go_sem, envSub, Env.get]) (by simp [go_sem, heapSub, Heap.get, belowO])) ?_ ?_
      · rintro l22 hy Q hQ
        (try dsimp only at hy ⊢)
        have hlt : decide (((v0.Releases.length : Int) : Int) < (v0.Releases.length : Int)) = false := by simp
        refine aw_srH fun K hK => ?_
        (try simp only [go_sem, hlt])
        refine IsK.go (by assumption) ?_
        refine aw_seqH fun Q hQ => ?_
        refine aw_cond rfl (fun hc => ?_) (fun hc => ?_)
        · cases hc
        refine aw_exit ?_
        (repeat (refine IsQ.go (by assumption) ?_; (try dsimp only); (try simp only [E0])))
        exact ⟨_, hy, (Upd.sub (show 4 ≤ 4 by decide) (by simp [go_sem, envSub, Env.get]) (by simp [go_sem, heapSub, Heap.get, belowO]))⟩
      · rintro i14 x17 l22 z26 hi hx hF hb26 hr26 Q hQ
        (try dsimp only at hF ⊢)
        have hlt : decide ((i14 : Int) < (v0.Releases.length : Int)) = true := by simp; omega
        have hw15 : IntKind.i64.wrap ((i14 : Int) + 1) = ((i14 + 1 : Nat) : Int) := by rw [wrap64 (by omega) (by omega)]; simp
        refine aw_srH fun K hK => ?_
        (try simp only [go_sem, hlt])
        refine IsK.go (by assumption) ?_
        refine aw_seqH fun Q hQ => ?_
        refine aw_cond rfl (fun hc => ?_) (fun hc => ?_)
        rotate_left; · cases hc
        refine aw_skip ?_
        (repeat (refine IsQ.go (by assumption) ?_; (try dsimp only); (try simp only [reduceCtorEq, E0])))
        refine aw_seqH fun Q hQ => ?_
        refine aw_blockH fun Q hQ => ?_
        refine aw_srH fun K hK => ?_
        (try simp only [go_sem, hx])
        refine IsK.go (by assumption) ?_
        refine aw_srH fun K hK => ?_
        (try simp only [go_sem])
        refine IsK.go (by assumption) ?_
        refine aw_cond rfl (fun hc => ?_) (fun hc => ?_)
        · replace hF := if_t hc hF
          obtain ⟨l27, h28, hF⟩ := bind_some hF
          obtain ⟨h28, h28v⟩ := app_some h28; (try simp only [go_sem] at h28)
          refine aw_region ?_
          (try simp only [go_sem, h28])
          (repeat (refine IsQ.go (by assumption) ?_; (try dsimp only); (try simp only [reduceCtorEq, E0])))
          refine aw_region ?_
          (try simp only [go_sem, hw15])
          (repeat (refine IsQ.go (by assumption) ?_; (try dsimp only); (try simp only [reduceCtorEq, E0])))
          cases hF
          exact ⟨_, rfl, (Upd.sub (show 4 ≤ 4 by decide) (by simp [go_sem, envSub, Env.get]) (by simp [go_sem, heapSub, Heap.get, belowO, h28v]))⟩
        · replace hF := if_f hc hF
          refine aw_skip ?_
          (repeat (refine IsQ.go (by assumption) ?_; (try dsimp only); (try simp only [reduceCtorEq, E0])))
          refine aw_region ?_
          (try simp only [go_sem, hw15])
          (repeat (refine IsQ.go (by assumption) ?_; (try dsimp only); (try simp only [reduceCtorEq, E0])))
          cases hF
          exact ⟨_, rfl, (Upd.sub (show 4 ≤ 4 by decide) (by simp [go_sem, envSub, Env.get]) (by simp [go_sem, heapSub, Heap.get, belowO]))⟩
    rintro l25 hF
    (try dsimp only at hF ⊢)
    (repeat (refine IsQ.go (by assumption) ?_; (try dsimp only); (try simp only [reduceCtorEq, E0])))
    obtain ⟨⟨y29, y30⟩, h31, hF⟩ := bind_some hF
    (try dsimp only at hF)
    refine aw_srH fun K hK => ?_
    (try simp only [go_sem])
    refine calls_frz (inL [3]) (call_pure (history_Join_ok h31) (by simp only [go_sem]) (by simp only [go_sem]) (by simp only [go_sem]) ?_)
    (try dsimp only); (try simp only [go_sem])
    refine IsK.go (by assumption) ?_
    obtain ⟨b34, h35, hF⟩ := bind_some hF
    obtain ⟨b38, h39, hF⟩ := bind_some hF
    refine aw_srJ ⟨[(4, .p (vb b38))], [], 5⟩ (fun K hK => ?_) ?_
    · (try simp only [go_sem])
      (try simp only [go_sem])
      refine vOps_split rfl ?_ ?_ <;> intro hg40 <;> (try simp only [hg40, go_sem])
      · simp only [hg40, gbS] at h35
        obtain ⟨y41, h42, h35⟩ := bind_some h35
        (try simp only [go_sem, hg40])
        refine call_pure (law11_equal_ok h42) rfl (by simp only [go_sem]) (by simp only [go_sem]) ?_
        (try dsimp only); (try simp only [go_sem, hg40])
        cases h35
        (try simp only [go_sem, hg40])
        refine vOps_split rfl ?_ ?_ <;> intro hg43 <;> (try simp only [hg43, go_sem])
        · simp only [hg43, gbS] at h39
          obtain ⟨y44, h45, h39⟩ := bind_some h39
          (try simp only [go_sem, hg40, hg43])
          refine call_pure (law11_told_ok h45) rfl (by simp only [go_sem]) (by simp only [go_sem]) ?_
          (try dsimp only); (try simp only [go_sem, hg40, hg43])
          cases h39
          (try simp only [go_sem, hg40, hg43])
          refine IsK.go (by assumption) ?_
          exact (Upd.sub (show 5 ≤ 5 by decide) (by simp [go_sem, envSub, Env.get] <;> ((try simp only [decide_eq_true_eq, decide_eq_false_iff_not] at hg40); (try simp only [decide_eq_true_eq, decide_eq_false_iff_not] at hg43); omega)) trivial)
        · simp only [hg43, gbS] at h39
          cases h39
          (try simp only [go_sem, hg40, hg43])
          refine IsK.go (by assumption) ?_
          exact (Upd.sub (show 5 ≤ 5 by decide) (by simp [go_sem, envSub, Env.get] <;> ((try simp only [decide_eq_true_eq, decide_eq_false_iff_not] at hg40); (try simp only [decide_eq_true_eq, decide_eq_false_iff_not] at hg43); omega)) trivial)
      · simp only [hg40, gbS] at h35
        cases h35
        simp only [gbS] at h39
        cases h39
        (try simp only [go_sem, hg40])
        refine IsK.go (by assumption) ?_
        exact (Upd.sub (show 5 ≤ 5 by decide) (by simp [go_sem, envSub, Env.get] <;> ((try simp only [decide_eq_true_eq, decide_eq_false_iff_not] at hg40); omega)) trivial)
    refine aw_ret ?_
    (repeat (refine IsQ.go (by assumption) ?_; (try dsimp only); (try simp only [reduceCtorEq, E0])))
    cases hF
    simp only [go_sem]
end Go.Abs
