/- The walks of these functions against the plain ones (printed by a program of this repo). -/
import Derived.Test.YtjjhmldeammecaaRHw
import Derived.Test.YtjjhmldeammecaaGHkb
import Derived.Test.YtjjhmldeammecaaFHd
import Derived.Test.YtjjhmldeammecaaProg
import Derived.Test.YtjjhmldeammecaaRHc
import Derived.Test.YtjjhmldeammecaaGHca
namespace Go.Abs
open Go Go.Proofs
set_option maxRecDepth 8000
theorem slices_Clone_Window_Window_own {v0 : List T_api_Window} {r0} (hF : slices_Clone_Window_Window v0 = some r0) : AOwn Try.prog 148 [.p (.sl (v0.map T_api_Window.c))] (r0.map T_api_Window.c) := by
  refine aown rc148_ok rfl ?_
  simp only [rc148, argEnv]
  unfold slices_Clone_Window_Window at hF
  obtain ⟨h1, h2⟩ := app_some hF
  simp only [go_sem] at h1 h2
  refine aw_srH fun K hK => ?_
  simp only [go_sem]
  refine IsK.go (by assumption) ?_
  refine aw_seqH fun Q hQ => ?_
  refine aw_srH fun K hK => ?_
  simp only [go_sem]
  intro b hb
  refine IsK.go (by assumption) ?_
  cases b with
  | true =>
    have hv : v0 = [] := Classical.byContradiction fun hne => by
      have := hb (by simpa using hne)
      cases this
    subst hv
    refine aw_cond rfl (fun hc => ?_) (fun hc => by cases hc)
    refine aw_srH fun K hK => ?_
    simp only [go_sem]
    refine IsK.go (by assumption) ?_
    refine aw_ret ?_
    (repeat (refine IsQ.go (by assumption) ?_; (try dsimp only); (try simp only [reduceCtorEq, E0])))
    subst h2
    simp only [go_sem]
  | false =>
    refine aw_cond rfl (fun hc => by cases hc) (fun hc => ?_)
    refine aw_skip ?_
    (repeat (refine IsQ.go (by assumption) ?_; (try dsimp only); (try simp only [reduceCtorEq, E0])))
    refine aw_srH fun K hK => ?_
    simp only [go_sem, h1]
    refine IsK.go (by assumption) ?_
    refine aw_ret ?_
    (repeat (refine IsQ.go (by assumption) ?_; (try dsimp only); (try simp only [reduceCtorEq, E0])))
    subst h2
    simp only [go_sem]

theorem slices_insertionSortCmpFunc_Window_ok {v0 : List T_api_Window} {v1 : Int} {v2 : Int} {g3_f : FuncId} {g3_a g3_c : List AV} {g3 : T_api_Window → T_api_Window → Option Int} (g3_en : enters Try.prog g3_f = true) (g3_bl : belowL 0 g3_a ∧ belowL 0 g3_c) (g3_ok : ∀ x0 x1 y0, g3 x0 x1 = some y0 → APure Try.prog g3_f (g3_a ++ [.p (.agg [vs x0.Advisory.b, vs x0.Component.b, vi x0.Severity, vi x0.From, vi x0.To, vb x0.Open]), .p (.agg [vs x1.Advisory.b, vs x1.Component.b, vi x1.Severity, vi x1.From, vi x1.To, vb x1.Open])] ++ g3_c) (.p (vi y0))) {rows} (hF : slices_insertionSortCmpFunc_Window v0 v1 v2 g3 = some rows) : AMut Try.prog 171 [.os 0 0 v0.length, .p (vi v1), .p (vi v2), .fn (.func g3_f) g3_a g3_c] (v0.map T_api_Window.c) (.tup []) (rows.map T_api_Window.c) := by
  refine amut rc171_ok (by rfl) ?_
  simp only [rc171, argEnv, Nat.reduceAdd]
  unfold slices_insertionSortCmpFunc_Window at hF
  obtain ⟨g3_bk1, g3_bk2⟩ := below_all g3_bl
  refine aw_srH fun K hK => ?_
  (try simp only [go_sem])
  refine IsK.go (by assumption) ?_
  refine aw_joinX hF (fun (l95 : (List T_api_Window)) => ⟨[], [(0, .slice (l95.map T_api_Window.c))], 1⟩) ?_ ?_
  · intro y96 hF hj96 Q hQ
    refine aw_blockH fun Q hQ => ?_
    refine aw_loopK hF (fun ((n47, l48) : Int × (List T_api_Window)) => ⟨[(0, .os 0 0 l48.length), (1, .p (vi v1)), (2, .p (vi v2)), (3, .fn (.func g3_f) g3_a g3_c), (8, .p (vi n47))], [(0, .slice (l48.map T_api_Window.c))], 1⟩) (Upd.sub (show 1 ≤ 1 by decide) (by simp [go_sem, envSub, Env.get, g3_bk1, g3_bk2]) (by simp [go_sem, heapSub, Heap.get, belowO])) ?_
    rintro ⟨n47, l48⟩ z96 hF hb96 hr96 Q hQ
    (try dsimp only at hF ⊢)
    refine aw_seqH fun Q hQ => ?_
    refine aw_srH fun K hK => ?_
    (try simp only [go_sem])
    refine IsK.go (by assumption) ?_
    refine aw_cond rfl (fun hc => ?_) (fun hc => ?_)
    · replace hF := if_t hc hF
      refine aw_skip ?_
      (repeat (refine IsQ.go (by assumption) ?_; (try dsimp only); (try simp only [reduceCtorEq, E0])))
      refine aw_seqH fun Q hQ => ?_
      refine aw_blockH fun Q hQ => ?_
      refine aw_srH fun K hK => ?_
      (try simp only [go_sem])
      refine IsK.go (by assumption) ?_
      refine aw_joinX hF (fun (l127 : (List T_api_Window)) => ⟨[(0, .os 0 0 l127.length), (1, .p (vi v1)), (2, .p (vi v2)), (3, .fn (.func g3_f) g3_a g3_c), (8, .p (vi n47))], [(0, .slice (l127.map T_api_Window.c))], 1⟩) ?_ ?_
      · intro y128 hF hj128 Q hQ
        refine aw_blockH fun Q hQ => ?_
        refine aw_loopK hF (fun ((n111, l112) : Int × (List T_api_Window)) => ⟨[(0, .os 0 0 l112.length), (1, .p (vi v1)), (2, .p (vi v2)), (3, .fn (.func g3_f) g3_a g3_c), (8, .p (vi n47)), (9, .p (vi n111))], [(0, .slice (l112.map T_api_Window.c))], 1⟩) (Upd.sub (show 1 ≤ 1 by decide) (by simp [go_sem, envSub, Env.get, g3_bk1, g3_bk2]) (by simp [go_sem, heapSub, Heap.get, belowO])) ?_
        rintro ⟨n111, l112⟩ z128 hF hb128 hr128 Q hQ
        (try dsimp only at hF ⊢)
        refine aw_seqH fun Q hQ => ?_
        obtain ⟨b135, h136, hF⟩ := bind_some hF
        refine aw_sdJ ⟨[(0, .os 0 0 l112.length), (1, .p (vi v1)), (2, .p (vi v2)), (3, .fn (.func g3_f) g3_a g3_c), (8, .p (vi n47)), (9, .p (vi n111)), (34, .p (vb b135))], [(0, .slice (l112.map T_api_Window.c))], 1⟩ (fun K hK => ?_) ?_
        · (try simp only [go_sem])
          (try simp only [go_sem])
          refine vD_split rfl ?_ ?_ <;> intro hg137 <;> (try simp only [hg137, go_sem])
          · simp only [hg137, gbS] at h136
            obtain ⟨x138, h139, h136⟩ := bind_some h136
            replace h139 := idx_map T_api_Window.c h139; (try simp only [go_sem] at h139)
            obtain ⟨x140, h141, h136⟩ := bind_some h136
            replace h141 := idx_map T_api_Window.c h141; (try simp only [go_sem] at h141)
            obtain ⟨y142, h143, h136⟩ := bind_some h136
            (try simp only [go_sem, h139, h141])
            refine ⟨g3_en, ?_⟩
            refine ⟨_, call_pure (g3_ok _ _ _ h143) rfl (by simp only [go_sem, g3_bk1, g3_bk2]) (by simp only [go_sem]) ⟨rfl, rfl, rfl⟩, ?_⟩
            (try dsimp only); (try simp only [go_sem])
            cases h136
            (try simp only [go_sem, h139, h141, hg137])
            refine IsK.go (by assumption) ?_
            exact (Upd.sub (show 1 ≤ 1 by decide) (by simp [go_sem, envSub, Env.get, g3_bk1, g3_bk2] <;> ((try simp only [decide_eq_true_eq, decide_eq_false_iff_not] at hg137); omega)) (by simp [go_sem, heapSub, Heap.get, belowO] <;> ((try simp only [decide_eq_true_eq, decide_eq_false_iff_not] at hg137); omega)))
          · simp only [hg137, gbS] at h136
            cases h136
            (try simp only [go_sem, hg137])
            refine IsK.go (by assumption) ?_
            exact (Upd.sub (show 1 ≤ 1 by decide) (by simp [go_sem, envSub, Env.get, g3_bk1, g3_bk2] <;> ((try simp only [decide_eq_true_eq, decide_eq_false_iff_not] at hg137); omega)) (by simp [go_sem, heapSub, Heap.get, belowO] <;> ((try simp only [decide_eq_true_eq, decide_eq_false_iff_not] at hg137); omega)))
        refine aw_cond rfl (fun hc => ?_) (fun hc => ?_)
        · replace hF := if_t hc hF
          refine aw_skip ?_
          (repeat (refine IsQ.go (by assumption) ?_; (try dsimp only); (try simp only [reduceCtorEq, E0])))
          refine aw_seqH fun Q hQ => ?_
          refine aw_blockH fun Q hQ => ?_
          obtain ⟨x144, h145, hF⟩ := bind_some hF
          replace h145 := idx_map T_api_Window.c h145; (try simp only [go_sem] at h145)
          obtain ⟨x146, h147, hF⟩ := bind_some hF
          replace h147 := idx_map T_api_Window.c h147; (try simp only [go_sem] at h147)
          obtain ⟨x148, h149, hF⟩ := bind_some hF
          replace h149 := idx_map T_api_Window.c h149; (try simp only [go_sem, List.map_set] at h149)
          refine aw_d ?_
          refine vD_cut 9 fun K hK => ?_
          (try simp only [go_sem, h145])
          refine IsK.go (by assumption) ?_
          (try simp only [go_sem, h145, h147, h149])
          (repeat (refine IsQ.go (by assumption) ?_; (try dsimp only); (try simp only [reduceCtorEq, E0])))
          refine aw_region ?_
          (try simp only [go_sem])
          (repeat (refine IsQ.go (by assumption) ?_; (try dsimp only); (try simp only [reduceCtorEq, E0])))
          cases hF
          exact ⟨_, rfl, (Upd.sub (show 1 ≤ 1 by decide) (by simp [go_sem, envSub, Env.get, g3_bk1, g3_bk2]) (by simp [go_sem, heapSub, Heap.get, belowO]))⟩
        · replace hF := if_f hc hF
          refine aw_exit ?_
          (repeat (refine IsQ.go (by assumption) ?_; (try dsimp only); (try simp only [E0])))
          cases hF
          exact ⟨_, hb128 _ rfl, (Upd.sub (show 1 ≤ 1 by decide) (by simp [go_sem, envSub, Env.get, g3_bk1, g3_bk2]) (by simp [go_sem, heapSub, Heap.get, belowO]))⟩
      rintro l127 hF
      (try dsimp only at hF ⊢)
      (repeat (refine IsQ.go (by assumption) ?_; (try dsimp only); (try simp only [reduceCtorEq, E0])))
      refine aw_region ?_
      (try simp only [go_sem])
      (repeat (refine IsQ.go (by assumption) ?_; (try dsimp only); (try simp only [reduceCtorEq, E0])))
      cases hF
      exact ⟨_, rfl, (Upd.sub (show 1 ≤ 1 by decide) (by simp [go_sem, envSub, Env.get, g3_bk1, g3_bk2]) (by simp [go_sem, heapSub, Heap.get, belowO]))⟩
    · replace hF := if_f hc hF
      refine aw_exit ?_
      (repeat (refine IsQ.go (by assumption) ?_; (try dsimp only); (try simp only [E0])))
      cases hF
      exact ⟨_, hb96 _ rfl, (Upd.sub (show 1 ≤ 1 by decide) (by simp [go_sem, envSub]) (by simp [go_sem, heapSub, Heap.get, belowO]))⟩
  rintro l95 hF
  (try dsimp only at hF ⊢)
  (repeat (refine IsQ.go (by assumption) ?_; (try dsimp only); (try simp only [reduceCtorEq, E0])))
  cases hF
  first | (simp only [go_sem]; done) | simp only [go_sem, g3_bk1, g3_bk2]
theorem slices_swapRangeCmpFunc_Window_ok {v0 : List T_api_Window} {v1 : Int} {v2 : Int} {v3 : Int} {g4_f : FuncId} {g4_a g4_c : List AV} {g4 : T_api_Window → T_api_Window → Option Int} (g4_en : enters Try.prog g4_f = true) (g4_bl : belowL 0 g4_a ∧ belowL 0 g4_c) (g4_ok : ∀ x0 x1 y0, g4 x0 x1 = some y0 → APure Try.prog g4_f (g4_a ++ [.p (.agg [vs x0.Advisory.b, vs x0.Component.b, vi x0.Severity, vi x0.From, vi x0.To, vb x0.Open]), .p (.agg [vs x1.Advisory.b, vs x1.Component.b, vi x1.Severity, vi x1.From, vi x1.To, vb x1.Open])] ++ g4_c) (.p (vi y0))) {rows} (hF : slices_swapRangeCmpFunc_Window v0 v1 v2 v3 g4 = some rows) : AMut Try.prog 185 [.os 0 0 v0.length, .p (vi v1), .p (vi v2), .p (vi v3), .fn (.func g4_f) g4_a g4_c] (v0.map T_api_Window.c) (.tup []) (rows.map T_api_Window.c) := by
  refine amut rc185_ok (by rfl) ?_
  simp only [rc185, argEnv, Nat.reduceAdd]
  unfold slices_swapRangeCmpFunc_Window at hF
  obtain ⟨g4_bk1, g4_bk2⟩ := below_all g4_bl
  refine aw_srH fun K hK => ?_
  (try simp only [go_sem])
  refine IsK.go (by assumption) ?_
  refine aw_joinX hF (fun (l15 : (List T_api_Window)) => ⟨[], [(0, .slice (l15.map T_api_Window.c))], 1⟩) ?_ ?_
  · intro y16 hF hj16 Q hQ
    refine aw_blockH fun Q hQ => ?_
    refine aw_loopK hF (fun ((n7, l8) : Int × (List T_api_Window)) => ⟨[(0, .os 0 0 l8.length), (1, .p (vi v1)), (2, .p (vi v2)), (3, .p (vi v3)), (10, .p (vi n7))], [(0, .slice (l8.map T_api_Window.c))], 1⟩) (Upd.sub (show 1 ≤ 1 by decide) (by simp [go_sem, envSub, Env.get]) (by simp [go_sem, heapSub, Heap.get, belowO])) ?_
    rintro ⟨n7, l8⟩ z16 hF hb16 hr16 Q hQ
    (try dsimp only at hF ⊢)
    refine aw_seqH fun Q hQ => ?_
    refine aw_srH fun K hK => ?_
    (try simp only [go_sem])
    refine IsK.go (by assumption) ?_
    refine aw_cond rfl (fun hc => ?_) (fun hc => ?_)
    · replace hF := if_t hc hF
      refine aw_skip ?_
      (repeat (refine IsQ.go (by assumption) ?_; (try dsimp only); (try simp only [reduceCtorEq, E0])))
      refine aw_seqH fun Q hQ => ?_
      refine aw_blockH fun Q hQ => ?_
      obtain ⟨x17, h18, hF⟩ := bind_some hF
      replace h18 := idx_map T_api_Window.c h18; (try simp only [go_sem] at h18)
      obtain ⟨x19, h20, hF⟩ := bind_some hF
      replace h20 := idx_map T_api_Window.c h20; (try simp only [go_sem] at h20)
      obtain ⟨x21, h22, hF⟩ := bind_some hF
      replace h22 := idx_map T_api_Window.c h22; (try simp only [go_sem, List.map_set] at h22)
      refine aw_d ?_
      refine vD_cut 8 fun K hK => ?_
      (try simp only [go_sem])
      refine IsK.go (by assumption) ?_
      refine vD_cut 8 fun K hK => ?_
      (try simp only [go_sem, h18])
      refine IsK.go (by assumption) ?_
      (try simp only [go_sem, h18, h20, h22])
      (repeat (refine IsQ.go (by assumption) ?_; (try dsimp only); (try simp only [reduceCtorEq, E0])))
      refine aw_region ?_
      (try simp only [go_sem])
      (repeat (refine IsQ.go (by assumption) ?_; (try dsimp only); (try simp only [reduceCtorEq, E0])))
      cases hF
      exact ⟨_, rfl, (Upd.sub (show 1 ≤ 1 by decide) (by simp [go_sem, envSub, Env.get]) (by simp [go_sem, heapSub, Heap.get, belowO]))⟩
    · replace hF := if_f hc hF
      refine aw_exit ?_
      (repeat (refine IsQ.go (by assumption) ?_; (try dsimp only); (try simp only [E0])))
      cases hF
      exact ⟨_, hb16 _ rfl, (Upd.sub (show 1 ≤ 1 by decide) (by simp [go_sem, envSub]) (by simp [go_sem, heapSub, Heap.get, belowO]))⟩
  rintro l15 hF
  (try dsimp only at hF ⊢)
  (repeat (refine IsQ.go (by assumption) ?_; (try dsimp only); (try simp only [reduceCtorEq, E0])))
  cases hF
  first | (simp only [go_sem]; done) | simp only [go_sem, g4_bk1, g4_bk2]
theorem slices_rotateCmpFunc_Window_ok {v0 : List T_api_Window} {v1 : Int} {v2 : Int} {v3 : Int} {g4_f : FuncId} {g4_a g4_c : List AV} {g4 : T_api_Window → T_api_Window → Option Int} (g4_en : enters Try.prog g4_f = true) (g4_bl : belowL 0 g4_a ∧ belowL 0 g4_c) (g4_ok : ∀ x0 x1 y0, g4 x0 x1 = some y0 → APure Try.prog g4_f (g4_a ++ [.p (.agg [vs x0.Advisory.b, vs x0.Component.b, vi x0.Severity, vi x0.From, vi x0.To, vb x0.Open]), .p (.agg [vs x1.Advisory.b, vs x1.Component.b, vi x1.Severity, vi x1.From, vi x1.To, vb x1.Open])] ++ g4_c) (.p (vi y0))) {rows} (hF : slices_rotateCmpFunc_Window v0 v1 v2 v3 g4 = some rows) : AMut Try.prog 181 [.os 0 0 v0.length, .p (vi v1), .p (vi v2), .p (vi v3), .fn (.func g4_f) g4_a g4_c] (v0.map T_api_Window.c) (.tup []) (rows.map T_api_Window.c) := by
  refine amut rc181_ok (by rfl) ?_
  simp only [rc181, argEnv, Nat.reduceAdd]
  unfold slices_rotateCmpFunc_Window at hF
  obtain ⟨g4_bk1, g4_bk2⟩ := below_all g4_bl
  refine aw_srH fun K hK => ?_
  (try simp only [go_sem])
  refine IsK.go (by assumption) ?_
  refine aw_srH fun K hK => ?_
  (try simp only [go_sem])
  refine IsK.go (by assumption) ?_
  refine aw_seqH fun Q hQ => ?_
  refine aw_joinX hF (fun ((n16, l17) : Int × (List T_api_Window)) => ⟨[(0, .os 0 0 l17.length), (2, .p (vi v2)), (4, .fn (.func g4_f) g4_a g4_c), (10, .p (vi n16))], [(0, .slice (l17.map T_api_Window.c))], 1⟩) ?_ ?_
  · intro y18 hF hj18 Q hQ
    refine aw_blockH fun Q hQ => ?_
    refine aw_loopK hF (fun ((n7, n8, l9) : Int × Int × (List T_api_Window)) => ⟨[(0, .os 0 0 l9.length), (2, .p (vi v2)), (4, .fn (.func g4_f) g4_a g4_c), (10, .p (vi n7)), (11, .p (vi n8))], [(0, .slice (l9.map T_api_Window.c))], 1⟩) (Upd.sub (show 1 ≤ 1 by decide) (by simp [go_sem, envSub, Env.get, g4_bk1, g4_bk2]) (by simp [go_sem, heapSub, Heap.get, belowO])) ?_
    rintro ⟨n7, n8, l9⟩ z18 hF hb18 hr18 Q hQ
    (try dsimp only at hF ⊢)
    refine aw_seqH fun Q hQ => ?_
    refine aw_srH fun K hK => ?_
    (try simp only [go_sem])
    refine IsK.go (by assumption) ?_
    refine aw_cond rfl (fun hc => ?_) (fun hc => ?_)
    · replace hF := if_t hc hF
      refine aw_skip ?_
      (repeat (refine IsQ.go (by assumption) ?_; (try dsimp only); (try simp only [reduceCtorEq, E0])))
      refine aw_blockH fun Q hQ => ?_
      refine aw_srH fun K hK => ?_
      (try simp only [go_sem])
      refine IsK.go (by assumption) ?_
      refine aw_cond rfl (fun hc => ?_) (fun hc => ?_)
      · replace hF := if_t hc hF
        obtain ⟨l19, h20, hF⟩ := bind_some hF
        obtain ⟨⟨⟩, h21, hF⟩ := bind_some hF
        replace h21 := chk_len h21
        (try simp only [List.length_set] at h21)
        refine aw_srH fun K hK => ?_
        (try simp only [go_sem])
        refine call_own (slices_swapRangeCmpFunc_Window_ok g4_en g4_bl g4_ok h20) 0 (by simp only [go_sem]) (by simp only [go_sem]; (try rfl)) (by simp only [go_sem, g4_bk1, g4_bk2]; (try trivial)) (by simp only [go_sem]; (try trivial)) ?_
        (try dsimp only); (try simp only [go_sem])
        refine IsK.go (by assumption) ?_
        refine aw_region ?_
        (try simp only [go_sem])
        (repeat (refine IsQ.go (by assumption) ?_; (try dsimp only); (try simp only [reduceCtorEq, E0])))
        cases hF
        exact ⟨_, rfl, (Upd.sub (show 1 ≤ 1 by decide) (by simp [go_sem, envSub, Env.get, g4_bk1, g4_bk2, h21]) (by simp [go_sem, heapSub, Heap.get, belowO]))⟩
      · replace hF := if_f hc hF
        obtain ⟨l22, h23, hF⟩ := bind_some hF
        obtain ⟨⟨⟩, h24, hF⟩ := bind_some hF
        replace h24 := chk_len h24
        (try simp only [List.length_set] at h24)
        refine aw_srH fun K hK => ?_
        (try simp only [go_sem])
        refine call_own (slices_swapRangeCmpFunc_Window_ok g4_en g4_bl g4_ok h23) 0 (by simp only [go_sem]) (by simp only [go_sem]; (try rfl)) (by simp only [go_sem, g4_bk1, g4_bk2]; (try trivial)) (by simp only [go_sem]; (try trivial)) ?_
        (try dsimp only); (try simp only [go_sem])
        refine IsK.go (by assumption) ?_
        refine aw_region ?_
        (try simp only [go_sem])
        (repeat (refine IsQ.go (by assumption) ?_; (try dsimp only); (try simp only [reduceCtorEq, E0])))
        cases hF
        exact ⟨_, rfl, (Upd.sub (show 1 ≤ 1 by decide) (by simp [go_sem, envSub, Env.get, g4_bk1, g4_bk2, h24]) (by simp [go_sem, heapSub, Heap.get, belowO]))⟩
    · replace hF := if_f hc hF
      refine aw_exit ?_
      (repeat (refine IsQ.go (by assumption) ?_; (try dsimp only); (try simp only [E0])))
      cases hF
      exact ⟨_, hb18 _ rfl, (Upd.sub (show 1 ≤ 1 by decide) (by simp [go_sem, envSub, Env.get, g4_bk1, g4_bk2]) (by simp [go_sem, heapSub, Heap.get, belowO]))⟩
  rintro ⟨n16, l17⟩ hF
  (try dsimp only at hF ⊢)
  (repeat (refine IsQ.go (by assumption) ?_; (try dsimp only); (try simp only [reduceCtorEq, E0])))
  obtain ⟨l25, h26, hF⟩ := bind_some hF
  obtain ⟨⟨⟩, h27, hF⟩ := bind_some hF
  replace h27 := chk_len h27
  (try simp only [List.length_set] at h27)
  refine aw_region ?_
  (try simp only [go_sem])
  refine call_own (slices_swapRangeCmpFunc_Window_ok g4_en g4_bl g4_ok h26) 0 (by simp only [go_sem]) (by simp only [go_sem]; (try rfl)) (by simp only [go_sem, g4_bk1, g4_bk2]; (try trivial)) (by simp only [go_sem]; (try trivial)) ?_
  (try dsimp only); (try simp only [go_sem])
  (repeat (refine IsQ.go (by assumption) ?_; (try dsimp only); (try simp only [reduceCtorEq, E0])))
  cases hF
  first | (simp only [go_sem]; done) | simp only [go_sem, g4_bk1, g4_bk2, h27]
theorem slices_symMergeCmpFunc_Window_ok {fuel : Nat} {v0 : List T_api_Window} {v1 : Int} {v2 : Int} {v3 : Int} {g4_f : FuncId} {g4_a g4_c : List AV} {g4 : T_api_Window → T_api_Window → Option Int} (g4_en : enters Try.prog g4_f = true) (g4_bl : belowL 0 g4_a ∧ belowL 0 g4_c) (g4_ok : ∀ x0 x1 y0, g4 x0 x1 = some y0 → APure Try.prog g4_f (g4_a ++ [.p (.agg [vs x0.Advisory.b, vs x0.Component.b, vi x0.Severity, vi x0.From, vi x0.To, vb x0.Open]), .p (.agg [vs x1.Advisory.b, vs x1.Component.b, vi x1.Severity, vi x1.From, vi x1.To, vb x1.Open])] ++ g4_c) (.p (vi y0))) {rows} (hF : slices_symMergeCmpFunc_Window fuel v0 v1 v2 v3 g4 = some rows) : AMut Try.prog 172 [.os 0 0 v0.length, .p (vi v1), .p (vi v2), .p (vi v3), .fn (.func g4_f) g4_a g4_c] (v0.map T_api_Window.c) (.tup []) (rows.map T_api_Window.c) := by
  induction fuel generalizing v0 v1 v2 v3 rows with
  | zero => unfold slices_symMergeCmpFunc_Window at hF; cases hF
  | succ fuel ih =>
  refine amut rc172_ok (by rfl) ?_
  simp only [rc172, argEnv, Nat.reduceAdd]
  unfold slices_symMergeCmpFunc_Window at hF
  obtain ⟨g4_bk1, g4_bk2⟩ := below_all g4_bl
  refine aw_seqH fun Q hQ => ?_
  refine aw_srH fun K hK => ?_
  (try simp only [go_sem])
  refine IsK.go (by assumption) ?_
  refine aw_cond rfl (fun hc => ?_) (fun hc => ?_)
  · replace hF := if_t hc hF
    refine aw_srH fun K hK => ?_
    (try simp only [go_sem])
    refine IsK.go (by assumption) ?_
    refine aw_srH fun K hK => ?_
    (try simp only [go_sem])
    refine IsK.go (by assumption) ?_
    refine aw_seqH fun Q hQ => ?_
    refine aw_joinX hF (fun (n21 : Int) => ⟨[(0, .os 0 0 v0.length), (1, .p (vi v1)), (10, .p (vi n21))], [(0, .slice (v0.map T_api_Window.c))], 1⟩) ?_ ?_
    · intro y22 hF hj22 Q hQ
      refine aw_blockH fun Q hQ => ?_
      refine aw_loopK hF (fun ((n10, n11) : Int × Int) => ⟨[(0, .os 0 0 v0.length), (1, .p (vi v1)), (4, .fn (.func g4_f) g4_a g4_c), (10, .p (vi n10)), (11, .p (vi n11))], [(0, .slice (v0.map T_api_Window.c))], 1⟩) (Upd.sub (show 1 ≤ 1 by decide) (by simp [go_sem, envSub, Env.get, g4_bk1, g4_bk2]) (by simp [go_sem, heapSub, Heap.get, belowO])) ?_
      rintro ⟨n10, n11⟩ z22 hF hb22 hr22 Q hQ
      (try dsimp only at hF ⊢)
      refine aw_seqH fun Q hQ => ?_
      refine aw_srH fun K hK => ?_
      (try simp only [go_sem])
      refine IsK.go (by assumption) ?_
      refine aw_cond rfl (fun hc => ?_) (fun hc => ?_)
      · replace hF := if_t hc hF
        refine aw_skip ?_
        (repeat (refine IsQ.go (by assumption) ?_; (try dsimp only); (try simp only [reduceCtorEq, E0])))
        refine aw_blockH fun Q hQ => ?_
        have h23 : (0 ≤ (1 : Int)) = True := by decide
        have h24 : (2 : Int) ^ (Nat.min (1 : Int).toNat IntKind.u64.bits) = 2 := by decide
        have h25 : (2 : Int) ^ (Int.toNat 1).min 64 = 2 := by decide
        refine aw_srH fun K hK => ?_
        (try simp only [go_sem, h23, h25])
        refine IsK.go (by assumption) ?_
        obtain ⟨x26, h27, hF⟩ := bind_some hF
        replace h27 := idx_map T_api_Window.c h27; (try simp only [go_sem] at h27)
        obtain ⟨x28, h29, hF⟩ := bind_some hF
        replace h29 := idx_map T_api_Window.c h29; (try simp only [go_sem] at h29)
        obtain ⟨y30, h31, hF⟩ := bind_some hF
        refine aw_sdH fun K hK => ?_
        (try simp only [go_sem, h27, h29])
        refine ⟨g4_en, ?_⟩
        refine ⟨_, call_pure (g4_ok _ _ _ h31) rfl (by simp only [go_sem, g4_bk1, g4_bk2]) (by simp only [go_sem]) ⟨rfl, rfl, rfl⟩, ?_⟩
        (try dsimp only); (try simp only [go_sem])
        refine IsK.go (by assumption) ?_
        refine aw_cond rfl (fun hc => ?_) (fun hc => ?_)
        · replace hF := if_t hc hF
          refine aw_region ?_
          (try simp only [go_sem])
          (repeat (refine IsQ.go (by assumption) ?_; (try dsimp only); (try simp only [reduceCtorEq, E0])))
          cases hF
          exact ⟨_, rfl, (Upd.sub (show 1 ≤ 1 by decide) (by simp [go_sem, envSub, Env.get, g4_bk1, g4_bk2]) (by simp [go_sem, heapSub, Heap.get, belowO]))⟩
        · replace hF := if_f hc hF
          refine aw_region ?_
          (try simp only [go_sem])
          (repeat (refine IsQ.go (by assumption) ?_; (try dsimp only); (try simp only [reduceCtorEq, E0])))
          cases hF
          exact ⟨_, rfl, (Upd.sub (show 1 ≤ 1 by decide) (by simp [go_sem, envSub, Env.get, g4_bk1, g4_bk2]) (by simp [go_sem, heapSub, Heap.get, belowO]))⟩
      · replace hF := if_f hc hF
        refine aw_exit ?_
        (repeat (refine IsQ.go (by assumption) ?_; (try dsimp only); (try simp only [E0])))
        cases hF
        exact ⟨_, hb22 _ rfl, (Upd.sub (show 1 ≤ 1 by decide) (by simp [go_sem, envSub, Env.get]) (by simp [go_sem, heapSub, Heap.get, belowO]))⟩
    rintro n21 hF
    (try dsimp only at hF ⊢)
    (repeat (refine IsQ.go (by assumption) ?_; (try dsimp only); (try simp only [reduceCtorEq, E0])))
    refine aw_seqH fun Q hQ => ?_
    refine aw_srH fun K hK => ?_
    (try simp only [go_sem])
    refine IsK.go (by assumption) ?_
    refine aw_joinX hF (fun (l46 : (List T_api_Window)) => ⟨[], [(0, .slice (l46.map T_api_Window.c))], 1⟩) ?_ ?_
    · intro y47 hF hj47 Q hQ
      refine aw_blockH fun Q hQ => ?_
      refine aw_loopK hF (fun ((n38, l39) : Int × (List T_api_Window)) => ⟨[(0, .os 0 0 l39.length), (10, .p (vi n21)), (13, .p (vi n38))], [(0, .slice (l39.map T_api_Window.c))], 1⟩) (Upd.sub (show 1 ≤ 1 by decide) (by simp [go_sem, envSub, Env.get]) (by simp [go_sem, heapSub, Heap.get, belowO])) ?_
      rintro ⟨n38, l39⟩ z47 hF hb47 hr47 Q hQ
      (try dsimp only at hF ⊢)
      refine aw_seqH fun Q hQ => ?_
      refine aw_srH fun K hK => ?_
      (try simp only [go_sem])
      refine IsK.go (by assumption) ?_
      refine aw_cond rfl (fun hc => ?_) (fun hc => ?_)
      · replace hF := if_t hc hF
        refine aw_skip ?_
        (repeat (refine IsQ.go (by assumption) ?_; (try dsimp only); (try simp only [reduceCtorEq, E0])))
        refine aw_seqH fun Q hQ => ?_
        refine aw_blockH fun Q hQ => ?_
        obtain ⟨x48, h49, hF⟩ := bind_some hF
        replace h49 := idx_map T_api_Window.c h49; (try simp only [go_sem] at h49)
        obtain ⟨x50, h51, hF⟩ := bind_some hF
        replace h51 := idx_map T_api_Window.c h51; (try simp only [go_sem] at h51)
        obtain ⟨x52, h53, hF⟩ := bind_some hF
        replace h53 := idx_map T_api_Window.c h53; (try simp only [go_sem, List.map_set] at h53)
        refine aw_d ?_
        refine vD_cut 9 fun K hK => ?_
        (try simp only [go_sem, h49])
        refine IsK.go (by assumption) ?_
        (try simp only [go_sem, h49, h51, h53])
        (repeat (refine IsQ.go (by assumption) ?_; (try dsimp only); (try simp only [reduceCtorEq, E0])))
        refine aw_region ?_
        (try simp only [go_sem])
        (repeat (refine IsQ.go (by assumption) ?_; (try dsimp only); (try simp only [reduceCtorEq, E0])))
        cases hF
        exact ⟨_, rfl, (Upd.sub (show 1 ≤ 1 by decide) (by simp [go_sem, envSub, Env.get]) (by simp [go_sem, heapSub, Heap.get, belowO]))⟩
      · replace hF := if_f hc hF
        refine aw_exit ?_
        (repeat (refine IsQ.go (by assumption) ?_; (try dsimp only); (try simp only [E0])))
        cases hF
        exact ⟨_, hb47 _ rfl, (Upd.sub (show 1 ≤ 1 by decide) (by simp [go_sem, envSub]) (by simp [go_sem, heapSub, Heap.get, belowO]))⟩
    rintro l46 hF
    (try dsimp only at hF ⊢)
    (repeat (refine IsQ.go (by assumption) ?_; (try dsimp only); (try simp only [reduceCtorEq, E0])))
    refine aw_ret ?_
    (repeat (refine IsQ.go (by assumption) ?_; (try dsimp only); (try simp only [reduceCtorEq, E0])))
    cases hF
    first | (simp only [go_sem]; done) | simp only [go_sem, g4_bk1, g4_bk2]
  · replace hF := if_f hc hF
    refine aw_skip ?_
    (repeat (refine IsQ.go (by assumption) ?_; (try dsimp only); (try simp only [reduceCtorEq, E0])))
    refine aw_seqH fun Q hQ => ?_
    refine aw_srH fun K hK => ?_
    (try simp only [go_sem])
    refine IsK.go (by assumption) ?_
    refine aw_cond rfl (fun hc => ?_) (fun hc => ?_)
    · replace hF := if_t hc hF
      refine aw_srH fun K hK => ?_
      (try simp only [go_sem])
      refine IsK.go (by assumption) ?_
      refine aw_srH fun K hK => ?_
      (try simp only [go_sem])
      refine IsK.go (by assumption) ?_
      refine aw_seqH fun Q hQ => ?_
      refine aw_joinX hF (fun (n74 : Int) => ⟨[(0, .os 0 0 v0.length), (2, .p (vi v2)), (14, .p (vi n74))], [(0, .slice (v0.map T_api_Window.c))], 1⟩) ?_ ?_
      · intro y75 hF hj75 Q hQ
        refine aw_blockH fun Q hQ => ?_
        refine aw_loopK hF (fun ((n63, n64) : Int × Int) => ⟨[(0, .os 0 0 v0.length), (2, .p (vi v2)), (4, .fn (.func g4_f) g4_a g4_c), (14, .p (vi n63)), (15, .p (vi n64))], [(0, .slice (v0.map T_api_Window.c))], 1⟩) (Upd.sub (show 1 ≤ 1 by decide) (by simp [go_sem, envSub, Env.get, g4_bk1, g4_bk2]) (by simp [go_sem, heapSub, Heap.get, belowO])) ?_
        rintro ⟨n63, n64⟩ z75 hF hb75 hr75 Q hQ
        (try dsimp only at hF ⊢)
        refine aw_seqH fun Q hQ => ?_
        refine aw_srH fun K hK => ?_
        (try simp only [go_sem])
        refine IsK.go (by assumption) ?_
        refine aw_cond rfl (fun hc => ?_) (fun hc => ?_)
        · replace hF := if_t hc hF
          refine aw_skip ?_
          (repeat (refine IsQ.go (by assumption) ?_; (try dsimp only); (try simp only [reduceCtorEq, E0])))
          refine aw_blockH fun Q hQ => ?_
          have h76 : (0 ≤ (1 : Int)) = True := by decide
          have h77 : (2 : Int) ^ (Nat.min (1 : Int).toNat IntKind.u64.bits) = 2 := by decide
          have h78 : (2 : Int) ^ (Int.toNat 1).min 64 = 2 := by decide
          refine aw_srH fun K hK => ?_
          (try simp only [go_sem, h76, h78])
          refine IsK.go (by assumption) ?_
          obtain ⟨x79, h80, hF⟩ := bind_some hF
          replace h80 := idx_map T_api_Window.c h80; (try simp only [go_sem] at h80)
          obtain ⟨x81, h82, hF⟩ := bind_some hF
          replace h82 := idx_map T_api_Window.c h82; (try simp only [go_sem] at h82)
          obtain ⟨y83, h84, hF⟩ := bind_some hF
          refine aw_sdH fun K hK => ?_
          (try simp only [go_sem, h80, h82])
          refine ⟨g4_en, ?_⟩
          refine ⟨_, call_pure (g4_ok _ _ _ h84) rfl (by simp only [go_sem, g4_bk1, g4_bk2]) (by simp only [go_sem]) ⟨rfl, rfl, rfl⟩, ?_⟩
          (try dsimp only); (try simp only [go_sem])
          refine IsK.go (by assumption) ?_
          refine aw_cond rfl (fun hc => ?_) (fun hc => ?_)
          · replace hF := if_t hc hF
            refine aw_region ?_
            (try simp only [go_sem])
            (repeat (refine IsQ.go (by assumption) ?_; (try dsimp only); (try simp only [reduceCtorEq, E0])))
            cases hF
            exact ⟨_, rfl, (Upd.sub (show 1 ≤ 1 by decide) (by simp [go_sem, envSub, Env.get, g4_bk1, g4_bk2]) (by simp [go_sem, heapSub, Heap.get, belowO]))⟩
          · replace hF := if_f hc hF
            refine aw_region ?_
            (try simp only [go_sem])
            (repeat (refine IsQ.go (by assumption) ?_; (try dsimp only); (try simp only [reduceCtorEq, E0])))
            cases hF
            exact ⟨_, rfl, (Upd.sub (show 1 ≤ 1 by decide) (by simp [go_sem, envSub, Env.get, g4_bk1, g4_bk2]) (by simp [go_sem, heapSub, Heap.get, belowO]))⟩
        · replace hF := if_f hc hF
          refine aw_exit ?_
          (repeat (refine IsQ.go (by assumption) ?_; (try dsimp only); (try simp only [E0])))
          cases hF
          exact ⟨_, hb75 _ rfl, (Upd.sub (show 1 ≤ 1 by decide) (by simp [go_sem, envSub, Env.get]) (by simp [go_sem, heapSub, Heap.get, belowO]))⟩
      rintro n74 hF
      (try dsimp only at hF ⊢)
      (repeat (refine IsQ.go (by assumption) ?_; (try dsimp only); (try simp only [reduceCtorEq, E0])))
      refine aw_seqH fun Q hQ => ?_
      refine aw_srH fun K hK => ?_
      (try simp only [go_sem])
      refine IsK.go (by assumption) ?_
      refine aw_joinX hF (fun (l99 : (List T_api_Window)) => ⟨[], [(0, .slice (l99.map T_api_Window.c))], 1⟩) ?_ ?_
      · intro y100 hF hj100 Q hQ
        refine aw_blockH fun Q hQ => ?_
        refine aw_loopK hF (fun ((n91, l92) : Int × (List T_api_Window)) => ⟨[(0, .os 0 0 l92.length), (14, .p (vi n74)), (17, .p (vi n91))], [(0, .slice (l92.map T_api_Window.c))], 1⟩) (Upd.sub (show 1 ≤ 1 by decide) (by simp [go_sem, envSub, Env.get]) (by simp [go_sem, heapSub, Heap.get, belowO])) ?_
        rintro ⟨n91, l92⟩ z100 hF hb100 hr100 Q hQ
        (try dsimp only at hF ⊢)
        refine aw_seqH fun Q hQ => ?_
        refine aw_srH fun K hK => ?_
        (try simp only [go_sem])
        refine IsK.go (by assumption) ?_
        refine aw_cond rfl (fun hc => ?_) (fun hc => ?_)
        · replace hF := if_t hc hF
          refine aw_skip ?_
          (repeat (refine IsQ.go (by assumption) ?_; (try dsimp only); (try simp only [reduceCtorEq, E0])))
          refine aw_seqH fun Q hQ => ?_
          refine aw_blockH fun Q hQ => ?_
          obtain ⟨x101, h102, hF⟩ := bind_some hF
          replace h102 := idx_map T_api_Window.c h102; (try simp only [go_sem] at h102)
          obtain ⟨x103, h104, hF⟩ := bind_some hF
          replace h104 := idx_map T_api_Window.c h104; (try simp only [go_sem] at h104)
          obtain ⟨x105, h106, hF⟩ := bind_some hF
          replace h106 := idx_map T_api_Window.c h106; (try simp only [go_sem, List.map_set] at h106)
          refine aw_d ?_
          refine vD_cut 9 fun K hK => ?_
          (try simp only [go_sem, h102])
          refine IsK.go (by assumption) ?_
          (try simp only [go_sem, h102, h104, h106])
          (repeat (refine IsQ.go (by assumption) ?_; (try dsimp only); (try simp only [reduceCtorEq, E0])))
          refine aw_region ?_
          (try simp only [go_sem])
          (repeat (refine IsQ.go (by assumption) ?_; (try dsimp only); (try simp only [reduceCtorEq, E0])))
          cases hF
          exact ⟨_, rfl, (Upd.sub (show 1 ≤ 1 by decide) (by simp [go_sem, envSub, Env.get]) (by simp [go_sem, heapSub, Heap.get, belowO]))⟩
        · replace hF := if_f hc hF
          refine aw_exit ?_
          (repeat (refine IsQ.go (by assumption) ?_; (try dsimp only); (try simp only [E0])))
          cases hF
          exact ⟨_, hb100 _ rfl, (Upd.sub (show 1 ≤ 1 by decide) (by simp [go_sem, envSub]) (by simp [go_sem, heapSub, Heap.get, belowO]))⟩
      rintro l99 hF
      (try dsimp only at hF ⊢)
      (repeat (refine IsQ.go (by assumption) ?_; (try dsimp only); (try simp only [reduceCtorEq, E0])))
      refine aw_ret ?_
      (repeat (refine IsQ.go (by assumption) ?_; (try dsimp only); (try simp only [reduceCtorEq, E0])))
      cases hF
      first | (simp only [go_sem]; done) | simp only [go_sem, g4_bk1, g4_bk2]
    · replace hF := if_f hc hF
      refine aw_skip ?_
      (repeat (refine IsQ.go (by assumption) ?_; (try dsimp only); (try simp only [reduceCtorEq, E0])))
      have h107 : (0 ≤ (1 : Int)) = True := by decide
      have h108 : (2 : Int) ^ (Nat.min (1 : Int).toNat IntKind.u64.bits) = 2 := by decide
      have h109 : (2 : Int) ^ (Int.toNat 1).min 64 = 2 := by decide
      refine aw_srH fun K hK => ?_
      (try simp only [go_sem, h107, h109])
      refine IsK.go (by assumption) ?_
      refine aw_srH fun K hK => ?_
      (try simp only [go_sem])
      refine IsK.go (by assumption) ?_
      refine aw_srH fun K hK => ?_
      (try simp only [go_sem])
      refine IsK.go (by assumption) ?_
      refine aw_joinK hF (fun ((n110, n111) : Int × Int) => ⟨[(0, .os 0 0 v0.length), (1, .p (vi v1)), (2, .p (vi v2)), (3, .p (vi v3)), (4, .fn (.func g4_f) g4_a g4_c), (18, .p (vi (w64 (((IntKind.u64.wrap) (w64 (v1 + v3))).fdiv 2)))), (19, .p (vi (w64 ((w64 (((IntKind.u64.wrap) (w64 (v1 + v3))).fdiv 2)) + v2)))), (20, .p (vi n110)), (21, .p (vi n111))], [(0, .slice (v0.map T_api_Window.c))], 1⟩) ?_ ?_
      · intro z112 hF hr112 Q hQ
        refine aw_srH fun K hK => ?_
        (try simp only [go_sem])
        refine IsK.go (by assumption) ?_
        refine aw_cond rfl (fun hc => ?_) (fun hc => ?_)
        · replace hF := if_t hc hF
          refine aw_srH fun K hK => ?_
          (try simp only [go_sem])
          refine IsK.go (by assumption) ?_
          refine aw_region ?_
          (try simp only [go_sem])
          (repeat (refine IsQ.go (by assumption) ?_; (try dsimp only); (try simp only [reduceCtorEq, E0])))
          cases hF
          exact ⟨_, rfl, (Upd.sub (show 1 ≤ 1 by decide) (by simp [go_sem, envSub, Env.get, g4_bk1, g4_bk2]) (by simp [go_sem, heapSub, Heap.get, belowO]))⟩
        · replace hF := if_f hc hF
          refine aw_srH fun K hK => ?_
          (try simp only [go_sem])
          refine IsK.go (by assumption) ?_
          refine aw_region ?_
          (try simp only [go_sem])
          (repeat (refine IsQ.go (by assumption) ?_; (try dsimp only); (try simp only [reduceCtorEq, E0])))
          cases hF
          exact ⟨_, rfl, (Upd.sub (show 1 ≤ 1 by decide) (by simp [go_sem, envSub, Env.get, g4_bk1, g4_bk2]) (by simp [go_sem, heapSub, Heap.get, belowO]))⟩
      rintro ⟨n110, n111⟩ hF
      (try dsimp only at hF ⊢)
      refine aw_srH fun K hK => ?_
      (try simp only [go_sem])
      refine IsK.go (by assumption) ?_
      refine aw_seqH fun Q hQ => ?_
      refine aw_joinX hF (fun (n133 : Int) => ⟨[(0, .os 0 0 v0.length), (1, .p (vi v1)), (2, .p (vi v2)), (3, .p (vi v3)), (4, .fn (.func g4_f) g4_a g4_c), (18, .p (vi (w64 (((IntKind.u64.wrap) (w64 (v1 + v3))).fdiv 2)))), (19, .p (vi (w64 ((w64 (((IntKind.u64.wrap) (w64 (v1 + v3))).fdiv 2)) + v2)))), (20, .p (vi n133))], [(0, .slice (v0.map T_api_Window.c))], 1⟩) ?_ ?_
      · intro y134 hF hj134 Q hQ
        refine aw_blockH fun Q hQ => ?_
        refine aw_loopK hF (fun ((n122, n123) : Int × Int) => ⟨[(0, .os 0 0 v0.length), (1, .p (vi v1)), (2, .p (vi v2)), (3, .p (vi v3)), (4, .fn (.func g4_f) g4_a g4_c), (18, .p (vi (w64 (((IntKind.u64.wrap) (w64 (v1 + v3))).fdiv 2)))), (19, .p (vi (w64 ((w64 (((IntKind.u64.wrap) (w64 (v1 + v3))).fdiv 2)) + v2)))), (20, .p (vi n122)), (21, .p (vi n123)), (22, .p (vi (w64 ((w64 ((w64 (((IntKind.u64.wrap) (w64 (v1 + v3))).fdiv 2)) + v2)) - 1))))], [(0, .slice (v0.map T_api_Window.c))], 1⟩) (Upd.sub (show 1 ≤ 1 by decide) (by simp [go_sem, envSub, Env.get, g4_bk1, g4_bk2]) (by simp [go_sem, heapSub, Heap.get, belowO])) ?_
        rintro ⟨n122, n123⟩ z134 hF hb134 hr134 Q hQ
        (try dsimp only at hF ⊢)
        refine aw_seqH fun Q hQ => ?_
        refine aw_srH fun K hK => ?_
        (try simp only [go_sem])
        refine IsK.go (by assumption) ?_
        refine aw_cond rfl (fun hc => ?_) (fun hc => ?_)
        · replace hF := if_t hc hF
          refine aw_skip ?_
          (repeat (refine IsQ.go (by assumption) ?_; (try dsimp only); (try simp only [reduceCtorEq, E0])))
          refine aw_blockH fun Q hQ => ?_
          have h135 : (0 ≤ (1 : Int)) = True := by decide
          have h136 : (2 : Int) ^ (Nat.min (1 : Int).toNat IntKind.u64.bits) = 2 := by decide
          have h137 : (2 : Int) ^ (Int.toNat 1).min 64 = 2 := by decide
          refine aw_srH fun K hK => ?_
          (try simp only [go_sem, h135, h137])
          refine IsK.go (by assumption) ?_
          obtain ⟨x138, h139, hF⟩ := bind_some hF
          replace h139 := idx_map T_api_Window.c h139; (try simp only [go_sem] at h139)
          obtain ⟨x140, h141, hF⟩ := bind_some hF
          replace h141 := idx_map T_api_Window.c h141; (try simp only [go_sem] at h141)
          obtain ⟨y142, h143, hF⟩ := bind_some hF
          refine aw_sdH fun K hK => ?_
          (try simp only [go_sem, h139, h141])
          refine ⟨g4_en, ?_⟩
          refine ⟨_, call_pure (g4_ok _ _ _ h143) rfl (by simp only [go_sem, g4_bk1, g4_bk2]) (by simp only [go_sem]) ⟨rfl, rfl, rfl⟩, ?_⟩
          (try dsimp only); (try simp only [go_sem])
          refine IsK.go (by assumption) ?_
          refine aw_cond rfl (fun hc => ?_) (fun hc => ?_)
          · replace hF := if_t hc hF
            refine aw_region ?_
            (try simp only [go_sem])
            (repeat (refine IsQ.go (by assumption) ?_; (try dsimp only); (try simp only [reduceCtorEq, E0])))
            cases hF
            exact ⟨_, rfl, (Upd.sub (show 1 ≤ 1 by decide) (by simp [go_sem, envSub, Env.get, g4_bk1, g4_bk2]) (by simp [go_sem, heapSub, Heap.get, belowO]))⟩
          · replace hF := if_f hc hF
            refine aw_region ?_
            (try simp only [go_sem])
            (repeat (refine IsQ.go (by assumption) ?_; (try dsimp only); (try simp only [reduceCtorEq, E0])))
            cases hF
            exact ⟨_, rfl, (Upd.sub (show 1 ≤ 1 by decide) (by simp [go_sem, envSub, Env.get, g4_bk1, g4_bk2]) (by simp [go_sem, heapSub, Heap.get, belowO]))⟩
        · replace hF := if_f hc hF
          refine aw_exit ?_
          (repeat (refine IsQ.go (by assumption) ?_; (try dsimp only); (try simp only [E0])))
          cases hF
          exact ⟨_, hb134 _ rfl, (Upd.sub (show 1 ≤ 1 by decide) (by simp [go_sem, envSub, Env.get, g4_bk1, g4_bk2]) (by simp [go_sem, heapSub, Heap.get, belowO]))⟩
      rintro n133 hF
      (try dsimp only at hF ⊢)
      (repeat (refine IsQ.go (by assumption) ?_; (try dsimp only); (try simp only [reduceCtorEq, E0])))
      refine aw_srH fun K hK => ?_
      (try simp only [go_sem])
      refine IsK.go (by assumption) ?_
      refine aw_joinK hF (fun (l147 : (List T_api_Window)) => ⟨[(0, .os 0 0 l147.length), (1, .p (vi v1)), (3, .p (vi v3)), (4, .fn (.func g4_f) g4_a g4_c), (18, .p (vi (w64 (((IntKind.u64.wrap) (w64 (v1 + v3))).fdiv 2)))), (20, .p (vi n133)), (24, .p (vi (w64 ((w64 ((w64 (((IntKind.u64.wrap) (w64 (v1 + v3))).fdiv 2)) + v2)) - n133))))], [(0, .slice (l147.map T_api_Window.c))], 1⟩) ?_ ?_
      · intro z148 hF hr148 Q hQ
        refine aw_srJ ⟨[(0, .os 0 0 v0.length), (1, .p (vi v1)), (2, .p (vi v2)), (3, .p (vi v3)), (4, .fn (.func g4_f) g4_a g4_c), (18, .p (vi (w64 (((IntKind.u64.wrap) (w64 (v1 + v3))).fdiv 2)))), (20, .p (vi n133)), (24, .p (vi (w64 ((w64 ((w64 (((IntKind.u64.wrap) (w64 (v1 + v3))).fdiv 2)) + v2)) - n133)))), (185, .p (vb ((decide (n133 < v2)) && (decide (v2 < w64 ((w64 ((w64 (((IntKind.u64.wrap) (w64 (v1 + v3))).fdiv 2)) + v2)) - n133))))))], [(0, .slice (v0.map T_api_Window.c))], 1⟩ (fun K hK => ?_) ?_
        · (try simp only [go_sem])
          (try simp only [go_sem])
          refine vOps_split rfl ?_ ?_ <;> intro hg149 <;> (try simp only [hg149, go_sem])
          · (try simp only [go_sem, hg149])
            refine IsK.go (by assumption) ?_
            exact (Upd.sub (show 1 ≤ 1 by decide) (by simp [go_sem, envSub, Env.get, hg149, g4_bk1, g4_bk2] <;> ((try simp only [decide_eq_true_eq, decide_eq_false_iff_not] at hg149); omega)) (by simp [go_sem, heapSub, Heap.get, belowO] <;> ((try simp only [decide_eq_true_eq, decide_eq_false_iff_not] at hg149); omega)))
          · (try simp only [go_sem, hg149])
            refine IsK.go (by assumption) ?_
            exact (Upd.sub (show 1 ≤ 1 by decide) (by simp [go_sem, envSub, Env.get, hg149, g4_bk1, g4_bk2] <;> ((try simp only [decide_eq_true_eq, decide_eq_false_iff_not] at hg149); omega)) (by simp [go_sem, heapSub, Heap.get, belowO] <;> ((try simp only [decide_eq_true_eq, decide_eq_false_iff_not] at hg149); omega)))
        refine aw_cond rfl (fun hc => ?_) (fun hc => ?_)
        · replace hF := if_t hc hF
          obtain ⟨l150, h151, hF⟩ := bind_some hF
          obtain ⟨⟨⟩, h152, hF⟩ := bind_some hF
          replace h152 := chk_len h152
          (try simp only [List.length_set] at h152)
          refine aw_region ?_
          (try simp only [go_sem])
          refine call_own (slices_rotateCmpFunc_Window_ok g4_en g4_bl g4_ok h151) 0 (by simp only [go_sem]) (by simp only [go_sem]; (try rfl)) (by simp only [go_sem, g4_bk1, g4_bk2]; (try trivial)) (by simp only [go_sem]; (try trivial)) ?_
          (try dsimp only); (try simp only [go_sem])
          (repeat (refine IsQ.go (by assumption) ?_; (try dsimp only); (try simp only [reduceCtorEq, E0])))
          cases hF
          exact ⟨_, rfl, (Upd.sub (show 1 ≤ 1 by decide) (by simp [go_sem, envSub, Env.get, g4_bk1, g4_bk2, h152]) (by simp [go_sem, heapSub, Heap.get, belowO]))⟩
        · replace hF := if_f hc hF
          refine aw_skip ?_
          (repeat (refine IsQ.go (by assumption) ?_; (try dsimp only); (try simp only [reduceCtorEq, E0])))
          cases hF
          exact ⟨_, rfl, (Upd.sub (show 1 ≤ 1 by decide) (by simp [go_sem, envSub, Env.get, g4_bk1, g4_bk2]) (by simp [go_sem, heapSub, Heap.get, belowO]))⟩
      rintro l147 hF
      (try dsimp only at hF ⊢)
      refine aw_joinK hF (fun (l156 : (List T_api_Window)) => ⟨[(0, .os 0 0 l156.length), (3, .p (vi v3)), (4, .fn (.func g4_f) g4_a g4_c), (18, .p (vi (w64 (((IntKind.u64.wrap) (w64 (v1 + v3))).fdiv 2)))), (24, .p (vi (w64 ((w64 ((w64 (((IntKind.u64.wrap) (w64 (v1 + v3))).fdiv 2)) + v2)) - n133))))], [(0, .slice (l156.map T_api_Window.c))], 1⟩) ?_ ?_
      · intro z157 hF hr157 Q hQ
        refine aw_srJ ⟨[(0, .os 0 0 l147.length), (1, .p (vi v1)), (3, .p (vi v3)), (4, .fn (.func g4_f) g4_a g4_c), (18, .p (vi (w64 (((IntKind.u64.wrap) (w64 (v1 + v3))).fdiv 2)))), (20, .p (vi n133)), (24, .p (vi (w64 ((w64 ((w64 (((IntKind.u64.wrap) (w64 (v1 + v3))).fdiv 2)) + v2)) - n133)))), (199, .p (vb ((decide (v1 < n133)) && (decide (n133 < w64 (((IntKind.u64.wrap) (w64 (v1 + v3))).fdiv 2))))))], [(0, .slice (l147.map T_api_Window.c))], 1⟩ (fun K hK => ?_) ?_
        · (try simp only [go_sem])
          (try simp only [go_sem])
          refine vOps_split rfl ?_ ?_ <;> intro hg158 <;> (try simp only [hg158, go_sem])
          · (try simp only [go_sem, hg158])
            refine IsK.go (by assumption) ?_
            exact (Upd.sub (show 1 ≤ 1 by decide) (by simp [go_sem, envSub, Env.get, hg158, g4_bk1, g4_bk2] <;> ((try simp only [decide_eq_true_eq, decide_eq_false_iff_not] at hg158); omega)) (by simp [go_sem, heapSub, Heap.get, belowO] <;> ((try simp only [decide_eq_true_eq, decide_eq_false_iff_not] at hg158); omega)))
          · (try simp only [go_sem, hg158])
            refine IsK.go (by assumption) ?_
            exact (Upd.sub (show 1 ≤ 1 by decide) (by simp [go_sem, envSub, Env.get, hg158, g4_bk1, g4_bk2] <;> ((try simp only [decide_eq_true_eq, decide_eq_false_iff_not] at hg158); omega)) (by simp [go_sem, heapSub, Heap.get, belowO] <;> ((try simp only [decide_eq_true_eq, decide_eq_false_iff_not] at hg158); omega)))
        refine aw_cond rfl (fun hc => ?_) (fun hc => ?_)
        · replace hF := if_t hc hF
          obtain ⟨l159, h160, hF⟩ := bind_some hF
          obtain ⟨⟨⟩, h161, hF⟩ := bind_some hF
          replace h161 := chk_len h161
          (try simp only [List.length_set] at h161)
          refine aw_region ?_
          (try simp only [go_sem])
          refine call_own (ih h160) 0 (by simp only [go_sem]) (by simp only [go_sem]; (try rfl)) (by simp only [go_sem, g4_bk1, g4_bk2]; (try trivial)) (by simp only [go_sem]; (try trivial)) ?_
          (try dsimp only); (try simp only [go_sem])
          (repeat (refine IsQ.go (by assumption) ?_; (try dsimp only); (try simp only [reduceCtorEq, E0])))
          cases hF
          exact ⟨_, rfl, (Upd.sub (show 1 ≤ 1 by decide) (by simp [go_sem, envSub, Env.get, g4_bk1, g4_bk2, h161]) (by simp [go_sem, heapSub, Heap.get, belowO]))⟩
        · replace hF := if_f hc hF
          refine aw_skip ?_
          (repeat (refine IsQ.go (by assumption) ?_; (try dsimp only); (try simp only [reduceCtorEq, E0])))
          cases hF
          exact ⟨_, rfl, (Upd.sub (show 1 ≤ 1 by decide) (by simp [go_sem, envSub, Env.get, g4_bk1, g4_bk2]) (by simp [go_sem, heapSub, Heap.get, belowO]))⟩
      rintro l156 hF
      (try dsimp only at hF ⊢)
      refine aw_srJ ⟨[(0, .os 0 0 l156.length), (3, .p (vi v3)), (4, .fn (.func g4_f) g4_a g4_c), (18, .p (vi (w64 (((IntKind.u64.wrap) (w64 (v1 + v3))).fdiv 2)))), (24, .p (vi (w64 ((w64 ((w64 (((IntKind.u64.wrap) (w64 (v1 + v3))).fdiv 2)) + v2)) - n133)))), (213, .p (vb ((decide (w64 (((IntKind.u64.wrap) (w64 (v1 + v3))).fdiv 2) < w64 ((w64 ((w64 (((IntKind.u64.wrap) (w64 (v1 + v3))).fdiv 2)) + v2)) - n133))) && (decide (w64 ((w64 ((w64 (((IntKind.u64.wrap) (w64 (v1 + v3))).fdiv 2)) + v2)) - n133) < v3)))))], [(0, .slice (l156.map T_api_Window.c))], 1⟩ (fun K hK => ?_) ?_
      · (try simp only [go_sem])
        (try simp only [go_sem])
        refine vOps_split rfl ?_ ?_ <;> intro hg162 <;> (try simp only [hg162, go_sem])
        · (try simp only [go_sem, hg162])
          refine IsK.go (by assumption) ?_
          exact (Upd.sub (show 1 ≤ 1 by decide) (by simp [go_sem, envSub, Env.get, hg162, g4_bk1, g4_bk2] <;> ((try simp only [decide_eq_true_eq, decide_eq_false_iff_not] at hg162); omega)) (by simp [go_sem, heapSub, Heap.get, belowO] <;> ((try simp only [decide_eq_true_eq, decide_eq_false_iff_not] at hg162); omega)))
        · (try simp only [go_sem, hg162])
          refine IsK.go (by assumption) ?_
          exact (Upd.sub (show 1 ≤ 1 by decide) (by simp [go_sem, envSub, Env.get, hg162, g4_bk1, g4_bk2] <;> ((try simp only [decide_eq_true_eq, decide_eq_false_iff_not] at hg162); omega)) (by simp [go_sem, heapSub, Heap.get, belowO] <;> ((try simp only [decide_eq_true_eq, decide_eq_false_iff_not] at hg162); omega)))
      refine aw_cond rfl (fun hc => ?_) (fun hc => ?_)
      · replace hF := if_t hc hF
        obtain ⟨l163, h164, hF⟩ := bind_some hF
        obtain ⟨⟨⟩, h165, hF⟩ := bind_some hF
        replace h165 := chk_len h165
        (try simp only [List.length_set] at h165)
        refine aw_region ?_
        (try simp only [go_sem])
        refine call_own (ih h164) 0 (by simp only [go_sem]) (by simp only [go_sem]; (try rfl)) (by simp only [go_sem, g4_bk1, g4_bk2]; (try trivial)) (by simp only [go_sem]; (try trivial)) ?_
        (try dsimp only); (try simp only [go_sem])
        (repeat (refine IsQ.go (by assumption) ?_; (try dsimp only); (try simp only [reduceCtorEq, E0])))
        cases hF
        first | (simp only [go_sem]; done) | simp only [go_sem, g4_bk1, g4_bk2, h165]
      · replace hF := if_f hc hF
        refine aw_skip ?_
        (repeat (refine IsQ.go (by assumption) ?_; (try dsimp only); (try simp only [reduceCtorEq, E0])))
        cases hF
        first | (simp only [go_sem]; done) | simp only [go_sem, g4_bk1, g4_bk2]
theorem slices_stableCmpFunc_Window_ok {fuel : Nat} {v0 : List T_api_Window} {v1 : Int} {g2_f : FuncId} {g2_a g2_c : List AV} {g2 : T_api_Window → T_api_Window → Option Int} (g2_en : enters Try.prog g2_f = true) (g2_bl : belowL 0 g2_a ∧ belowL 0 g2_c) (g2_ok : ∀ x0 x1 y0, g2 x0 x1 = some y0 → APure Try.prog g2_f (g2_a ++ [.p (.agg [vs x0.Advisory.b, vs x0.Component.b, vi x0.Severity, vi x0.From, vi x0.To, vb x0.Open]), .p (.agg [vs x1.Advisory.b, vs x1.Component.b, vi x1.Severity, vi x1.From, vi x1.To, vb x1.Open])] ++ g2_c) (.p (vi y0))) {rows} (hF : slices_stableCmpFunc_Window fuel v0 v1 g2 = some rows) : AMut Try.prog 157 [.os 0 0 v0.length, .p (vi v1), .fn (.func g2_f) g2_a g2_c] (v0.map T_api_Window.c) (.tup []) (rows.map T_api_Window.c) := by
  refine amut rc157_ok (by rfl) ?_
  simp only [rc157, argEnv, Nat.reduceAdd]
  unfold slices_stableCmpFunc_Window at hF
  obtain ⟨g2_bk1, g2_bk2⟩ := below_all g2_bl
  refine aw_srH fun K hK => ?_
  (try simp only [go_sem])
  refine IsK.go (by assumption) ?_
  refine aw_srH fun K hK => ?_
  (try simp only [go_sem])
  refine IsK.go (by assumption) ?_
  refine aw_seqH fun Q hQ => ?_
  refine aw_joinX hF (fun ((n10, l11) : Int × (List T_api_Window)) => ⟨[(0, .os 0 0 l11.length), (1, .p (vi v1)), (2, .fn (.func g2_f) g2_a g2_c), (6, .p (vi 20)), (7, .p (vi n10))], [(0, .slice (l11.map T_api_Window.c))], 1⟩) ?_ ?_
  · intro y12 hF hj12 Q hQ
    refine aw_blockH fun Q hQ => ?_
    refine aw_loopK hF (fun ((n4, n5, l6) : Int × Int × (List T_api_Window)) => ⟨[(0, .os 0 0 l6.length), (1, .p (vi v1)), (2, .fn (.func g2_f) g2_a g2_c), (6, .p (vi 20)), (7, .p (vi n4)), (8, .p (vi n5))], [(0, .slice (l6.map T_api_Window.c))], 1⟩) (Upd.sub (show 1 ≤ 1 by decide) (by simp [go_sem, envSub, Env.get, g2_bk1, g2_bk2]) (by simp [go_sem, heapSub, Heap.get, belowO])) ?_
    rintro ⟨n4, n5, l6⟩ z12 hF hb12 hr12 Q hQ
    (try dsimp only at hF ⊢)
    refine aw_seqH fun Q hQ => ?_
    refine aw_srH fun K hK => ?_
    (try simp only [go_sem])
    refine IsK.go (by assumption) ?_
    refine aw_cond rfl (fun hc => ?_) (fun hc => ?_)
    · replace hF := if_t hc hF
      refine aw_skip ?_
      (repeat (refine IsQ.go (by assumption) ?_; (try dsimp only); (try simp only [reduceCtorEq, E0])))
      refine aw_blockH fun Q hQ => ?_
      obtain ⟨l13, h14, hF⟩ := bind_some hF
      obtain ⟨⟨⟩, h15, hF⟩ := bind_some hF
      replace h15 := chk_len h15
      (try simp only [List.length_set] at h15)
      refine aw_srH fun K hK => ?_
      (try simp only [go_sem])
      refine call_own (slices_insertionSortCmpFunc_Window_ok g2_en g2_bl g2_ok h14) 0 (by simp only [go_sem]) (by simp only [go_sem]; (try rfl)) (by simp only [go_sem, g2_bk1, g2_bk2]; (try trivial)) (by simp only [go_sem]; (try trivial)) ?_
      (try dsimp only); (try simp only [go_sem])
      refine IsK.go (by assumption) ?_
      refine aw_srH fun K hK => ?_
      (try simp only [go_sem])
      refine IsK.go (by assumption) ?_
      refine aw_region ?_
      (try simp only [go_sem])
      (repeat (refine IsQ.go (by assumption) ?_; (try dsimp only); (try simp only [reduceCtorEq, E0])))
      cases hF
      exact ⟨_, rfl, (Upd.sub (show 1 ≤ 1 by decide) (by simp [go_sem, envSub, Env.get, g2_bk1, g2_bk2, h15]) (by simp [go_sem, heapSub, Heap.get, belowO]))⟩
    · replace hF := if_f hc hF
      refine aw_exit ?_
      (repeat (refine IsQ.go (by assumption) ?_; (try dsimp only); (try simp only [E0])))
      cases hF
      exact ⟨_, hb12 _ rfl, (Upd.sub (show 1 ≤ 1 by decide) (by simp [go_sem, envSub, Env.get, g2_bk1, g2_bk2]) (by simp [go_sem, heapSub, Heap.get, belowO]))⟩
  rintro ⟨n10, l11⟩ hF
  (try dsimp only at hF ⊢)
  (repeat (refine IsQ.go (by assumption) ?_; (try dsimp only); (try simp only [reduceCtorEq, E0])))
  obtain ⟨l16, h17, hF⟩ := bind_some hF
  obtain ⟨⟨⟩, h18, hF⟩ := bind_some hF
  replace h18 := chk_len h18
  (try simp only [List.length_set] at h18)
  refine aw_srH fun K hK => ?_
  (try simp only [go_sem])
  refine call_own (slices_insertionSortCmpFunc_Window_ok g2_en g2_bl g2_ok h17) 0 (by simp only [go_sem]) (by simp only [go_sem]; (try rfl)) (by simp only [go_sem, g2_bk1, g2_bk2]; (try trivial)) (by simp only [go_sem]; (try trivial)) ?_
  (try dsimp only); (try simp only [go_sem])
  refine IsK.go (by assumption) ?_
  refine aw_joinX hF (fun (l57 : (List T_api_Window)) => ⟨[], [(0, .slice (l57.map T_api_Window.c))], 1⟩) ?_ ?_
  · intro y58 hF hj58 Q hQ
    refine aw_blockH fun Q hQ => ?_
    refine aw_loopK hF (fun ((n37, l38) : Int × (List T_api_Window)) => ⟨[(0, .os 0 0 l38.length), (1, .p (vi v1)), (2, .fn (.func g2_f) g2_a g2_c), (6, .p (vi n37))], [(0, .slice (l38.map T_api_Window.c))], 1⟩) (Upd.sub (show 1 ≤ 1 by decide) (by simp [go_sem, envSub, Env.get, g2_bk1, g2_bk2, h18]) (by simp [go_sem, heapSub, Heap.get, belowO])) ?_
    rintro ⟨n37, l38⟩ z58 hF hb58 hr58 Q hQ
    (try dsimp only at hF ⊢)
    refine aw_seqH fun Q hQ => ?_
    refine aw_srH fun K hK => ?_
    (try simp only [go_sem])
    refine IsK.go (by assumption) ?_
    refine aw_cond rfl (fun hc => ?_) (fun hc => ?_)
    · replace hF := if_t hc hF
      refine aw_skip ?_
      (repeat (refine IsQ.go (by assumption) ?_; (try dsimp only); (try simp only [reduceCtorEq, E0])))
      refine aw_blockH fun Q hQ => ?_
      refine aw_srH fun K hK => ?_
      (try simp only [go_sem])
      refine IsK.go (by assumption) ?_
      refine aw_seqH fun Q hQ => ?_
      refine aw_joinX hF (fun ((n68, l69) : Int × (List T_api_Window)) => ⟨[(0, .os 0 0 l69.length), (1, .p (vi v1)), (2, .fn (.func g2_f) g2_a g2_c), (6, .p (vi n37)), (7, .p (vi n68))], [(0, .slice (l69.map T_api_Window.c))], 1⟩) ?_ ?_
      · intro y70 hF hj70 Q hQ
        refine aw_blockH fun Q hQ => ?_
        refine aw_loopK hF (fun ((n62, n63, l64) : Int × Int × (List T_api_Window)) => ⟨[(0, .os 0 0 l64.length), (1, .p (vi v1)), (2, .fn (.func g2_f) g2_a g2_c), (6, .p (vi n37)), (7, .p (vi n62)), (8, .p (vi n63))], [(0, .slice (l64.map T_api_Window.c))], 1⟩) (Upd.sub (show 1 ≤ 1 by decide) (by simp [go_sem, envSub, Env.get, g2_bk1, g2_bk2]) (by simp [go_sem, heapSub, Heap.get, belowO])) ?_
        rintro ⟨n62, n63, l64⟩ z70 hF hb70 hr70 Q hQ
        (try dsimp only at hF ⊢)
        refine aw_seqH fun Q hQ => ?_
        refine aw_srH fun K hK => ?_
        (try simp only [go_sem])
        refine IsK.go (by assumption) ?_
        refine aw_cond rfl (fun hc => ?_) (fun hc => ?_)
        · replace hF := if_t hc hF
          refine aw_skip ?_
          (repeat (refine IsQ.go (by assumption) ?_; (try dsimp only); (try simp only [reduceCtorEq, E0])))
          refine aw_blockH fun Q hQ => ?_
          obtain ⟨l71, h72, hF⟩ := bind_some hF
          obtain ⟨⟨⟩, h73, hF⟩ := bind_some hF
          replace h73 := chk_len h73
          (try simp only [List.length_set] at h73)
          refine aw_srH fun K hK => ?_
          (try simp only [go_sem])
          refine call_own (slices_symMergeCmpFunc_Window_ok g2_en g2_bl g2_ok h72) 0 (by simp only [go_sem]) (by simp only [go_sem]; (try rfl)) (by simp only [go_sem, g2_bk1, g2_bk2]; (try trivial)) (by simp only [go_sem]; (try trivial)) ?_
          (try dsimp only); (try simp only [go_sem])
          refine IsK.go (by assumption) ?_
          refine aw_srH fun K hK => ?_
          (try simp only [go_sem])
          refine IsK.go (by assumption) ?_
          refine aw_region ?_
          (try simp only [go_sem])
          (repeat (refine IsQ.go (by assumption) ?_; (try dsimp only); (try simp only [reduceCtorEq, E0])))
          cases hF
          exact ⟨_, rfl, (Upd.sub (show 1 ≤ 1 by decide) (by simp [go_sem, envSub, Env.get, g2_bk1, g2_bk2, h73]) (by simp [go_sem, heapSub, Heap.get, belowO]))⟩
        · replace hF := if_f hc hF
          refine aw_exit ?_
          (repeat (refine IsQ.go (by assumption) ?_; (try dsimp only); (try simp only [E0])))
          cases hF
          exact ⟨_, hb70 _ rfl, (Upd.sub (show 1 ≤ 1 by decide) (by simp [go_sem, envSub, Env.get, g2_bk1, g2_bk2]) (by simp [go_sem, heapSub, Heap.get, belowO]))⟩
      rintro ⟨n68, l69⟩ hF
      (try dsimp only at hF ⊢)
      (repeat (refine IsQ.go (by assumption) ?_; (try dsimp only); (try simp only [reduceCtorEq, E0])))
      refine aw_seqH fun Q hQ => ?_
      refine aw_srH fun K hK => ?_
      (try simp only [go_sem])
      refine IsK.go (by assumption) ?_
      refine aw_srH fun K hK => ?_
      (try simp only [go_sem])
      refine IsK.go (by assumption) ?_
      refine aw_cond rfl (fun hc => ?_) (fun hc => ?_)
      · replace hF := if_t hc hF
        obtain ⟨l74, h75, hF⟩ := bind_some hF
        obtain ⟨⟨⟩, h76, hF⟩ := bind_some hF
        replace h76 := chk_len h76
        (try simp only [List.length_set] at h76)
        refine aw_region ?_
        (try simp only [go_sem])
        refine call_own (slices_symMergeCmpFunc_Window_ok g2_en g2_bl g2_ok h75) 0 (by simp only [go_sem]) (by simp only [go_sem]; (try rfl)) (by simp only [go_sem, g2_bk1, g2_bk2]; (try trivial)) (by simp only [go_sem]; (try trivial)) ?_
        (try dsimp only); (try simp only [go_sem])
        (repeat (refine IsQ.go (by assumption) ?_; (try dsimp only); (try simp only [reduceCtorEq, E0])))
        refine aw_region ?_
        (try simp only [go_sem])
        (repeat (refine IsQ.go (by assumption) ?_; (try dsimp only); (try simp only [reduceCtorEq, E0])))
        cases hF
        exact ⟨_, rfl, (Upd.sub (show 1 ≤ 1 by decide) (by simp [go_sem, envSub, Env.get, g2_bk1, g2_bk2, h76]) (by simp [go_sem, heapSub, Heap.get, belowO]))⟩
      · replace hF := if_f hc hF
        refine aw_skip ?_
        (repeat (refine IsQ.go (by assumption) ?_; (try dsimp only); (try simp only [reduceCtorEq, E0])))
        refine aw_region ?_
        (try simp only [go_sem])
        (repeat (refine IsQ.go (by assumption) ?_; (try dsimp only); (try simp only [reduceCtorEq, E0])))
        cases hF
        exact ⟨_, rfl, (Upd.sub (show 1 ≤ 1 by decide) (by simp [go_sem, envSub, Env.get, g2_bk1, g2_bk2]) (by simp [go_sem, heapSub, Heap.get, belowO]))⟩
    · replace hF := if_f hc hF
      refine aw_exit ?_
      (repeat (refine IsQ.go (by assumption) ?_; (try dsimp only); (try simp only [E0])))
      cases hF
      exact ⟨_, hb58 _ rfl, (Upd.sub (show 1 ≤ 1 by decide) (by simp [go_sem, envSub]) (by simp [go_sem, heapSub, Heap.get, belowO]))⟩
  rintro l57 hF
  (try dsimp only at hF ⊢)
  (repeat (refine IsQ.go (by assumption) ?_; (try dsimp only); (try simp only [reduceCtorEq, E0])))
  cases hF
  first | (simp only [go_sem]; done) | simp only [go_sem, g2_bk1, g2_bk2, h18]
theorem slices_SortStableFunc_Window_Window_ok {fuel : Nat} {v0 : List T_api_Window} {g1_f : FuncId} {g1_a g1_c : List AV} {g1 : T_api_Window → T_api_Window → Option Int} (g1_en : enters Try.prog g1_f = true) (g1_bl : belowL 0 g1_a ∧ belowL 0 g1_c) (g1_ok : ∀ x0 x1 y0, g1 x0 x1 = some y0 → APure Try.prog g1_f (g1_a ++ [.p (.agg [vs x0.Advisory.b, vs x0.Component.b, vi x0.Severity, vi x0.From, vi x0.To, vb x0.Open]), .p (.agg [vs x1.Advisory.b, vs x1.Component.b, vi x1.Severity, vi x1.From, vi x1.To, vb x1.Open])] ++ g1_c) (.p (vi y0))) {rows} (hF : slices_SortStableFunc_Window_Window fuel v0 g1 = some rows) : AMut Try.prog 149 [.os 0 0 v0.length, .fn (.func g1_f) g1_a g1_c] (v0.map T_api_Window.c) (.tup []) (rows.map T_api_Window.c) := by
  refine amut rc149_ok (by rfl) ?_
  simp only [rc149, argEnv, Nat.reduceAdd]
  unfold slices_SortStableFunc_Window_Window at hF
  obtain ⟨g1_bk1, g1_bk2⟩ := below_all g1_bl
  obtain ⟨l1, h2, hF⟩ := bind_some hF
  obtain ⟨⟨⟩, h3, hF⟩ := bind_some hF
  replace h3 := chk_len h3
  (try simp only [List.length_set] at h3)
  refine aw_region ?_
  (try simp only [go_sem])
  refine call_own (slices_stableCmpFunc_Window_ok g1_en g1_bl g1_ok h2) 0 (by simp only [go_sem]) (by simp only [go_sem]; (try rfl)) (by simp only [go_sem, g1_bk1, g1_bk2]; (try trivial)) (by simp only [go_sem]; (try trivial)) ?_
  (try dsimp only); (try simp only [go_sem])
  (repeat (refine IsQ.go (by assumption) ?_; (try dsimp only); (try simp only [reduceCtorEq, E0])))
  cases hF
  first | (simp only [go_sem]; done) | simp only [go_sem, g1_bk1, g1_bk2, h3]
theorem history_sortedBy_Window_ok {fuel : Nat} {v0 : List T_api_Window} {g1_f : FuncId} {g1_a g1_c : List AV} {g1 : T_api_Window → T_api_Window → Option Int} (g1_en : enters Try.prog g1_f = true) (g1_bl : belowL 0 g1_a ∧ belowL 0 g1_c) (g1_ok : ∀ x0 x1 y0, g1 x0 x1 = some y0 → APure Try.prog g1_f (g1_a ++ [.p (.agg [vs x0.Advisory.b, vs x0.Component.b, vi x0.Severity, vi x0.From, vi x0.To, vb x0.Open]), .p (.agg [vs x1.Advisory.b, vs x1.Component.b, vi x1.Severity, vi x1.From, vi x1.To, vb x1.Open])] ++ g1_c) (.p (vi y0))) {r0} (hF : history_sortedBy_Window fuel v0 g1 = some r0) : APure Try.prog 134 [.p (.sl (v0.map T_api_Window.c)), .fn (.func g1_f) g1_a g1_c] (.p (.sl (r0.map T_api_Window.c))) := by
  refine apureZ 2 rc134_ok rfl ?_
  simp only [rc134, argEnv, Nat.reduceAdd]
  unfold history_sortedBy_Window at hF
  obtain ⟨g1_bk1, g1_bk2⟩ := below_all g1_bl
  refine aw_srH fun K hK => ?_
  (try simp only [go_sem])
  refine IsK.go (by assumption) ?_
  obtain ⟨l1, h2, hF⟩ := bind_some hF
  refine aw_srH fun K hK => ?_
  (try simp only [go_sem])
  refine call_new (slices_Clone_Window_Window_own  h2) rfl (by simp only [go_sem]) ?_
  (try dsimp only); (try simp only [go_sem])
  refine IsK.go (by assumption) ?_
  obtain ⟨l3, h4, hF⟩ := bind_some hF
  obtain ⟨⟨⟩, h5, hF⟩ := bind_some hF
  replace h5 := chk_len h5
  (try simp only [List.length_set] at h5)
  refine aw_srH fun K hK => ?_
  (try simp only [go_sem])
  refine call_own (slices_SortStableFunc_Window_Window_ok g1_en g1_bl g1_ok h4) 0 (by simp only [go_sem]) (by simp only [go_sem]; (try rfl)) (by simp only [go_sem, g1_bk1, g1_bk2]; (try trivial)) (by simp only [go_sem]; (try trivial)) ?_
  (try dsimp only); (try simp only [go_sem])
  refine IsK.go (by assumption) ?_
  refine aw_srH fun K hK => ?_
  (try simp only [go_sem])
  refine IsK.go (by assumption) ?_
  refine aw_ret ?_
  (repeat (refine IsQ.go (by assumption) ?_; (try dsimp only); (try simp only [reduceCtorEq, E0])))
  cases hF
  first | (simp only [go_sem]; done) | simp only [go_sem, h5]
theorem cmp_isNaN_int_ok {v0 : Int} {r0} (hF : cmp_isNaN_int v0 = some r0) : APure Try.prog 140 [.p (vi v0)] (.p (vb r0)) := by
  refine apureZ 2 rc140_ok rfl ?_
  simp only [rc140, argEnv]
  unfold cmp_isNaN_int at hF
  refine aw_srH fun K hK => ?_
  (try simp only [go_sem])
  refine IsK.go (by assumption) ?_
  refine aw_srH fun K hK => ?_
  (try simp only [go_sem])
  refine IsK.go (by assumption) ?_
  refine aw_ret ?_
  (repeat (refine IsQ.go (by assumption) ?_; (try dsimp only); (try simp only [reduceCtorEq, E0])))
  cases hF
  simp only [go_sem]
theorem cmp_Compare_int_ok {v0 : Int} {v1 : Int} {r0} (hF : cmp_Compare_int v0 v1 = some r0) : APure Try.prog 118 [.p (vi v0), .p (vi v1)] (.p (vi r0)) := by
  refine apureZ 2 rc118_ok rfl ?_
  simp only [rc118, argEnv, Nat.reduceAdd]
  unfold cmp_Compare_int at hF
  refine aw_srH fun K hK => ?_
  (try simp only [go_sem])
  refine IsK.go (by assumption) ?_
  obtain ⟨y1, h2, hF⟩ := bind_some hF
  refine aw_srH fun K hK => ?_
  (try simp only [go_sem])
  refine call_pure (cmp_isNaN_int_ok h2) rfl (by simp only [go_sem]) (by simp only [go_sem]) ?_
  (try dsimp only); (try simp only [go_sem])
  refine IsK.go (by assumption) ?_
  obtain ⟨y3, h4, hF⟩ := bind_some hF
  refine aw_srH fun K hK => ?_
  (try simp only [go_sem])
  refine call_pure (cmp_isNaN_int_ok h4) rfl (by simp only [go_sem]) (by simp only [go_sem]) ?_
  (try dsimp only); (try simp only [go_sem])
  refine IsK.go (by assumption) ?_
  refine aw_seqH fun Q hQ => ?_
  refine aw_srH fun K hK => ?_
  (try simp only [go_sem])
  refine IsK.go (by assumption) ?_
  refine aw_cond rfl (fun hc => ?_) (fun hc => ?_)
  · replace hF := if_t hc hF
    refine aw_seqH fun Q hQ => ?_
    refine aw_srH fun K hK => ?_
    (try simp only [go_sem])
    refine IsK.go (by assumption) ?_
    refine aw_cond rfl (fun hc => ?_) (fun hc => ?_)
    · replace hF := if_t hc hF
      refine aw_srH fun K hK => ?_
      (try simp only [go_sem])
      refine IsK.go (by assumption) ?_
      refine aw_ret ?_
      (repeat (refine IsQ.go (by assumption) ?_; (try dsimp only); (try simp only [reduceCtorEq, E0])))
      cases hF
      simp only [go_sem]
    · replace hF := if_f hc hF
      refine aw_skip ?_
      (repeat (refine IsQ.go (by assumption) ?_; (try dsimp only); (try simp only [reduceCtorEq, E0])))
      refine aw_srH fun K hK => ?_
      (try simp only [go_sem])
      refine IsK.go (by assumption) ?_
      refine aw_ret ?_
      (repeat (refine IsQ.go (by assumption) ?_; (try dsimp only); (try simp only [reduceCtorEq, E0])))
      cases hF
      simp only [go_sem]
  · replace hF := if_f hc hF
    refine aw_skip ?_
    (repeat (refine IsQ.go (by assumption) ?_; (try dsimp only); (try simp only [reduceCtorEq, E0])))
    refine aw_seqH fun Q hQ => ?_
    refine aw_srH fun K hK => ?_
    (try simp only [go_sem])
    refine IsK.go (by assumption) ?_
    refine aw_cond rfl (fun hc => ?_) (fun hc => ?_)
    · replace hF := if_t hc hF
      refine aw_srH fun K hK => ?_
      (try simp only [go_sem])
      refine IsK.go (by assumption) ?_
      refine aw_ret ?_
      (repeat (refine IsQ.go (by assumption) ?_; (try dsimp only); (try simp only [reduceCtorEq, E0])))
      cases hF
      simp only [go_sem]
    · replace hF := if_f hc hF
      refine aw_skip ?_
      (repeat (refine IsQ.go (by assumption) ?_; (try dsimp only); (try simp only [reduceCtorEq, E0])))
      refine aw_seqH fun Q hQ => ?_
      refine aw_srH fun K hK => ?_
      (try simp only [go_sem])
      refine IsK.go (by assumption) ?_
      refine aw_cond rfl (fun hc => ?_) (fun hc => ?_)
      · replace hF := if_t hc hF
        refine aw_srH fun K hK => ?_
        (try simp only [go_sem])
        refine IsK.go (by assumption) ?_
        refine aw_ret ?_
        (repeat (refine IsQ.go (by assumption) ?_; (try dsimp only); (try simp only [reduceCtorEq, E0])))
        cases hF
        simp only [go_sem]
      · replace hF := if_f hc hF
        refine aw_skip ?_
        (repeat (refine IsQ.go (by assumption) ?_; (try dsimp only); (try simp only [reduceCtorEq, E0])))
        refine aw_seqH fun Q hQ => ?_
        refine aw_srH fun K hK => ?_
        (try simp only [go_sem])
        refine IsK.go (by assumption) ?_
        refine aw_cond rfl (fun hc => ?_) (fun hc => ?_)
        · replace hF := if_t hc hF
          refine aw_srH fun K hK => ?_
          (try simp only [go_sem])
          refine IsK.go (by assumption) ?_
          refine aw_ret ?_
          (repeat (refine IsQ.go (by assumption) ?_; (try dsimp only); (try simp only [reduceCtorEq, E0])))
          cases hF
          simp only [go_sem]
        · replace hF := if_f hc hF
          refine aw_skip ?_
          (repeat (refine IsQ.go (by assumption) ?_; (try dsimp only); (try simp only [reduceCtorEq, E0])))
          refine aw_srH fun K hK => ?_
          (try simp only [go_sem])
          refine IsK.go (by assumption) ?_
          refine aw_ret ?_
          (repeat (refine IsQ.go (by assumption) ?_; (try dsimp only); (try simp only [reduceCtorEq, E0])))
          cases hF
          simp only [go_sem]
end Go.Abs
