/- The walks of these functions against the plain ones (printed by a program of this repo). -/
import Derived.Test.YtjjhmldeammecaaGHka
namespace Go.Abs
open Go Go.Proofs
set_option maxRecDepth 8000
theorem history_OpenOn_ok {v0 : T_api_Story} {v1 : Int} {r0 r1} (hF : history_OpenOn v0 v1 = some (r0, r1)) : APure Try.prog 34 [.p (.agg [vs v0.Product.b, .sl (v0.Releases.map T_api_Release.c), .sl (v0.Known.map T_api_Published.c), vi v0.Until]), .p (vi v1)] (.tup [.p (.sl (r0.map T_api_Exposure.c)), .p (vi r1)]) := by
  refine apureZ 2 rc34_ok rfl ?_
  simp only [rc34, argEnv, Nat.reduceAdd]
  unfold history_OpenOn at hF
  refine aw_srH fun K hK => ?_
  (try simp only [go_sem])
  refine IsK.go (by assumption) ?_
  refine aw_seqH fun Q hQ => ?_
  obtain ⟨y1, h2, hF⟩ := bind_some hF
  refine aw_srH fun K hK => ?_
  (try simp only [go_sem])
  refine call_pure (history_Check_ok h2) rfl (by simp only [go_sem]) (by simp only [go_sem]) ?_
  (try dsimp only); (try simp only [go_sem])
  refine IsK.go (by assumption) ?_
  refine aw_srH fun K hK => ?_
  (try simp only [go_sem])
  refine IsK.go (by assumption) ?_
  refine aw_cond rfl (fun hc => ?_) (fun hc => ?_)
  · replace hF := if_t hc hF
    refine aw_srH fun K hK => ?_
    (try simp only [go_sem])
    refine IsK.go (by assumption) ?_
    refine aw_ret ?_
    (repeat (refine IsQ.go (by assumption) ?_; (try dsimp only); (try simp only [reduceCtorEq, E0])))
    cases hF
    simp only [go_sem]
  · replace hF := if_f hc hF
    refine aw_skip ?_
    (repeat (refine IsQ.go (by assumption) ?_; (try dsimp only); (try simp only [reduceCtorEq, E0])))
    refine aw_seqH fun Q hQ => ?_
    obtain ⟨y3, h4, hF⟩ := bind_some hF
    refine aw_srH fun K hK => ?_
    (try simp only [go_sem])
    refine call_pure (history_isDay_ok h4) rfl (by simp only [go_sem]) (by simp only [go_sem]) ?_
    (try dsimp only); (try simp only [go_sem])
    refine IsK.go (by assumption) ?_
    refine aw_cond rfl (fun hc => ?_) (fun hc => ?_)
    · replace hF := if_t hc hF
      refine aw_srH fun K hK => ?_
      (try simp only [go_sem])
      refine IsK.go (by assumption) ?_
      refine aw_ret ?_
      (repeat (refine IsQ.go (by assumption) ?_; (try dsimp only); (try simp only [reduceCtorEq, E0])))
      cases hF
      simp only [go_sem]
    · replace hF := if_f hc hF
      refine aw_skip ?_
      (repeat (refine IsQ.go (by assumption) ?_; (try dsimp only); (try simp only [reduceCtorEq, E0])))
      refine aw_srH fun K hK => ?_
      (try simp only [go_sem])
      refine IsK.go (by assumption) ?_
      refine aw_seqH fun Q hQ => ?_
      obtain ⟨y5, h6, hF⟩ := bind_some hF
      refine aw_srH fun K hK => ?_
      (try simp only [go_sem])
      refine call_pure (history_pieces_ok h6) rfl (by simp only [go_sem]) (by simp only [go_sem]) ?_
      (try dsimp only); (try simp only [go_sem])
      refine IsK.go (by assumption) ?_
      refine aw_upd (Upd.ownTmp _ 7 rfl) ?_; dsimp only
      refine aw_joinX hF (fun (l18 : (List T_api_Exposure)) => ⟨[(7, .os 1 0 l18.length)], [(1, .slice (l18.map T_api_Exposure.c))], 2⟩) ?_ ?_
      · intro y19 hF hj19 Q hQ
        refine aw_blockH fun Q hQ => ?_
        refine aw_fact 19 rfl (fun _ _ => sl_lim) fun hl9 => ?_; simp only [List.length_map, top] at hl9
        refine aw_forL hF (fun i7 l15 => ⟨[(1, .p (vi v1)), (7, .os 1 0 l15.length), (19, .p (.sl (y5.map T_history_piece.c))), (20, .p (vi (y5.length : Int))), (21, .p (vi (i7 : Int)))], [(1, .slice (l15.map T_api_Exposure.c))], 2⟩) (Upd.sub (show 2 ≤ 2 by decide) (by simp [go_sem, envSub, Env.get]) (by simp [go_sem, heapSub, Heap.get, belowO])) ?_ ?_
        · rintro l15 hy Q hQ
          (try dsimp only at hy ⊢)
          have hlt : decide (((y5.length : Int) : Int) < (y5.length : Int)) = false := by simp
          refine aw_srH fun K hK => ?_
          (try simp only [go_sem, hlt])
          refine IsK.go (by assumption) ?_
          refine aw_seqH fun Q hQ => ?_
          refine aw_cond rfl (fun hc => ?_) (fun hc => ?_)
          · cases hc
          refine aw_exit ?_
          (repeat (refine IsQ.go (by assumption) ?_; (try dsimp only); (try simp only [E0])))
          exact ⟨_, hy, (Upd.sub (show 2 ≤ 2 by decide) (by simp [go_sem, envSub, Env.get]) (by simp [go_sem, heapSub, Heap.get, belowO]))⟩
        · rintro i7 x10 l15 z19 hi hx hF hb19 hr19 Q hQ
          (try dsimp only at hF ⊢)
          have hlt : decide ((i7 : Int) < (y5.length : Int)) = true := by simp; omega
          have hw8 : IntKind.i64.wrap ((i7 : Int) + 1) = ((i7 + 1 : Nat) : Int) := by rw [wrap64 (by omega) (by omega)]; simp
          refine aw_srH fun K hK => ?_
          (try simp only [go_sem, hlt])
          refine IsK.go (by assumption) ?_
          refine aw_seqH fun Q hQ => ?_
          refine aw_cond rfl (fun hc => ?_) (fun hc => ?_)
          rotate_left; · cases hc
          refine aw_skip ?_
          (repeat (refine IsQ.go (by assumption) ?_; (try dsimp only); (try simp only [reduceCtorEq, E0])))
          refine aw_seqH fun Q hQ => ?_
          refine aw_blockH fun Q hQ => ?_
          refine aw_srH fun K hK => ?_
          (try simp only [go_sem, hx])
          refine IsK.go (by assumption) ?_
          refine aw_srJ ⟨[(1, .p (vi v1)), (7, .os 1 0 l15.length), (9, .bp 2 0), (19, .p (.sl (y5.map T_history_piece.c))), (20, .p (vi (y5.length : Int))), (21, .p (vi (i7 : Int))), (34, .p (vb ((decide (x10.from' ≤ v1)) && (decide (v1 < x10.to')))))], [(2, .cells [.p (vs x10.x.Advisory.b), .p (vs x10.x.Component.b), .p (vi x10.x.Severity), .p (vi x10.from'), .p (vi x10.to')]), (1, .slice (l15.map T_api_Exposure.c))], 3⟩ (fun K hK => ?_) ?_
          · (try simp only [go_sem])
            (try simp only [go_sem])
            refine vOps_split rfl ?_ ?_ <;> intro hg20 <;> (try simp only [hg20, go_sem])
            · (try simp only [go_sem, hg20])
              refine IsK.go (by assumption) ?_
              exact (Upd.sub (show 3 ≤ 3 by decide) (by simp [go_sem, envSub, Env.get, hg20]) (by simp [go_sem, heapSub, Heap.get, belowO]))
            · (try simp only [go_sem, hg20])
              refine IsK.go (by assumption) ?_
              exact (Upd.sub (show 3 ≤ 3 by decide) (by simp [go_sem, envSub, Env.get, hg20]) (by simp [go_sem, heapSub, Heap.get, belowO]))
          refine aw_cond rfl (fun hc => ?_) (fun hc => ?_)
          · replace hF := if_t hc hF
            obtain ⟨l21, h22, hF⟩ := bind_some hF
            obtain ⟨h22, h22v⟩ := app_some h22; (try simp only [go_sem] at h22)
            refine aw_region ?_
            (try simp only [go_sem, h22])
            (repeat (refine IsQ.go (by assumption) ?_; (try dsimp only); (try simp only [reduceCtorEq, E0])))
            refine aw_region ?_
            (try simp only [go_sem, hw8])
            (repeat (refine IsQ.go (by assumption) ?_; (try dsimp only); (try simp only [reduceCtorEq, E0])))
            cases hF
            exact ⟨_, rfl, (Upd.sub (show 2 ≤ 2 by decide) (by simp [go_sem, envSub, Env.get, h22v]) (by simp [go_sem, heapSub, Heap.get, belowO, h22v]))⟩
          · replace hF := if_f hc hF
            refine aw_skip ?_
            (repeat (refine IsQ.go (by assumption) ?_; (try dsimp only); (try simp only [reduceCtorEq, E0])))
            refine aw_region ?_
            (try simp only [go_sem, hw8])
            (repeat (refine IsQ.go (by assumption) ?_; (try dsimp only); (try simp only [reduceCtorEq, E0])))
            cases hF
            exact ⟨_, rfl, (Upd.sub (show 2 ≤ 2 by decide) (by simp [go_sem, envSub, Env.get]) (by simp [go_sem, heapSub, Heap.get, belowO]))⟩
      rintro l18 hF
      (try dsimp only at hF ⊢)
      (repeat (refine IsQ.go (by assumption) ?_; (try dsimp only); (try simp only [reduceCtorEq, E0])))
      refine aw_srH fun K hK => ?_
      (try simp only [go_sem])
      refine IsK.go (by assumption) ?_
      refine aw_ret ?_
      (repeat (refine IsQ.go (by assumption) ?_; (try dsimp only); (try simp only [reduceCtorEq, E0])))
      cases hF
      simp only [go_sem]
end Go.Abs
