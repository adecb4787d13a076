/-
  Walks of history and its reference: Add.
-/
import Derived.Test.YtjjhmldeammecaaW6
namespace Go.Abs
open Go Go.Proofs
set_option maxRecDepth 4000

def rAdd (fr hol : List Int) (d n : Int) : AV :=
  if calFault fr hol ≠ 0 then .tup [.p (vi 0), .p (vi (calFault fr hol))] else if ¬ ((0 ≤ d ∧ d ≤ 1000000) ∧ 0 ≤ n ∧ n ≤ 1000000) then .tup [.p (vi 0), .p (vi 9)]
  else if 1000000 < d + addK fr hol d n then .tup [.p (vi 0), .p (vi 3)] else .tup [.p (vi (d + addK fr hol d n)), .p (vi 0)]

/-- When it is not too late there are so many work days. -/
theorem addK_ok {fr hol : List Int} {d n : Int} (hd : 0 ≤ d) (h : d + (addK fr hol d n : Int) ≤ 1000000) : n ≤ (cw fr hol d (addK fr hol d n) : Int) := by
  obtain ⟨_, _, f3⟩ := first_spec (fun k => decide (n ≤ (cw fr hol d k : Int))) (1000001 - d).toNat
  rw [show first (fun k => decide (n ≤ (cw fr hol d k : Int))) (1000001 - d).toNat = addK fr hol d n from rfl] at f3
  have := f3 (by omega)
  simpa using this

theorem add77 {fr hol : List Int} (hcal : CalOk fr hol) (d n : Int) (hd : 0 ≤ d) (hd2 : d ≤ 1000000) (hn : 0 ≤ n) (hn2 : n ≤ 1000000) :
    APure Try.prog 77 [.p (wkP fr hol), .p (vi d), .p (vi n)] (.tup [.p (vi (d + addK fr hol d n)), .p (vb (decide (d + addK fr hol d n ≤ 1000000)))]) := by
  refine apure 1 rf77_ok rfl ?_
  simp only [rf77]
  (repeat (any_goals (first
    | ((first
        | refine aw_srH fun K hK => ?_
        | refine aw_sdH fun K hK => ?_
        | refine aw_region ?_
        | refine aw_d ?_); simp only [go_sem, all_flat, map_flat, bits_length, cells_take9, allP_flat]; (try (refine IsK.go (by assumption) ?_; clear hK)); (repeat (refine IsQ.go (by assumption) ?_; (try dsimp only); (try simp only [reduceCtorEq, E0]))))
    | (refine aw_ret ?_; (repeat (refine IsQ.go (by assumption) ?_; (try dsimp only); (try simp only [reduceCtorEq, E0]))); simp only [go_sem, all_flat, map_flat, bits_length, cells_take9, allP_flat])
    | (refine aw_seqH fun Q hQ => ?_)
    | (refine aw_blockH fun Q hQ => ?_)
    | (refine aw_skip ?_; (repeat (refine IsQ.go (by assumption) ?_; (try dsimp only); (try simp only [reduceCtorEq, E0]))))
    | (refine aw_exit ?_; (repeat (refine IsQ.go (by assumption) ?_; (try dsimp only); (try simp only [reduceCtorEq, E0]))))
    | (refine aw_cond rfl ?_ ?_ <;> intro hc <;> (try simp only [reduceCtorEq, HC0] at hc))
    | ((first
        | refine vOps_split rfl ?_ ?_
        | refine vD_split rfl ?_ ?_) <;> intro hg <;> simp only [hg, go_sem, all_flat, map_flat, bits_length, cells_take9, allP_flat] <;> (try simp only [reduceCtorEq, HC0] at hg) <;> (try (refine IsK.go (by assumption) ?_; clear hK)) <;> (repeat (refine IsQ.go (by assumption) ?_; (try dsimp only); (try simp only [reduceCtorEq, E0])))))))
  refine call_lent (count74 hcal d (by omega) (by omega)) 1 (by simp only [go_sem, frzL_flat, bits_length, cells_take9, allP_flat]) (by simp only [belowL, belowA, and_self]) rfl ?_; (try dsimp only); (try simp only [go_sem, frzL_flat, bits_length, cells_take9, allP_flat]); (try (refine IsK.go (by assumption) ?_; clear hK)); (repeat (refine IsQ.go (by assumption) ?_; (try dsimp only); (try simp only [reduceCtorEq, E0])))
  have hb1 := wcount_bound hcal (d := d) (by omega) (by omega)
  have hw1 : IntKind.i64.wrap (wcount fr hol d + n) = wcount fr hol d + n := wrap64 (by omega) (by omega)
  have hw2 : IntKind.i64.wrap (1000001 - d) = ((1000001 - d).toNat : Int) := by rw [wrap64 (by omega) (by omega)]; omega
  (repeat (any_goals (first
    | ((first
        | refine aw_srH fun K hK => ?_
        | refine aw_sdH fun K hK => ?_
        | refine aw_region ?_
        | refine aw_d ?_); simp only [go_sem, hw1, hw2, bits_length, cells_take9, allP_flat]; (try (refine IsK.go (by assumption) ?_; clear hK)); (repeat (refine IsQ.go (by assumption) ?_; (try dsimp only); (try simp only [reduceCtorEq, E0]))))
    | (refine aw_ret ?_; (repeat (refine IsQ.go (by assumption) ?_; (try dsimp only); (try simp only [reduceCtorEq, E0]))); simp only [go_sem, hw1, hw2, bits_length, cells_take9, allP_flat])
    | (refine aw_seqH fun Q hQ => ?_)
    | (refine aw_blockH fun Q hQ => ?_)
    | (refine aw_skip ?_; (repeat (refine IsQ.go (by assumption) ?_; (try dsimp only); (try simp only [reduceCtorEq, E0]))))
    | (refine aw_exit ?_; (repeat (refine IsQ.go (by assumption) ?_; (try dsimp only); (try simp only [reduceCtorEq, E0]))))
    | (refine aw_cond rfl ?_ ?_ <;> intro hc <;> (try simp only [reduceCtorEq, HC0] at hc))
    | ((first
        | refine vOps_split rfl ?_ ?_
        | refine vD_split rfl ?_ ?_) <;> intro hg <;> simp only [hg, go_sem, hw1, hw2, bits_length, cells_take9, allP_flat] <;> (try simp only [reduceCtorEq, HC0] at hg) <;> (try (refine IsK.go (by assumption) ?_; clear hK)) <;> (repeat (refine IsQ.go (by assumption) ?_; (try dsimp only); (try simp only [reduceCtorEq, E0])))))))
  have hmono : ∀ i j : Nat, i ≤ j → j < (1000001 - d).toNat → decide (wcount fr hol d + n ≤ wcount fr hol (d + i)) = true → decide (wcount fr hol d + n ≤ wcount fr hol (d + j)) = true := by
    intro i j hij hj hp
    simp only [decide_eq_true_eq] at hp ⊢
    have := wcount_diff hcal (a := d + i) (b := d + j) (by omega) (by omega)
    omega
  have hfirst : first (fun i : Nat => decide (wcount fr hol d + n ≤ wcount fr hol (d + i))) (1000001 - d).toNat = addK fr hol d n := by
    rw [addK]
    congr 1
    funext k
    have := wcount_diff hcal (a := d) (b := d + k) hd (by omega)
    rw [show (d + (k : Int) - d).toNat = k by omega] at this
    congr 1
    exact propext ⟨fun h => by omega, fun h => by omega⟩
  have hle : addK fr hol d n ≤ (1000001 - d).toNat := (first_spec _ _).1
  have hw3 : IntKind.i64.wrap (d + (addK fr hol d n : Int)) = d + (addK fr hol d n : Int) := wrap64 (by omega) (by omega)
  refine ⟨_, call_lent (search125 126 [.p (.ptr ((bits fr).map vb ++ [vi (7 - fr.length), ints (hol.filter (notFree fr))])), .p (.ptr [vi d]), .p (.ptr [vi (wcount fr hol d + n)])] (1000001 - d).toNat (fun i : Nat => decide (wcount fr hol d + n ≤ wcount fr hol (d + i))) (by kernel_rfl) (fun i hi => step126 hcal d _ i hd (by omega)) (by simp only [belowL, belowA, and_self]) hmono (by omega)) 1 (by simp only [go_sem, frzL_flat, allP_flat, hfirst, hw3]) (by simp only [belowL, belowA, and_self]) rfl ⟨rfl, rfl, rfl⟩, ?_⟩; (try simp only [go_sem, frzL_flat, allP_flat, hfirst, hw3]); (try (refine IsK.go (by assumption) ?_; clear hK)); (repeat (refine IsQ.go (by assumption) ?_; (try dsimp only); (try simp only [reduceCtorEq, E0])))
  (repeat (any_goals (first
    | ((first
        | refine aw_srH fun K hK => ?_
        | refine aw_sdH fun K hK => ?_
        | refine aw_region ?_
        | refine aw_d ?_); simp only [go_sem]; (try (refine IsK.go (by assumption) ?_; clear hK)); (repeat (refine IsQ.go (by assumption) ?_; (try dsimp only); (try simp only [reduceCtorEq, E0]))))
    | (refine aw_ret ?_; (repeat (refine IsQ.go (by assumption) ?_; (try dsimp only); (try simp only [reduceCtorEq, E0]))); simp only [go_sem])
    | (refine aw_seqH fun Q hQ => ?_)
    | (refine aw_blockH fun Q hQ => ?_)
    | (refine aw_skip ?_; (repeat (refine IsQ.go (by assumption) ?_; (try dsimp only); (try simp only [reduceCtorEq, E0]))))
    | (refine aw_exit ?_; (repeat (refine IsQ.go (by assumption) ?_; (try dsimp only); (try simp only [reduceCtorEq, E0]))))
    | (refine aw_cond rfl ?_ ?_ <;> intro hc <;> (try simp only [reduceCtorEq, HC0] at hc))
    | ((first
        | refine vOps_split rfl ?_ ?_
        | refine vD_split rfl ?_ ?_) <;> intro hg <;> simp only [hg, go_sem] <;> (try simp only [reduceCtorEq, HC0] at hg) <;> (try (refine IsK.go (by assumption) ?_; clear hK)) <;> (repeat (refine IsQ.go (by assumption) ?_; (try dsimp only); (try simp only [reduceCtorEq, E0])))))))

theorem add19 (fr hol : List Int) (d n : Int) : APure Try.prog 19 [.p (calP fr hol), .p (vi d), .p (vi n)] (rAdd fr hol d n) := by
  refine apure 1 rf19_ok rfl ?_
  simp only [rf19]
  (repeat (any_goals (first
    | ((first
        | refine aw_srH fun K hK => ?_
        | refine aw_sdH fun K hK => ?_
        | refine aw_region ?_
        | refine aw_d ?_); simp only [go_sem]; (try (refine IsK.go (by assumption) ?_; clear hK)); (repeat (refine IsQ.go (by assumption) ?_; (try dsimp only); (try simp only [reduceCtorEq, E0]))))
    | (refine aw_ret ?_; (repeat (refine IsQ.go (by assumption) ?_; (try dsimp only); (try simp only [reduceCtorEq, E0]))); simp only [go_sem])
    | (refine aw_seqH fun Q hQ => ?_)
    | (refine aw_blockH fun Q hQ => ?_)
    | (refine aw_skip ?_; (repeat (refine IsQ.go (by assumption) ?_; (try dsimp only); (try simp only [reduceCtorEq, E0]))))
    | (refine aw_exit ?_; (repeat (refine IsQ.go (by assumption) ?_; (try dsimp only); (try simp only [reduceCtorEq, E0]))))
    | (refine aw_cond rfl ?_ ?_ <;> intro hc <;> (try simp only [reduceCtorEq, HC0] at hc))
    | ((first
        | refine vOps_split rfl ?_ ?_
        | refine vD_split rfl ?_ ?_) <;> intro hg <;> simp only [hg, go_sem] <;> (try simp only [reduceCtorEq, HC0] at hg) <;> (try (refine IsK.go (by assumption) ?_; clear hK)) <;> (repeat (refine IsQ.go (by assumption) ?_; (try dsimp only); (try simp only [reduceCtorEq, E0])))))))
  refine call_lent (checkCal21 fr hol) 1 (by simp only [go_sem]) (by simp only [belowL, belowA, and_self]) rfl ?_; (try dsimp only); (try simp only [go_sem]); (try (refine IsK.go (by assumption) ?_; clear hK)); (repeat (refine IsQ.go (by assumption) ?_; (try dsimp only); (try simp only [reduceCtorEq, E0])))
  (repeat (any_goals (first
    | ((first
        | refine aw_srH fun K hK => ?_
        | refine aw_sdH fun K hK => ?_
        | refine aw_region ?_
        | refine aw_d ?_); simp only [go_sem]; (try (refine IsK.go (by assumption) ?_; clear hK)); (repeat (refine IsQ.go (by assumption) ?_; (try dsimp only); (try simp only [reduceCtorEq, E0]))))
    | (refine aw_ret ?_; (repeat (refine IsQ.go (by assumption) ?_; (try dsimp only); (try simp only [reduceCtorEq, E0]))); simp only [go_sem])
    | (refine aw_seqH fun Q hQ => ?_)
    | (refine aw_blockH fun Q hQ => ?_)
    | (refine aw_skip ?_; (repeat (refine IsQ.go (by assumption) ?_; (try dsimp only); (try simp only [reduceCtorEq, E0]))))
    | (refine aw_exit ?_; (repeat (refine IsQ.go (by assumption) ?_; (try dsimp only); (try simp only [reduceCtorEq, E0]))))
    | (refine aw_cond rfl ?_ ?_ <;> intro hc <;> (try simp only [reduceCtorEq, HC0] at hc))
    | ((first
        | refine vOps_split rfl ?_ ?_
        | refine vD_split rfl ?_ ?_) <;> intro hg <;> simp only [hg, go_sem] <;> (try simp only [reduceCtorEq, HC0] at hg) <;> (try (refine IsK.go (by assumption) ?_; clear hK)) <;> (repeat (refine IsQ.go (by assumption) ?_; (try dsimp only); (try simp only [reduceCtorEq, E0])))))))
  · have h0 : calFault fr hol ≠ 0 := by simpa using hc
    simp [rAdd, h0, belowA, belowL]
  · have h0 : calFault fr hol = 0 := by simpa using hc
    have hcal := calOk h0
    refine call_lent (isDay69 d) 1 (by simp only [go_sem]) (by simp only [belowL, belowA, and_self]) rfl ?_; (try dsimp only); (try simp only [go_sem]); (try (refine IsK.go (by assumption) ?_; clear hK)); (repeat (refine IsQ.go (by assumption) ?_; (try dsimp only); (try simp only [reduceCtorEq, E0])))
    (repeat (any_goals (first
    | ((first
        | refine aw_srH fun K hK => ?_
        | refine aw_sdH fun K hK => ?_
        | refine aw_region ?_
        | refine aw_d ?_); simp only [go_sem]; (try (refine IsK.go (by assumption) ?_; clear hK)); (repeat (refine IsQ.go (by assumption) ?_; (try dsimp only); (try simp only [reduceCtorEq, E0]))))
    | (refine aw_ret ?_; (repeat (refine IsQ.go (by assumption) ?_; (try dsimp only); (try simp only [reduceCtorEq, E0]))); simp only [go_sem])
    | (refine aw_seqH fun Q hQ => ?_)
    | (refine aw_blockH fun Q hQ => ?_)
    | (refine aw_skip ?_; (repeat (refine IsQ.go (by assumption) ?_; (try dsimp only); (try simp only [reduceCtorEq, E0]))))
    | (refine aw_exit ?_; (repeat (refine IsQ.go (by assumption) ?_; (try dsimp only); (try simp only [reduceCtorEq, E0]))))
    | (refine aw_cond rfl ?_ ?_ <;> intro hc <;> (try simp only [reduceCtorEq, HC0] at hc))
    | ((first
        | refine vOps_split rfl ?_ ?_
        | refine vD_split rfl ?_ ?_) <;> intro hg <;> simp only [hg, go_sem] <;> (try simp only [reduceCtorEq, HC0] at hg) <;> (try (refine IsK.go (by assumption) ?_; clear hK)) <;> (repeat (refine IsQ.go (by assumption) ?_; (try dsimp only); (try simp only [reduceCtorEq, E0])))))))
    · rw [rAdd, if_neg (by simp [h0]), if_pos (by omega)]
      simp [belowA, belowL]
    · refine call_lent (isDay69 n) 1 (by simp only [go_sem]) (by simp only [belowL, belowA, and_self]) rfl ?_; (try dsimp only); (try simp only [go_sem]); (try (refine IsK.go (by assumption) ?_; clear hK)); (repeat (refine IsQ.go (by assumption) ?_; (try dsimp only); (try simp only [reduceCtorEq, E0])))
      (repeat (any_goals (first
    | ((first
        | refine aw_srH fun K hK => ?_
        | refine aw_sdH fun K hK => ?_
        | refine aw_region ?_
        | refine aw_d ?_); simp only [go_sem]; (try (refine IsK.go (by assumption) ?_; clear hK)); (repeat (refine IsQ.go (by assumption) ?_; (try dsimp only); (try simp only [reduceCtorEq, E0]))))
    | (refine aw_ret ?_; (repeat (refine IsQ.go (by assumption) ?_; (try dsimp only); (try simp only [reduceCtorEq, E0]))); simp only [go_sem])
    | (refine aw_seqH fun Q hQ => ?_)
    | (refine aw_blockH fun Q hQ => ?_)
    | (refine aw_skip ?_; (repeat (refine IsQ.go (by assumption) ?_; (try dsimp only); (try simp only [reduceCtorEq, E0]))))
    | (refine aw_exit ?_; (repeat (refine IsQ.go (by assumption) ?_; (try dsimp only); (try simp only [reduceCtorEq, E0]))))
    | (refine aw_cond rfl ?_ ?_ <;> intro hc <;> (try simp only [reduceCtorEq, HC0] at hc))
    | ((first
        | refine vOps_split rfl ?_ ?_
        | refine vD_split rfl ?_ ?_) <;> intro hg <;> simp only [hg, go_sem] <;> (try simp only [reduceCtorEq, HC0] at hg) <;> (try (refine IsK.go (by assumption) ?_; clear hK)) <;> (repeat (refine IsQ.go (by assumption) ?_; (try dsimp only); (try simp only [reduceCtorEq, E0])))))))
      · rw [rAdd, if_neg (by simp [h0]), if_pos (by omega)]
        simp [belowA, belowL]
      · refine call_pure (calendarOf70 hcal) rfl (by simp only [belowL, belowA, and_self]) (by simp only [belowL, belowA, and_self]) ?_; (try dsimp only); (try simp only [go_sem]); (try (refine IsK.go (by assumption) ?_; clear hK)); (repeat (refine IsQ.go (by assumption) ?_; (try dsimp only); (try simp only [reduceCtorEq, E0])))
        refine call_lent (add76 fr hol d n (by omega) (by omega) (by omega) (by omega)) 1 (by simp only [go_sem]) (by simp only [belowL, belowA, and_self]) rfl ?_; (try dsimp only); (try simp only [go_sem]); (try (refine IsK.go (by assumption) ?_; clear hK)); (repeat (refine IsQ.go (by assumption) ?_; (try dsimp only); (try simp only [reduceCtorEq, E0])))
        (repeat (any_goals (first
    | ((first
        | refine aw_srH fun K hK => ?_
        | refine aw_sdH fun K hK => ?_
        | refine aw_region ?_
        | refine aw_d ?_); simp only [go_sem]; (try (refine IsK.go (by assumption) ?_; clear hK)); (repeat (refine IsQ.go (by assumption) ?_; (try dsimp only); (try simp only [reduceCtorEq, E0]))))
    | (refine aw_ret ?_; (repeat (refine IsQ.go (by assumption) ?_; (try dsimp only); (try simp only [reduceCtorEq, E0]))); simp only [go_sem])
    | (refine aw_seqH fun Q hQ => ?_)
    | (refine aw_blockH fun Q hQ => ?_)
    | (refine aw_skip ?_; (repeat (refine IsQ.go (by assumption) ?_; (try dsimp only); (try simp only [reduceCtorEq, E0]))))
    | (refine aw_exit ?_; (repeat (refine IsQ.go (by assumption) ?_; (try dsimp only); (try simp only [reduceCtorEq, E0]))))
    | (refine aw_cond rfl ?_ ?_ <;> intro hc <;> (try simp only [reduceCtorEq, HC0] at hc))
    | ((first
        | refine vOps_split rfl ?_ ?_
        | refine vD_split rfl ?_ ?_) <;> intro hg <;> simp only [hg, go_sem] <;> (try simp only [reduceCtorEq, HC0] at hg) <;> (try (refine IsK.go (by assumption) ?_; clear hK)) <;> (repeat (refine IsQ.go (by assumption) ?_; (try dsimp only); (try simp only [reduceCtorEq, E0])))))))
        · rw [rAdd, if_neg (by simp [h0]), if_neg (by omega), if_pos (by have := addK_ok (fr := fr) (hol := hol) (n := n) hg.1; omega)]
          simp [belowA, belowL]
        · rw [rAdd, if_neg (by simp [h0]), if_neg (by omega), if_neg (by omega)]
          simp [belowA, belowL]

theorem add20 (fr hol : List Int) (d n : Int) : APure Try.prog 20 [.p (calP fr hol), .p (vi d), .p (vi n)] (rAdd fr hol d n) := by
  refine apure 1 rf20_ok rfl ?_
  simp only [rf20]
  (repeat (any_goals (first
    | ((first
        | refine aw_srH fun K hK => ?_
        | refine aw_sdH fun K hK => ?_
        | refine aw_region ?_
        | refine aw_d ?_); simp only [go_sem]; (try (refine IsK.go (by assumption) ?_; clear hK)); (repeat (refine IsQ.go (by assumption) ?_; (try dsimp only); (try simp only [reduceCtorEq, E0]))))
    | (refine aw_ret ?_; (repeat (refine IsQ.go (by assumption) ?_; (try dsimp only); (try simp only [reduceCtorEq, E0]))); simp only [go_sem])
    | (refine aw_seqH fun Q hQ => ?_)
    | (refine aw_blockH fun Q hQ => ?_)
    | (refine aw_skip ?_; (repeat (refine IsQ.go (by assumption) ?_; (try dsimp only); (try simp only [reduceCtorEq, E0]))))
    | (refine aw_exit ?_; (repeat (refine IsQ.go (by assumption) ?_; (try dsimp only); (try simp only [reduceCtorEq, E0]))))
    | (refine aw_cond rfl ?_ ?_ <;> intro hc <;> (try simp only [reduceCtorEq, HC0] at hc))
    | ((first
        | refine vOps_split rfl ?_ ?_
        | refine vD_split rfl ?_ ?_) <;> intro hg <;> simp only [hg, go_sem] <;> (try simp only [reduceCtorEq, HC0] at hg) <;> (try (refine IsK.go (by assumption) ?_; clear hK)) <;> (repeat (refine IsQ.go (by assumption) ?_; (try dsimp only); (try simp only [reduceCtorEq, E0])))))))
  refine call_lent (checkCal22 fr hol) 1 (by simp only [go_sem]) (by simp only [belowL, belowA, and_self]) rfl ?_; (try dsimp only); (try simp only [go_sem]); (try (refine IsK.go (by assumption) ?_; clear hK)); (repeat (refine IsQ.go (by assumption) ?_; (try dsimp only); (try simp only [reduceCtorEq, E0])))
  (repeat (any_goals (first
    | ((first
        | refine aw_srH fun K hK => ?_
        | refine aw_sdH fun K hK => ?_
        | refine aw_region ?_
        | refine aw_d ?_); simp only [go_sem]; (try (refine IsK.go (by assumption) ?_; clear hK)); (repeat (refine IsQ.go (by assumption) ?_; (try dsimp only); (try simp only [reduceCtorEq, E0]))))
    | (refine aw_ret ?_; (repeat (refine IsQ.go (by assumption) ?_; (try dsimp only); (try simp only [reduceCtorEq, E0]))); simp only [go_sem])
    | (refine aw_seqH fun Q hQ => ?_)
    | (refine aw_blockH fun Q hQ => ?_)
    | (refine aw_skip ?_; (repeat (refine IsQ.go (by assumption) ?_; (try dsimp only); (try simp only [reduceCtorEq, E0]))))
    | (refine aw_exit ?_; (repeat (refine IsQ.go (by assumption) ?_; (try dsimp only); (try simp only [reduceCtorEq, E0]))))
    | (refine aw_cond rfl ?_ ?_ <;> intro hc <;> (try simp only [reduceCtorEq, HC0] at hc))
    | ((first
        | refine vOps_split rfl ?_ ?_
        | refine vD_split rfl ?_ ?_) <;> intro hg <;> simp only [hg, go_sem] <;> (try simp only [reduceCtorEq, HC0] at hg) <;> (try (refine IsK.go (by assumption) ?_; clear hK)) <;> (repeat (refine IsQ.go (by assumption) ?_; (try dsimp only); (try simp only [reduceCtorEq, E0])))))))
  · have h0 : calFault fr hol ≠ 0 := by simpa using hc
    simp [rAdd, h0, belowA, belowL]
  · have h0 : calFault fr hol = 0 := by simpa using hc
    have hcal := calOk h0
    refine call_lent (isDay72 d) 1 (by simp only [go_sem]) (by simp only [belowL, belowA, and_self]) rfl ?_; (try dsimp only); (try simp only [go_sem]); (try (refine IsK.go (by assumption) ?_; clear hK)); (repeat (refine IsQ.go (by assumption) ?_; (try dsimp only); (try simp only [reduceCtorEq, E0])))
    (repeat (any_goals (first
    | ((first
        | refine aw_srH fun K hK => ?_
        | refine aw_sdH fun K hK => ?_
        | refine aw_region ?_
        | refine aw_d ?_); simp only [go_sem]; (try (refine IsK.go (by assumption) ?_; clear hK)); (repeat (refine IsQ.go (by assumption) ?_; (try dsimp only); (try simp only [reduceCtorEq, E0]))))
    | (refine aw_ret ?_; (repeat (refine IsQ.go (by assumption) ?_; (try dsimp only); (try simp only [reduceCtorEq, E0]))); simp only [go_sem])
    | (refine aw_seqH fun Q hQ => ?_)
    | (refine aw_blockH fun Q hQ => ?_)
    | (refine aw_skip ?_; (repeat (refine IsQ.go (by assumption) ?_; (try dsimp only); (try simp only [reduceCtorEq, E0]))))
    | (refine aw_exit ?_; (repeat (refine IsQ.go (by assumption) ?_; (try dsimp only); (try simp only [reduceCtorEq, E0]))))
    | (refine aw_cond rfl ?_ ?_ <;> intro hc <;> (try simp only [reduceCtorEq, HC0] at hc))
    | ((first
        | refine vOps_split rfl ?_ ?_
        | refine vD_split rfl ?_ ?_) <;> intro hg <;> simp only [hg, go_sem] <;> (try simp only [reduceCtorEq, HC0] at hg) <;> (try (refine IsK.go (by assumption) ?_; clear hK)) <;> (repeat (refine IsQ.go (by assumption) ?_; (try dsimp only); (try simp only [reduceCtorEq, E0])))))))
    · rw [rAdd, if_neg (by simp [h0]), if_pos (by omega)]
      simp [belowA, belowL]
    · refine call_lent (isDay72 n) 1 (by simp only [go_sem]) (by simp only [belowL, belowA, and_self]) rfl ?_; (try dsimp only); (try simp only [go_sem]); (try (refine IsK.go (by assumption) ?_; clear hK)); (repeat (refine IsQ.go (by assumption) ?_; (try dsimp only); (try simp only [reduceCtorEq, E0])))
      (repeat (any_goals (first
    | ((first
        | refine aw_srH fun K hK => ?_
        | refine aw_sdH fun K hK => ?_
        | refine aw_region ?_
        | refine aw_d ?_); simp only [go_sem]; (try (refine IsK.go (by assumption) ?_; clear hK)); (repeat (refine IsQ.go (by assumption) ?_; (try dsimp only); (try simp only [reduceCtorEq, E0]))))
    | (refine aw_ret ?_; (repeat (refine IsQ.go (by assumption) ?_; (try dsimp only); (try simp only [reduceCtorEq, E0]))); simp only [go_sem])
    | (refine aw_seqH fun Q hQ => ?_)
    | (refine aw_blockH fun Q hQ => ?_)
    | (refine aw_skip ?_; (repeat (refine IsQ.go (by assumption) ?_; (try dsimp only); (try simp only [reduceCtorEq, E0]))))
    | (refine aw_exit ?_; (repeat (refine IsQ.go (by assumption) ?_; (try dsimp only); (try simp only [reduceCtorEq, E0]))))
    | (refine aw_cond rfl ?_ ?_ <;> intro hc <;> (try simp only [reduceCtorEq, HC0] at hc))
    | ((first
        | refine vOps_split rfl ?_ ?_
        | refine vD_split rfl ?_ ?_) <;> intro hg <;> simp only [hg, go_sem] <;> (try simp only [reduceCtorEq, HC0] at hg) <;> (try (refine IsK.go (by assumption) ?_; clear hK)) <;> (repeat (refine IsQ.go (by assumption) ?_; (try dsimp only); (try simp only [reduceCtorEq, E0])))))))
      · rw [rAdd, if_neg (by simp [h0]), if_pos (by omega)]
        simp [belowA, belowL]
      · refine call_pure (weekOf73 hcal) rfl (by simp only [belowL, belowA, and_self]) (by simp only [belowL, belowA, and_self]) ?_; (try dsimp only); (try simp only [go_sem]); (try (refine IsK.go (by assumption) ?_; clear hK)); (repeat (refine IsQ.go (by assumption) ?_; (try dsimp only); (try simp only [reduceCtorEq, E0])))
        refine call_lent (add77 hcal d n (by omega) (by omega) (by omega) (by omega)) 1 (by simp only [go_sem]) (by simp only [belowL, belowA, and_self]) rfl ?_; (try dsimp only); (try simp only [go_sem]); (try (refine IsK.go (by assumption) ?_; clear hK)); (repeat (refine IsQ.go (by assumption) ?_; (try dsimp only); (try simp only [reduceCtorEq, E0])))
        (repeat (any_goals (first
    | ((first
        | refine aw_srH fun K hK => ?_
        | refine aw_sdH fun K hK => ?_
        | refine aw_region ?_
        | refine aw_d ?_); simp only [go_sem]; (try (refine IsK.go (by assumption) ?_; clear hK)); (repeat (refine IsQ.go (by assumption) ?_; (try dsimp only); (try simp only [reduceCtorEq, E0]))))
    | (refine aw_ret ?_; (repeat (refine IsQ.go (by assumption) ?_; (try dsimp only); (try simp only [reduceCtorEq, E0]))); simp only [go_sem])
    | (refine aw_seqH fun Q hQ => ?_)
    | (refine aw_blockH fun Q hQ => ?_)
    | (refine aw_skip ?_; (repeat (refine IsQ.go (by assumption) ?_; (try dsimp only); (try simp only [reduceCtorEq, E0]))))
    | (refine aw_exit ?_; (repeat (refine IsQ.go (by assumption) ?_; (try dsimp only); (try simp only [reduceCtorEq, E0]))))
    | (refine aw_cond rfl ?_ ?_ <;> intro hc <;> (try simp only [reduceCtorEq, HC0] at hc))
    | ((first
        | refine vOps_split rfl ?_ ?_
        | refine vD_split rfl ?_ ?_) <;> intro hg <;> simp only [hg, go_sem] <;> (try simp only [reduceCtorEq, HC0] at hg) <;> (try (refine IsK.go (by assumption) ?_; clear hK)) <;> (repeat (refine IsQ.go (by assumption) ?_; (try dsimp only); (try simp only [reduceCtorEq, E0])))))))
        · rw [rAdd, if_neg (by simp [h0]), if_neg (by omega), if_pos (by omega)]
          simp [belowA, belowL]
        · rw [rAdd, if_neg (by simp [h0]), if_neg (by omega), if_neg (by omega)]
          simp [belowA, belowL]
end Go.Abs
