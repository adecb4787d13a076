/-
  Walks of history and its reference: IsWork, WorkDays, Add.
-/
import Derived.Test.YtjjhmldeammecaaL2
namespace Go.Abs
open Go Go.Proofs
set_option maxRecDepth 4000

theorem wcount_bound {fr hol : List Int} (hcal : CalOk fr hol) {d : Int} (h0 : 0 ≤ d) (h1 : d ≤ 1000001) : 0 ≤ wcount fr hol d ∧ wcount fr hol d ≤ 1000001 := by
  obtain ⟨n, rfl⟩ := Int.eq_ofNat_of_zero_le h0
  rw [wcount_eq hcal]
  have := cw_le fr hol 0 n
  omega

def rWorkDays (fr hol : List Int) (a b : Int) : AV :=
  if calFault fr hol ≠ 0 then .tup [.p (vi 0), .p (vi (calFault fr hol))] else if ¬ (0 ≤ a ∧ a ≤ b ∧ b ≤ 1000000) then .tup [.p (vi 0), .p (vi 9)] else .tup [.p (vi (cw fr hol a (b - a).toNat)), .p (vi 0)]

theorem workDays18 (fr hol : List Int) (a b : Int) : APure Try.prog 18 [.p (calP fr hol), .p (vi a), .p (vi b)] (rWorkDays fr hol a b) := by
  refine apure 1 rf18_ok rfl ?_
  simp only [rf18]
  (repeat (any_goals (first
    | ((first
        | refine aw_srH fun K hK => ?_
        | refine aw_sdH fun K hK => ?_
        | refine aw_region ?_
        | refine aw_d ?_); simp only [go_sem]; (try (refine IsK.go (by assumption) ?_; clear hK)); (repeat (refine IsQ.go (by assumption) ?_; (try dsimp only); (try simp only [reduceCtorEq, E0]))))
    | (refine aw_ret ?_; (repeat (refine IsQ.go (by assumption) ?_; (try dsimp only); (try simp only [reduceCtorEq, E0]))); simp only [go_sem])
    | (refine aw_seqH fun Q hQ => ?_)
    | (refine aw_blockH fun Q hQ => ?_)
    | (refine aw_skip ?_; (repeat (refine IsQ.go (by assumption) ?_; (try dsimp only); (try simp only [reduceCtorEq, E0]))))
    | (refine aw_exit ?_; (repeat (refine IsQ.go (by assumption) ?_; (try dsimp only); (try simp only [reduceCtorEq, E0]))))
    | (refine aw_cond rfl ?_ ?_ <;> intro hc <;> (try simp only [reduceCtorEq, HC0] at hc))
    | ((first
        | refine vOps_split rfl ?_ ?_
        | refine vD_split rfl ?_ ?_) <;> intro hg <;> simp only [hg, go_sem] <;> (try simp only [reduceCtorEq, HC0] at hg) <;> (try (refine IsK.go (by assumption) ?_; clear hK)) <;> (repeat (refine IsQ.go (by assumption) ?_; (try dsimp only); (try simp only [reduceCtorEq, E0])))))))
  refine call_lent (checkCal22 fr hol) 1 (by simp only [go_sem]) (by simp only [belowL, belowA, and_self]) rfl ?_; (try dsimp only); (try simp only [go_sem]); (try (refine IsK.go (by assumption) ?_; clear hK)); (repeat (refine IsQ.go (by assumption) ?_; (try dsimp only); (try simp only [reduceCtorEq, E0])))
  (repeat (any_goals (first
    | ((first
        | refine aw_srH fun K hK => ?_
        | refine aw_sdH fun K hK => ?_
        | refine aw_region ?_
        | refine aw_d ?_); simp only [go_sem]; (try (refine IsK.go (by assumption) ?_; clear hK)); (repeat (refine IsQ.go (by assumption) ?_; (try dsimp only); (try simp only [reduceCtorEq, E0]))))
    | (refine aw_ret ?_; (repeat (refine IsQ.go (by assumption) ?_; (try dsimp only); (try simp only [reduceCtorEq, E0]))); simp only [go_sem])
    | (refine aw_seqH fun Q hQ => ?_)
    | (refine aw_blockH fun Q hQ => ?_)
    | (refine aw_skip ?_; (repeat (refine IsQ.go (by assumption) ?_; (try dsimp only); (try simp only [reduceCtorEq, E0]))))
    | (refine aw_exit ?_; (repeat (refine IsQ.go (by assumption) ?_; (try dsimp only); (try simp only [reduceCtorEq, E0]))))
    | (refine aw_cond rfl ?_ ?_ <;> intro hc <;> (try simp only [reduceCtorEq, HC0] at hc))
    | ((first
        | refine vOps_split rfl ?_ ?_
        | refine vD_split rfl ?_ ?_) <;> intro hg <;> simp only [hg, go_sem] <;> (try simp only [reduceCtorEq, HC0] at hg) <;> (try (refine IsK.go (by assumption) ?_; clear hK)) <;> (repeat (refine IsQ.go (by assumption) ?_; (try dsimp only); (try simp only [reduceCtorEq, E0])))))))
  · have h0 : calFault fr hol ≠ 0 := by simpa using hc
    simp [rWorkDays, h0, belowA, belowL]
  · have h0 : calFault fr hol = 0 := by simpa using hc
    have hcal := calOk h0
    refine call_lent (isDay72 a) 1 (by simp only [go_sem]) (by simp only [belowL, belowA, and_self]) rfl ?_; (try dsimp only); (try simp only [go_sem]); (try (refine IsK.go (by assumption) ?_; clear hK)); (repeat (refine IsQ.go (by assumption) ?_; (try dsimp only); (try simp only [reduceCtorEq, E0])))
    (repeat (any_goals (first
    | ((first
        | refine aw_srH fun K hK => ?_
        | refine aw_sdH fun K hK => ?_
        | refine aw_region ?_
        | refine aw_d ?_); simp only [go_sem]; (try (refine IsK.go (by assumption) ?_; clear hK)); (repeat (refine IsQ.go (by assumption) ?_; (try dsimp only); (try simp only [reduceCtorEq, E0]))))
    | (refine aw_ret ?_; (repeat (refine IsQ.go (by assumption) ?_; (try dsimp only); (try simp only [reduceCtorEq, E0]))); simp only [go_sem])
    | (refine aw_seqH fun Q hQ => ?_)
    | (refine aw_blockH fun Q hQ => ?_)
    | (refine aw_skip ?_; (repeat (refine IsQ.go (by assumption) ?_; (try dsimp only); (try simp only [reduceCtorEq, E0]))))
    | (refine aw_exit ?_; (repeat (refine IsQ.go (by assumption) ?_; (try dsimp only); (try simp only [reduceCtorEq, E0]))))
    | (refine aw_cond rfl ?_ ?_ <;> intro hc <;> (try simp only [reduceCtorEq, HC0] at hc))
    | ((first
        | refine vOps_split rfl ?_ ?_
        | refine vD_split rfl ?_ ?_) <;> intro hg <;> simp only [hg, go_sem] <;> (try simp only [reduceCtorEq, HC0] at hg) <;> (try (refine IsK.go (by assumption) ?_; clear hK)) <;> (repeat (refine IsQ.go (by assumption) ?_; (try dsimp only); (try simp only [reduceCtorEq, E0])))))))
    · rw [rWorkDays, if_neg (by simp [h0]), if_pos (by omega)]
      simp [belowA, belowL]
    · refine call_lent (isDay72 b) 1 (by simp only [go_sem]) (by simp only [belowL, belowA, and_self]) rfl ?_; (try dsimp only); (try simp only [go_sem]); (try (refine IsK.go (by assumption) ?_; clear hK)); (repeat (refine IsQ.go (by assumption) ?_; (try dsimp only); (try simp only [reduceCtorEq, E0])))
      (repeat (any_goals (first
    | ((first
        | refine aw_srH fun K hK => ?_
        | refine aw_sdH fun K hK => ?_
        | refine aw_region ?_
        | refine aw_d ?_); simp only [go_sem]; (try (refine IsK.go (by assumption) ?_; clear hK)); (repeat (refine IsQ.go (by assumption) ?_; (try dsimp only); (try simp only [reduceCtorEq, E0]))))
    | (refine aw_ret ?_; (repeat (refine IsQ.go (by assumption) ?_; (try dsimp only); (try simp only [reduceCtorEq, E0]))); simp only [go_sem])
    | (refine aw_seqH fun Q hQ => ?_)
    | (refine aw_blockH fun Q hQ => ?_)
    | (refine aw_skip ?_; (repeat (refine IsQ.go (by assumption) ?_; (try dsimp only); (try simp only [reduceCtorEq, E0]))))
    | (refine aw_exit ?_; (repeat (refine IsQ.go (by assumption) ?_; (try dsimp only); (try simp only [reduceCtorEq, E0]))))
    | (refine aw_cond rfl ?_ ?_ <;> intro hc <;> (try simp only [reduceCtorEq, HC0] at hc))
    | ((first
        | refine vOps_split rfl ?_ ?_
        | refine vD_split rfl ?_ ?_) <;> intro hg <;> simp only [hg, go_sem] <;> (try simp only [reduceCtorEq, HC0] at hg) <;> (try (refine IsK.go (by assumption) ?_; clear hK)) <;> (repeat (refine IsQ.go (by assumption) ?_; (try dsimp only); (try simp only [reduceCtorEq, E0])))))))
      · rw [rWorkDays, if_neg (by simp [h0]), if_pos (by omega)]
        simp [belowA, belowL]
      · rw [rWorkDays, if_neg (by simp [h0]), if_pos (by omega)]
        simp [belowA, belowL]
      · refine call_pure (weekOf73 hcal) rfl (by simp only [belowL, belowA, and_self]) (by simp only [belowL, belowA, and_self]) ?_; (try dsimp only); (try simp only [go_sem, all_flat, map_flat, bits_length, cells_take9, cells_drop9, allP_flat]); (try (refine IsK.go (by assumption) ?_; clear hK)); (repeat (refine IsQ.go (by assumption) ?_; (try dsimp only); (try simp only [reduceCtorEq, E0])))
        (repeat (any_goals (first
    | ((first
        | refine aw_srH fun K hK => ?_
        | refine aw_sdH fun K hK => ?_
        | refine aw_region ?_
        | refine aw_d ?_); simp only [go_sem, bits_length, cells_take9, allP_flat]; (try (refine IsK.go (by assumption) ?_; clear hK)); (repeat (refine IsQ.go (by assumption) ?_; (try dsimp only); (try simp only [reduceCtorEq, E0]))))
    | (refine aw_ret ?_; (repeat (refine IsQ.go (by assumption) ?_; (try dsimp only); (try simp only [reduceCtorEq, E0]))); simp only [go_sem, bits_length, cells_take9, allP_flat])
    | (refine aw_seqH fun Q hQ => ?_)
    | (refine aw_blockH fun Q hQ => ?_)
    | (refine aw_skip ?_; (repeat (refine IsQ.go (by assumption) ?_; (try dsimp only); (try simp only [reduceCtorEq, E0]))))
    | (refine aw_exit ?_; (repeat (refine IsQ.go (by assumption) ?_; (try dsimp only); (try simp only [reduceCtorEq, E0]))))
    | (refine aw_cond rfl ?_ ?_ <;> intro hc <;> (try simp only [reduceCtorEq, HC0] at hc))
    | ((first
        | refine vOps_split rfl ?_ ?_
        | refine vD_split rfl ?_ ?_) <;> intro hg <;> simp only [hg, go_sem, bits_length, cells_take9, allP_flat] <;> (try simp only [reduceCtorEq, HC0] at hg) <;> (try (refine IsK.go (by assumption) ?_; clear hK)) <;> (repeat (refine IsQ.go (by assumption) ?_; (try dsimp only); (try simp only [reduceCtorEq, E0])))))))
        refine ⟨_, call_lent (count74 hcal b (by omega) (by omega)) 1 (by simp only [go_sem, frzL_flat, bits_length, cells_take9, allP_flat]) (by simp only [belowL, belowA, and_self]) rfl ⟨rfl, rfl, rfl⟩, ?_⟩; (try simp only [go_sem, frzL_flat, bits_length, cells_take9, allP_flat]); (try (refine IsK.go (by assumption) ?_; clear hK)); (repeat (refine IsQ.go (by assumption) ?_; (try dsimp only); (try simp only [reduceCtorEq, E0])))
        refine ⟨_, call_lent (count74 hcal a (by omega) (by omega)) 1 (by simp only [go_sem, frzL_flat]) (by simp only [belowL, belowA, and_self]) rfl ⟨rfl, rfl, rfl⟩, ?_⟩; (try simp only [go_sem, frzL_flat]); (try (refine IsK.go (by assumption) ?_; clear hK)); (repeat (refine IsQ.go (by assumption) ?_; (try dsimp only); (try simp only [reduceCtorEq, E0])))
        have hb1 := wcount_bound hcal (d := a) (by omega) (by omega)
        have hb2 := wcount_bound hcal (d := b) (by omega) (by omega)
        have hws : IntKind.i64.wrap (wcount fr hol b - wcount fr hol a) = wcount fr hol b - wcount fr hol a := wrap64 (by omega) (by omega)
        (repeat (any_goals (first
    | ((first
        | refine aw_srH fun K hK => ?_
        | refine aw_sdH fun K hK => ?_
        | refine aw_region ?_
        | refine aw_d ?_); simp only [go_sem, hws]; (try (refine IsK.go (by assumption) ?_; clear hK)); (repeat (refine IsQ.go (by assumption) ?_; (try dsimp only); (try simp only [reduceCtorEq, E0]))))
    | (refine aw_ret ?_; (repeat (refine IsQ.go (by assumption) ?_; (try dsimp only); (try simp only [reduceCtorEq, E0]))); simp only [go_sem, hws])
    | (refine aw_seqH fun Q hQ => ?_)
    | (refine aw_blockH fun Q hQ => ?_)
    | (refine aw_skip ?_; (repeat (refine IsQ.go (by assumption) ?_; (try dsimp only); (try simp only [reduceCtorEq, E0]))))
    | (refine aw_exit ?_; (repeat (refine IsQ.go (by assumption) ?_; (try dsimp only); (try simp only [reduceCtorEq, E0]))))
    | (refine aw_cond rfl ?_ ?_ <;> intro hc <;> (try simp only [reduceCtorEq, HC0] at hc))
    | ((first
        | refine vOps_split rfl ?_ ?_
        | refine vD_split rfl ?_ ?_) <;> intro hg <;> simp only [hg, go_sem, hws] <;> (try simp only [reduceCtorEq, HC0] at hg) <;> (try (refine IsK.go (by assumption) ?_; clear hK)) <;> (repeat (refine IsQ.go (by assumption) ?_; (try dsimp only); (try simp only [reduceCtorEq, E0])))))))
        rw [rWorkDays, if_neg (by simp [h0]), if_neg (by omega), wcount_diff hcal (by omega) (by omega)]
        simp [belowA, belowL]

end Go.Abs
