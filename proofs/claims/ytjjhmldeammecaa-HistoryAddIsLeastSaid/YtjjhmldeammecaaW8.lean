/-
  The law on Add: plain facts, and its walk.
-/
import Derived.Test.YtjjhmldeammecaaW7
namespace Go.Abs
open Go Go.Proofs
set_option maxRecDepth 4000

structure AddOk (fr hol : List Int) (d n : Int) : Prop where
  cal : calFault fr hol = 0
  d0 : 0 ≤ d
  d1 : d ≤ 1000000
  n0 : 0 ≤ n
  n1 : n ≤ 1000000
  D1 : d + (addK fr hol d n : Int) ≤ 1000000
  D : adD fr hol d n = d + addK fr hol d n
theorem addOk {fr hol : List Int} {d n : Int} (h : adE fr hol d n = 0) : AddOk fr hol d n := by
  have h' := h
  unfold adE at h'
  split at h'
  · rename_i h1; exact absurd h' h1
  · rename_i h1
    split at h'
    · cases h'
    · rename_i h2
      split at h'
      · cases h'
      · rename_i h3
        refine ⟨by simpa using h1, by omega, by omega, by omega, by omega, by omega, ?_⟩
        rw [adD, if_pos h]
theorem cw_step (fr hol : List Int) (d : Int) (k : Nat) : cw fr hol d (k + 1) = cw fr hol d k + (if isWork fr hol (d + k) then 1 else 0) := rfl
theorem addK_cw {fr hol : List Int} {d n : Int} (h : AddOk fr hol d n) : (cw fr hol d (addK fr hol d n) : Int) = n ∧ (n = 0 → addK fr hol d n = 0) ∧ (0 < n → 0 < addK fr hol d n ∧ isWork fr hol (d + addK fr hol d n - 1) = true) := by
  have h1 := addK_ok (fr := fr) (hol := hol) (n := n) h.d0 h.D1
  have h2 := (first_spec (fun k => decide (n ≤ (cw fr hol d k : Int))) (1000001 - d).toNat).2.1
  rw [show first (fun k => decide (n ≤ (cw fr hol d k : Int))) (1000001 - d).toNat = addK fr hol d n from rfl] at h2
  generalize addK fr hol d n = K at *
  cases K with
  | zero =>
    have : cw fr hol d 0 = 0 := rfl
    have hn := h.n0
    refine ⟨by omega, fun _ => rfl, fun hp => by omega⟩
  | succ k =>
    have h3 := h2 k (by omega)
    simp only [decide_eq_false_iff_not] at h3
    have h4 := cw_step fr hol d k
    have e : d + ((k + 1 : Nat) : Int) - 1 = d + (k : Int) := by omega
    rw [e]
    cases hw : isWork fr hol (d + (k : Int)) with
    | false => rw [hw] at h4; simp at h4; omega
    | true =>
      rw [hw] at h4
      simp at h4
      exact ⟨by omega, fun hn => by omega, fun _ => ⟨by omega, rfl⟩⟩

theorem cw_add (fr hol : List Int) (d : Int) (i : Nat) : ∀ j, cw fr hol d (i + j) = cw fr hol d i + cw fr hol (d + i) j
  | 0 => rfl
  | j + 1 => by
    rw [← Nat.add_assoc, cw_step, cw_add fr hol d i j, cw_step, show d + ((i + j : Nat) : Int) = d + i + j by omega]
    omega
theorem between {fr hol : List Int} {d b n : Int} {m : Nat} (hc : calFault fr hol = 0) (h0 : 0 ≤ d) (h1 : d ≤ b) (h2 : b ≤ d + m) (h3 : d + m ≤ 1000000) (hn : (cw fr hol d m : Int) = n) :
    wdE fr hol d b = 0 ∧ wdE fr hol b (d + m) = 0 ∧ (IntKind.i64.wrap (wdN fr hol d b + wdN fr hol b (d + m)) == n) = true := by
  have e1 : wdE fr hol d b = 0 := by rw [wdE, if_neg (by simp [hc]), if_neg (by omega)]
  have e2 : wdE fr hol b (d + m) = 0 := by rw [wdE, if_neg (by simp [hc]), if_neg (by omega)]
  refine ⟨e1, e2, ?_⟩
  rw [wdN, if_pos e1, wdN, if_pos e2]
  have h := cw_add fr hol d (b - d).toNat (d + m - b).toNat
  rw [show (b - d).toNat + (d + m - b).toNat = m by omega, show d + ((b - d).toNat : Int) = b by omega] at h
  have hm := cw_le fr hol d m
  rw [wrap64 (by omega) (by omega)]
  simp; omega
theorem least4 (fr hol : List Int) (d n b : Int) : APure Try.prog 4 [.p (calP fr hol), .p (vi d), .p (vi n), .p (vi b)] (.p (vb true)) := by
  refine apure 1 rf4_ok rfl ?_
  simp only [rf4]
  (repeat (any_goals (first
    | ((first
        | refine aw_srH fun K hK => ?_
        | refine aw_sdH fun K hK => ?_
        | refine aw_region ?_
        | refine aw_d ?_); simp only [go_sem]; (try (refine IsK.go (by assumption) ?_; clear hK)); (repeat (refine IsQ.go (by assumption) ?_; (try dsimp only); (try simp only [reduceCtorEq, E0]))))
    | (refine aw_ret ?_; (repeat (refine IsQ.go (by assumption) ?_; (try dsimp only); (try simp only [reduceCtorEq, E0]))); simp only [go_sem])
    | (refine aw_seqH fun Q hQ => ?_)
    | (refine aw_blockH fun Q hQ => ?_)
    | (refine aw_skip ?_; (repeat (refine IsQ.go (by assumption) ?_; (try dsimp only); (try simp only [reduceCtorEq, E0]))))
    | (refine aw_exit ?_; (repeat (refine IsQ.go (by assumption) ?_; (try dsimp only); (try simp only [reduceCtorEq, E0]))))
    | (refine aw_cond rfl ?_ ?_ <;> intro hc <;> (try simp only [reduceCtorEq, HC0] at hc))
    | ((first
        | refine vOps_split rfl ?_ ?_
        | refine vD_split rfl ?_ ?_) <;> intro hg <;> simp only [hg, go_sem] <;> (try simp only [reduceCtorEq, HC0] at hg) <;> (try (refine IsK.go (by assumption) ?_; clear hK)) <;> (repeat (refine IsQ.go (by assumption) ?_; (try dsimp only); (try simp only [reduceCtorEq, E0])))))))
  refine call_lent (add20' fr hol d n) 1 (by simp only [go_sem]) (by simp only [belowL, belowA, and_self]) rfl ?_; (try dsimp only); (try simp only [go_sem]); (try (refine IsK.go (by assumption) ?_; clear hK)); (repeat (refine IsQ.go (by assumption) ?_; (try dsimp only); (try simp only [reduceCtorEq, E0])))
  by_cases hE : adE fr hol d n = 0
  · have ok := addOk hE
    obtain ⟨c1, c2, c3⟩ := addK_cw ok
    have hD := ok.D
    have ok1 := ok.d0
    have ok2 := ok.d1
    have ok3 := ok.D1
    generalize addK fr hol d n = m at *
    rw [hE, hD]
    have w1 : wdE fr hol d (d + (m : Int)) = 0 := by
      rw [wdE, if_neg (by simp [ok.cal]), if_neg (by omega)]
    have w2 : wdN fr hol d (d + (m : Int)) = n := by
      rw [wdN, if_pos w1, show (d + (m : Int) - d).toNat = m by omega, c1]
    have n0 := ok.n0
    have f1 : ((0 : Int) != 0) = false := by decide
    have f2 : (n != n) = false := by simp
    have hbm : 0 ≤ (m : Int) := by omega
    (repeat (any_goals (first
    | ((first
        | refine aw_srH fun K hK => ?_
        | refine aw_sdH fun K hK => ?_
        | refine aw_region ?_
        | refine aw_d ?_); simp only [go_sem, f1]; (try (refine IsK.go (by assumption) ?_; clear hK)); (repeat (refine IsQ.go (by assumption) ?_; (try dsimp only); (try simp only [reduceCtorEq, E0]))))
    | (refine aw_ret ?_; (repeat (refine IsQ.go (by assumption) ?_; (try dsimp only); (try simp only [reduceCtorEq, E0]))); simp only [go_sem, f1])
    | (refine aw_seqH fun Q hQ => ?_)
    | (refine aw_blockH fun Q hQ => ?_)
    | (refine aw_skip ?_; (repeat (refine IsQ.go (by assumption) ?_; (try dsimp only); (try simp only [reduceCtorEq, E0]))))
    | (refine aw_exit ?_; (repeat (refine IsQ.go (by assumption) ?_; (try dsimp only); (try simp only [reduceCtorEq, E0]))))
    | (refine aw_cond rfl ?_ ?_ <;> intro hc <;> (try simp only [reduceCtorEq, HC0] at hc))
    | ((first
        | refine vOps_split rfl ?_ ?_
        | refine vD_split rfl ?_ ?_) <;> intro hg <;> simp only [hg, go_sem, f1] <;> (try simp only [reduceCtorEq, HC0] at hg) <;> (try (refine IsK.go (by assumption) ?_; clear hK)) <;> (repeat (refine IsQ.go (by assumption) ?_; (try dsimp only); (try simp only [reduceCtorEq, E0])))))))
    refine call_lent (workDays18' fr hol d (d + m)) 1 (by simp only [go_sem, f1, w1, w2]) (by simp only [belowL, belowA, and_self]) rfl ?_; (try dsimp only); (try simp only [go_sem, f1, w1, w2]); (try (refine IsK.go (by assumption) ?_; clear hK)); (repeat (refine IsQ.go (by assumption) ?_; (try dsimp only); (try simp only [reduceCtorEq, E0])))
    skip
    have tail : ∀ (u v : Int), d ≤ u → u ≤ d + m → True := fun _ _ _ _ => trivial
    by_cases hn : n = 0
    · have hm := c2 hn
      subst hm
      subst hn
      have f3 : ((0 : Int) == 0) = true := by decide
      have f4 : decide ((0 : Int) > 0) = false := by decide
      have f5 : (d + ((0 : Nat) : Int) != d) = false := by simp
      (repeat (any_goals (first
    | ((first
        | refine aw_srH fun K hK => ?_
        | refine aw_sdH fun K hK => ?_
        | refine aw_region ?_
        | refine aw_d ?_); simp only [go_sem, f1, f2, f3, f4, f5]; (try (refine IsK.go (by assumption) ?_; clear hK)); (repeat (refine IsQ.go (by assumption) ?_; (try dsimp only); (try simp only [reduceCtorEq, E0]))))
    | (refine aw_ret ?_; (repeat (refine IsQ.go (by assumption) ?_; (try dsimp only); (try simp only [reduceCtorEq, E0]))); simp only [go_sem, f1, f2, f3, f4, f5])
    | (refine aw_seqH fun Q hQ => ?_)
    | (refine aw_blockH fun Q hQ => ?_)
    | (refine aw_skip ?_; (repeat (refine IsQ.go (by assumption) ?_; (try dsimp only); (try simp only [reduceCtorEq, E0]))))
    | (refine aw_exit ?_; (repeat (refine IsQ.go (by assumption) ?_; (try dsimp only); (try simp only [reduceCtorEq, E0]))))
    | (refine aw_cond rfl ?_ ?_ <;> intro hc <;> (try simp only [reduceCtorEq, HC0] at hc))
    | ((first
        | refine vOps_split rfl ?_ ?_
        | refine vD_split rfl ?_ ?_) <;> intro hg <;> simp only [hg, go_sem, f1, f2, f3, f4, f5] <;> (try simp only [reduceCtorEq, HC0] at hg) <;> (try (refine IsK.go (by assumption) ?_; clear hK)) <;> (repeat (refine IsQ.go (by assumption) ?_; (try dsimp only); (try simp only [reduceCtorEq, E0])))))))
      · refine call_lent (told23) 1 (by simp only [go_sem]) (by simp only [belowL, belowA, and_self]) rfl ?_; (try dsimp only); (try simp only [go_sem]); (try (refine IsK.go (by assumption) ?_; clear hK)); (repeat (refine IsQ.go (by assumption) ?_; (try dsimp only); (try simp only [reduceCtorEq, E0])))
        (repeat (any_goals (first
    | ((first
        | refine aw_srH fun K hK => ?_
        | refine aw_sdH fun K hK => ?_
        | refine aw_region ?_
        | refine aw_d ?_); simp only [go_sem]; (try (refine IsK.go (by assumption) ?_; clear hK)); (repeat (refine IsQ.go (by assumption) ?_; (try dsimp only); (try simp only [reduceCtorEq, E0]))))
    | (refine aw_ret ?_; (repeat (refine IsQ.go (by assumption) ?_; (try dsimp only); (try simp only [reduceCtorEq, E0]))); simp only [go_sem])
    | (refine aw_seqH fun Q hQ => ?_)
    | (refine aw_blockH fun Q hQ => ?_)
    | (refine aw_skip ?_; (repeat (refine IsQ.go (by assumption) ?_; (try dsimp only); (try simp only [reduceCtorEq, E0]))))
    | (refine aw_exit ?_; (repeat (refine IsQ.go (by assumption) ?_; (try dsimp only); (try simp only [reduceCtorEq, E0]))))
    | (refine aw_cond rfl ?_ ?_ <;> intro hc <;> (try simp only [reduceCtorEq, HC0] at hc))
    | ((first
        | refine vOps_split rfl ?_ ?_
        | refine vD_split rfl ?_ ?_) <;> intro hg <;> simp only [hg, go_sem] <;> (try simp only [reduceCtorEq, HC0] at hg) <;> (try (refine IsK.go (by assumption) ?_; clear hK)) <;> (repeat (refine IsQ.go (by assumption) ?_; (try dsimp only); (try simp only [reduceCtorEq, E0])))))))
      · refine call_lent (told23) 1 (by simp only [go_sem]) (by simp only [belowL, belowA, and_self]) rfl ?_; (try dsimp only); (try simp only [go_sem]); (try (refine IsK.go (by assumption) ?_; clear hK)); (repeat (refine IsQ.go (by assumption) ?_; (try dsimp only); (try simp only [reduceCtorEq, E0])))
        (repeat (any_goals (first
    | ((first
        | refine aw_srH fun K hK => ?_
        | refine aw_sdH fun K hK => ?_
        | refine aw_region ?_
        | refine aw_d ?_); simp only [go_sem]; (try (refine IsK.go (by assumption) ?_; clear hK)); (repeat (refine IsQ.go (by assumption) ?_; (try dsimp only); (try simp only [reduceCtorEq, E0]))))
    | (refine aw_ret ?_; (repeat (refine IsQ.go (by assumption) ?_; (try dsimp only); (try simp only [reduceCtorEq, E0]))); simp only [go_sem])
    | (refine aw_seqH fun Q hQ => ?_)
    | (refine aw_blockH fun Q hQ => ?_)
    | (refine aw_skip ?_; (repeat (refine IsQ.go (by assumption) ?_; (try dsimp only); (try simp only [reduceCtorEq, E0]))))
    | (refine aw_exit ?_; (repeat (refine IsQ.go (by assumption) ?_; (try dsimp only); (try simp only [reduceCtorEq, E0]))))
    | (refine aw_cond rfl ?_ ?_ <;> intro hc <;> (try simp only [reduceCtorEq, HC0] at hc))
    | ((first
        | refine vOps_split rfl ?_ ?_
        | refine vD_split rfl ?_ ?_) <;> intro hg <;> simp only [hg, go_sem] <;> (try simp only [reduceCtorEq, HC0] at hg) <;> (try (refine IsK.go (by assumption) ?_; clear hK)) <;> (repeat (refine IsQ.go (by assumption) ?_; (try dsimp only); (try simp only [reduceCtorEq, E0])))))))
      · obtain ⟨g1, g2, g3⟩ := between (n := 0) (b := b) ok.cal ok1 (by omega) (by omega) ok3 c1
        have g4 : ((0 : Int) == 0) = true := by decide
        refine call_lent (workDays18' fr hol d b) 1 (by simp only [go_sem, g1]) (by simp only [belowL, belowA, and_self]) rfl ?_; (try dsimp only); (try simp only [go_sem, g1]); (try (refine IsK.go (by assumption) ?_; clear hK)); (repeat (refine IsQ.go (by assumption) ?_; (try dsimp only); (try simp only [reduceCtorEq, E0])))
        (repeat (any_goals (first
    | ((first
        | refine aw_srH fun K hK => ?_
        | refine aw_sdH fun K hK => ?_
        | refine aw_region ?_
        | refine aw_d ?_); simp only [go_sem, g1]; (try (refine IsK.go (by assumption) ?_; clear hK)); (repeat (refine IsQ.go (by assumption) ?_; (try dsimp only); (try simp only [reduceCtorEq, E0]))))
    | (refine aw_ret ?_; (repeat (refine IsQ.go (by assumption) ?_; (try dsimp only); (try simp only [reduceCtorEq, E0]))); simp only [go_sem, g1])
    | (refine aw_seqH fun Q hQ => ?_)
    | (refine aw_blockH fun Q hQ => ?_)
    | (refine aw_skip ?_; (repeat (refine IsQ.go (by assumption) ?_; (try dsimp only); (try simp only [reduceCtorEq, E0]))))
    | (refine aw_exit ?_; (repeat (refine IsQ.go (by assumption) ?_; (try dsimp only); (try simp only [reduceCtorEq, E0]))))
    | (refine aw_cond rfl ?_ ?_ <;> intro hc <;> (try simp only [reduceCtorEq, HC0] at hc))
    | ((first
        | refine vOps_split rfl ?_ ?_
        | refine vD_split rfl ?_ ?_) <;> intro hg <;> simp only [hg, go_sem, g1] <;> (try simp only [reduceCtorEq, HC0] at hg) <;> (try (refine IsK.go (by assumption) ?_; clear hK)) <;> (repeat (refine IsQ.go (by assumption) ?_; (try dsimp only); (try simp only [reduceCtorEq, E0])))))))
        refine call_lent (workDays18' fr hol b (d + (0 : Nat))) 1 (by simp only [go_sem, g2]) (by simp only [belowL, belowA, and_self]) rfl ?_; (try dsimp only); (try simp only [go_sem, g2]); (try (refine IsK.go (by assumption) ?_; clear hK)); (repeat (refine IsQ.go (by assumption) ?_; (try dsimp only); (try simp only [reduceCtorEq, E0])))
        (repeat (any_goals (first
    | ((first
        | refine aw_srH fun K hK => ?_
        | refine aw_sdH fun K hK => ?_
        | refine aw_region ?_
        | refine aw_d ?_); simp only [go_sem, g1, g2, g3, g4]; (try (refine IsK.go (by assumption) ?_; clear hK)); (repeat (refine IsQ.go (by assumption) ?_; (try dsimp only); (try simp only [reduceCtorEq, E0]))))
    | (refine aw_ret ?_; (repeat (refine IsQ.go (by assumption) ?_; (try dsimp only); (try simp only [reduceCtorEq, E0]))); simp only [go_sem, g1, g2, g3, g4])
    | (refine aw_seqH fun Q hQ => ?_)
    | (refine aw_blockH fun Q hQ => ?_)
    | (refine aw_skip ?_; (repeat (refine IsQ.go (by assumption) ?_; (try dsimp only); (try simp only [reduceCtorEq, E0]))))
    | (refine aw_exit ?_; (repeat (refine IsQ.go (by assumption) ?_; (try dsimp only); (try simp only [reduceCtorEq, E0]))))
    | (refine aw_cond rfl ?_ ?_ <;> intro hc <;> (try simp only [reduceCtorEq, HC0] at hc))
    | ((first
        | refine vOps_split rfl ?_ ?_
        | refine vD_split rfl ?_ ?_) <;> intro hg <;> simp only [hg, go_sem, g1, g2, g3, g4] <;> (try simp only [reduceCtorEq, HC0] at hg) <;> (try (refine IsK.go (by assumption) ?_; clear hK)) <;> (repeat (refine IsQ.go (by assumption) ?_; (try dsimp only); (try simp only [reduceCtorEq, E0])))))))
        refine call_lent (told23) 1 (by simp only [go_sem]) (by simp only [belowL, belowA, and_self]) rfl ?_; (try dsimp only); (try simp only [go_sem]); (try (refine IsK.go (by assumption) ?_; clear hK)); (repeat (refine IsQ.go (by assumption) ?_; (try dsimp only); (try simp only [reduceCtorEq, E0])))
        (repeat (any_goals (first
    | ((first
        | refine aw_srH fun K hK => ?_
        | refine aw_sdH fun K hK => ?_
        | refine aw_region ?_
        | refine aw_d ?_); simp only [go_sem]; (try (refine IsK.go (by assumption) ?_; clear hK)); (repeat (refine IsQ.go (by assumption) ?_; (try dsimp only); (try simp only [reduceCtorEq, E0]))))
    | (refine aw_ret ?_; (repeat (refine IsQ.go (by assumption) ?_; (try dsimp only); (try simp only [reduceCtorEq, E0]))); simp only [go_sem])
    | (refine aw_seqH fun Q hQ => ?_)
    | (refine aw_blockH fun Q hQ => ?_)
    | (refine aw_skip ?_; (repeat (refine IsQ.go (by assumption) ?_; (try dsimp only); (try simp only [reduceCtorEq, E0]))))
    | (refine aw_exit ?_; (repeat (refine IsQ.go (by assumption) ?_; (try dsimp only); (try simp only [reduceCtorEq, E0]))))
    | (refine aw_cond rfl ?_ ?_ <;> intro hc <;> (try simp only [reduceCtorEq, HC0] at hc))
    | ((first
        | refine vOps_split rfl ?_ ?_
        | refine vD_split rfl ?_ ?_) <;> intro hg <;> simp only [hg, go_sem] <;> (try simp only [reduceCtorEq, HC0] at hg) <;> (try (refine IsK.go (by assumption) ?_; clear hK)) <;> (repeat (refine IsQ.go (by assumption) ?_; (try dsimp only); (try simp only [reduceCtorEq, E0])))))))
    · have hm := c3 (by omega)
      have f3 : (n == 0) = false := by simpa using hn
      have f4 : decide (n > 0) = true := by simp; omega
      have hw : IntKind.i64.wrap (d + (m : Int) - 1) = d + (m : Int) - 1 := wrap64 (by omega) (by omega)
      have i1 : iwE fr hol (d + (m : Int) - 1) = 0 := by
        rw [iwE, if_neg (by simp [ok.cal]), if_neg (by omega)]
      have i2 : iwB fr hol (d + (m : Int) - 1) = true := by simp [iwB, i1, hm.2]
      (repeat (any_goals (first
    | ((first
        | refine aw_srH fun K hK => ?_
        | refine aw_sdH fun K hK => ?_
        | refine aw_region ?_
        | refine aw_d ?_); simp only [go_sem, f1, f2, f3, f4, hw]; (try (refine IsK.go (by assumption) ?_; clear hK)); (repeat (refine IsQ.go (by assumption) ?_; (try dsimp only); (try simp only [reduceCtorEq, E0]))))
    | (refine aw_ret ?_; (repeat (refine IsQ.go (by assumption) ?_; (try dsimp only); (try simp only [reduceCtorEq, E0]))); simp only [go_sem, f1, f2, f3, f4, hw])
    | (refine aw_seqH fun Q hQ => ?_)
    | (refine aw_blockH fun Q hQ => ?_)
    | (refine aw_skip ?_; (repeat (refine IsQ.go (by assumption) ?_; (try dsimp only); (try simp only [reduceCtorEq, E0]))))
    | (refine aw_exit ?_; (repeat (refine IsQ.go (by assumption) ?_; (try dsimp only); (try simp only [reduceCtorEq, E0]))))
    | (refine aw_cond rfl ?_ ?_ <;> intro hc <;> (try simp only [reduceCtorEq, HC0] at hc))
    | ((first
        | refine vOps_split rfl ?_ ?_
        | refine vD_split rfl ?_ ?_) <;> intro hg <;> simp only [hg, go_sem, f1, f2, f3, f4, hw] <;> (try simp only [reduceCtorEq, HC0] at hg) <;> (try (refine IsK.go (by assumption) ?_; clear hK)) <;> (repeat (refine IsQ.go (by assumption) ?_; (try dsimp only); (try simp only [reduceCtorEq, E0])))))))
      refine call_lent (isWork16' fr hol (d + m - 1)) 1 (by simp only [go_sem, i1, i2]) (by simp only [belowL, belowA, and_self]) rfl ?_; (try dsimp only); (try simp only [go_sem, i1, i2]); (try (refine IsK.go (by assumption) ?_; clear hK)); (repeat (refine IsQ.go (by assumption) ?_; (try dsimp only); (try simp only [reduceCtorEq, E0])))
      (repeat (any_goals (first
    | ((first
        | refine aw_srH fun K hK => ?_
        | refine aw_sdH fun K hK => ?_
        | refine aw_region ?_
        | refine aw_d ?_); simp only [go_sem, f1, i1, i2]; (try (refine IsK.go (by assumption) ?_; clear hK)); (repeat (refine IsQ.go (by assumption) ?_; (try dsimp only); (try simp only [reduceCtorEq, E0]))))
    | (refine aw_ret ?_; (repeat (refine IsQ.go (by assumption) ?_; (try dsimp only); (try simp only [reduceCtorEq, E0]))); simp only [go_sem, f1, i1, i2])
    | (refine aw_seqH fun Q hQ => ?_)
    | (refine aw_blockH fun Q hQ => ?_)
    | (refine aw_skip ?_; (repeat (refine IsQ.go (by assumption) ?_; (try dsimp only); (try simp only [reduceCtorEq, E0]))))
    | (refine aw_exit ?_; (repeat (refine IsQ.go (by assumption) ?_; (try dsimp only); (try simp only [reduceCtorEq, E0]))))
    | (refine aw_cond rfl ?_ ?_ <;> intro hc <;> (try simp only [reduceCtorEq, HC0] at hc))
    | ((first
        | refine vOps_split rfl ?_ ?_
        | refine vD_split rfl ?_ ?_) <;> intro hg <;> simp only [hg, go_sem, f1, i1, i2] <;> (try simp only [reduceCtorEq, HC0] at hg) <;> (try (refine IsK.go (by assumption) ?_; clear hK)) <;> (repeat (refine IsQ.go (by assumption) ?_; (try dsimp only); (try simp only [reduceCtorEq, E0])))))))
      · refine call_lent (told23) 1 (by simp only [go_sem]) (by simp only [belowL, belowA, and_self]) rfl ?_; (try dsimp only); (try simp only [go_sem]); (try (refine IsK.go (by assumption) ?_; clear hK)); (repeat (refine IsQ.go (by assumption) ?_; (try dsimp only); (try simp only [reduceCtorEq, E0])))
        (repeat (any_goals (first
    | ((first
        | refine aw_srH fun K hK => ?_
        | refine aw_sdH fun K hK => ?_
        | refine aw_region ?_
        | refine aw_d ?_); simp only [go_sem]; (try (refine IsK.go (by assumption) ?_; clear hK)); (repeat (refine IsQ.go (by assumption) ?_; (try dsimp only); (try simp only [reduceCtorEq, E0]))))
    | (refine aw_ret ?_; (repeat (refine IsQ.go (by assumption) ?_; (try dsimp only); (try simp only [reduceCtorEq, E0]))); simp only [go_sem])
    | (refine aw_seqH fun Q hQ => ?_)
    | (refine aw_blockH fun Q hQ => ?_)
    | (refine aw_skip ?_; (repeat (refine IsQ.go (by assumption) ?_; (try dsimp only); (try simp only [reduceCtorEq, E0]))))
    | (refine aw_exit ?_; (repeat (refine IsQ.go (by assumption) ?_; (try dsimp only); (try simp only [reduceCtorEq, E0]))))
    | (refine aw_cond rfl ?_ ?_ <;> intro hc <;> (try simp only [reduceCtorEq, HC0] at hc))
    | ((first
        | refine vOps_split rfl ?_ ?_
        | refine vD_split rfl ?_ ?_) <;> intro hg <;> simp only [hg, go_sem] <;> (try simp only [reduceCtorEq, HC0] at hg) <;> (try (refine IsK.go (by assumption) ?_; clear hK)) <;> (repeat (refine IsQ.go (by assumption) ?_; (try dsimp only); (try simp only [reduceCtorEq, E0])))))))
      · refine call_lent (told23) 1 (by simp only [go_sem]) (by simp only [belowL, belowA, and_self]) rfl ?_; (try dsimp only); (try simp only [go_sem]); (try (refine IsK.go (by assumption) ?_; clear hK)); (repeat (refine IsQ.go (by assumption) ?_; (try dsimp only); (try simp only [reduceCtorEq, E0])))
        (repeat (any_goals (first
    | ((first
        | refine aw_srH fun K hK => ?_
        | refine aw_sdH fun K hK => ?_
        | refine aw_region ?_
        | refine aw_d ?_); simp only [go_sem]; (try (refine IsK.go (by assumption) ?_; clear hK)); (repeat (refine IsQ.go (by assumption) ?_; (try dsimp only); (try simp only [reduceCtorEq, E0]))))
    | (refine aw_ret ?_; (repeat (refine IsQ.go (by assumption) ?_; (try dsimp only); (try simp only [reduceCtorEq, E0]))); simp only [go_sem])
    | (refine aw_seqH fun Q hQ => ?_)
    | (refine aw_blockH fun Q hQ => ?_)
    | (refine aw_skip ?_; (repeat (refine IsQ.go (by assumption) ?_; (try dsimp only); (try simp only [reduceCtorEq, E0]))))
    | (refine aw_exit ?_; (repeat (refine IsQ.go (by assumption) ?_; (try dsimp only); (try simp only [reduceCtorEq, E0]))))
    | (refine aw_cond rfl ?_ ?_ <;> intro hc <;> (try simp only [reduceCtorEq, HC0] at hc))
    | ((first
        | refine vOps_split rfl ?_ ?_
        | refine vD_split rfl ?_ ?_) <;> intro hg <;> simp only [hg, go_sem] <;> (try simp only [reduceCtorEq, HC0] at hg) <;> (try (refine IsK.go (by assumption) ?_; clear hK)) <;> (repeat (refine IsQ.go (by assumption) ?_; (try dsimp only); (try simp only [reduceCtorEq, E0])))))))
      · obtain ⟨g1, g2, g3⟩ := between (n := n) (b := b) ok.cal ok1 (by omega) (by omega) ok3 c1
        have g4 : ((0 : Int) == 0) = true := by decide
        refine call_lent (workDays18' fr hol d b) 1 (by simp only [go_sem, g1]) (by simp only [belowL, belowA, and_self]) rfl ?_; (try dsimp only); (try simp only [go_sem, g1]); (try (refine IsK.go (by assumption) ?_; clear hK)); (repeat (refine IsQ.go (by assumption) ?_; (try dsimp only); (try simp only [reduceCtorEq, E0])))
        (repeat (any_goals (first
    | ((first
        | refine aw_srH fun K hK => ?_
        | refine aw_sdH fun K hK => ?_
        | refine aw_region ?_
        | refine aw_d ?_); simp only [go_sem, g1]; (try (refine IsK.go (by assumption) ?_; clear hK)); (repeat (refine IsQ.go (by assumption) ?_; (try dsimp only); (try simp only [reduceCtorEq, E0]))))
    | (refine aw_ret ?_; (repeat (refine IsQ.go (by assumption) ?_; (try dsimp only); (try simp only [reduceCtorEq, E0]))); simp only [go_sem, g1])
    | (refine aw_seqH fun Q hQ => ?_)
    | (refine aw_blockH fun Q hQ => ?_)
    | (refine aw_skip ?_; (repeat (refine IsQ.go (by assumption) ?_; (try dsimp only); (try simp only [reduceCtorEq, E0]))))
    | (refine aw_exit ?_; (repeat (refine IsQ.go (by assumption) ?_; (try dsimp only); (try simp only [reduceCtorEq, E0]))))
    | (refine aw_cond rfl ?_ ?_ <;> intro hc <;> (try simp only [reduceCtorEq, HC0] at hc))
    | ((first
        | refine vOps_split rfl ?_ ?_
        | refine vD_split rfl ?_ ?_) <;> intro hg <;> simp only [hg, go_sem, g1] <;> (try simp only [reduceCtorEq, HC0] at hg) <;> (try (refine IsK.go (by assumption) ?_; clear hK)) <;> (repeat (refine IsQ.go (by assumption) ?_; (try dsimp only); (try simp only [reduceCtorEq, E0])))))))
        refine call_lent (workDays18' fr hol b (d + m)) 1 (by simp only [go_sem, g2]) (by simp only [belowL, belowA, and_self]) rfl ?_; (try dsimp only); (try simp only [go_sem, g2]); (try (refine IsK.go (by assumption) ?_; clear hK)); (repeat (refine IsQ.go (by assumption) ?_; (try dsimp only); (try simp only [reduceCtorEq, E0])))
        (repeat (any_goals (first
    | ((first
        | refine aw_srH fun K hK => ?_
        | refine aw_sdH fun K hK => ?_
        | refine aw_region ?_
        | refine aw_d ?_); simp only [go_sem, g1, g2, g3, g4]; (try (refine IsK.go (by assumption) ?_; clear hK)); (repeat (refine IsQ.go (by assumption) ?_; (try dsimp only); (try simp only [reduceCtorEq, E0]))))
    | (refine aw_ret ?_; (repeat (refine IsQ.go (by assumption) ?_; (try dsimp only); (try simp only [reduceCtorEq, E0]))); simp only [go_sem, g1, g2, g3, g4])
    | (refine aw_seqH fun Q hQ => ?_)
    | (refine aw_blockH fun Q hQ => ?_)
    | (refine aw_skip ?_; (repeat (refine IsQ.go (by assumption) ?_; (try dsimp only); (try simp only [reduceCtorEq, E0]))))
    | (refine aw_exit ?_; (repeat (refine IsQ.go (by assumption) ?_; (try dsimp only); (try simp only [reduceCtorEq, E0]))))
    | (refine aw_cond rfl ?_ ?_ <;> intro hc <;> (try simp only [reduceCtorEq, HC0] at hc))
    | ((first
        | refine vOps_split rfl ?_ ?_
        | refine vD_split rfl ?_ ?_) <;> intro hg <;> simp only [hg, go_sem, g1, g2, g3, g4] <;> (try simp only [reduceCtorEq, HC0] at hg) <;> (try (refine IsK.go (by assumption) ?_; clear hK)) <;> (repeat (refine IsQ.go (by assumption) ?_; (try dsimp only); (try simp only [reduceCtorEq, E0])))))))
        refine call_lent (told23) 1 (by simp only [go_sem]) (by simp only [belowL, belowA, and_self]) rfl ?_; (try dsimp only); (try simp only [go_sem]); (try (refine IsK.go (by assumption) ?_; clear hK)); (repeat (refine IsQ.go (by assumption) ?_; (try dsimp only); (try simp only [reduceCtorEq, E0])))
        (repeat (any_goals (first
    | ((first
        | refine aw_srH fun K hK => ?_
        | refine aw_sdH fun K hK => ?_
        | refine aw_region ?_
        | refine aw_d ?_); simp only [go_sem]; (try (refine IsK.go (by assumption) ?_; clear hK)); (repeat (refine IsQ.go (by assumption) ?_; (try dsimp only); (try simp only [reduceCtorEq, E0]))))
    | (refine aw_ret ?_; (repeat (refine IsQ.go (by assumption) ?_; (try dsimp only); (try simp only [reduceCtorEq, E0]))); simp only [go_sem])
    | (refine aw_seqH fun Q hQ => ?_)
    | (refine aw_blockH fun Q hQ => ?_)
    | (refine aw_skip ?_; (repeat (refine IsQ.go (by assumption) ?_; (try dsimp only); (try simp only [reduceCtorEq, E0]))))
    | (refine aw_exit ?_; (repeat (refine IsQ.go (by assumption) ?_; (try dsimp only); (try simp only [reduceCtorEq, E0]))))
    | (refine aw_cond rfl ?_ ?_ <;> intro hc <;> (try simp only [reduceCtorEq, HC0] at hc))
    | ((first
        | refine vOps_split rfl ?_ ?_
        | refine vD_split rfl ?_ ?_) <;> intro hg <;> simp only [hg, go_sem] <;> (try simp only [reduceCtorEq, HC0] at hg) <;> (try (refine IsK.go (by assumption) ?_; clear hK)) <;> (repeat (refine IsQ.go (by assumption) ?_; (try dsimp only); (try simp only [reduceCtorEq, E0])))))))
  · have f1 : (adE fr hol d n != 0) = true := by simpa using hE
    (repeat (any_goals (first
    | ((first
        | refine aw_srH fun K hK => ?_
        | refine aw_sdH fun K hK => ?_
        | refine aw_region ?_
        | refine aw_d ?_); simp only [go_sem, f1]; (try (refine IsK.go (by assumption) ?_; clear hK)); (repeat (refine IsQ.go (by assumption) ?_; (try dsimp only); (try simp only [reduceCtorEq, E0]))))
    | (refine aw_ret ?_; (repeat (refine IsQ.go (by assumption) ?_; (try dsimp only); (try simp only [reduceCtorEq, E0]))); simp only [go_sem, f1])
    | (refine aw_seqH fun Q hQ => ?_)
    | (refine aw_blockH fun Q hQ => ?_)
    | (refine aw_skip ?_; (repeat (refine IsQ.go (by assumption) ?_; (try dsimp only); (try simp only [reduceCtorEq, E0]))))
    | (refine aw_exit ?_; (repeat (refine IsQ.go (by assumption) ?_; (try dsimp only); (try simp only [reduceCtorEq, E0]))))
    | (refine aw_cond rfl ?_ ?_ <;> intro hc <;> (try simp only [reduceCtorEq, HC0] at hc))
    | ((first
        | refine vOps_split rfl ?_ ?_
        | refine vD_split rfl ?_ ?_) <;> intro hg <;> simp only [hg, go_sem, f1] <;> (try simp only [reduceCtorEq, HC0] at hg) <;> (try (refine IsK.go (by assumption) ?_; clear hK)) <;> (repeat (refine IsQ.go (by assumption) ?_; (try dsimp only); (try simp only [reduceCtorEq, E0])))))))
    refine call_lent (add19' fr hol d n) 1 (by simp only [go_sem]) (by simp only [belowL, belowA, and_self]) rfl ?_; (try dsimp only); (try simp only [go_sem]); (try (refine IsK.go (by assumption) ?_; clear hK)); (repeat (refine IsQ.go (by assumption) ?_; (try dsimp only); (try simp only [reduceCtorEq, E0])))
    (repeat (any_goals (first
    | ((first
        | refine aw_srH fun K hK => ?_
        | refine aw_sdH fun K hK => ?_
        | refine aw_region ?_
        | refine aw_d ?_); simp only [go_sem]; (try (refine IsK.go (by assumption) ?_; clear hK)); (repeat (refine IsQ.go (by assumption) ?_; (try dsimp only); (try simp only [reduceCtorEq, E0]))))
    | (refine aw_ret ?_; (repeat (refine IsQ.go (by assumption) ?_; (try dsimp only); (try simp only [reduceCtorEq, E0]))); simp only [go_sem])
    | (refine aw_seqH fun Q hQ => ?_)
    | (refine aw_blockH fun Q hQ => ?_)
    | (refine aw_skip ?_; (repeat (refine IsQ.go (by assumption) ?_; (try dsimp only); (try simp only [reduceCtorEq, E0]))))
    | (refine aw_exit ?_; (repeat (refine IsQ.go (by assumption) ?_; (try dsimp only); (try simp only [reduceCtorEq, E0]))))
    | (refine aw_cond rfl ?_ ?_ <;> intro hc <;> (try simp only [reduceCtorEq, HC0] at hc))
    | ((first
        | refine vOps_split rfl ?_ ?_
        | refine vD_split rfl ?_ ?_) <;> intro hg <;> simp only [hg, go_sem] <;> (try simp only [reduceCtorEq, HC0] at hg) <;> (try (refine IsK.go (by assumption) ?_; clear hK)) <;> (repeat (refine IsQ.go (by assumption) ?_; (try dsimp only); (try simp only [reduceCtorEq, E0])))))))
    refine call_lent (told23) 1 (by simp only [go_sem]) (by simp only [belowL, belowA, and_self]) rfl ?_; (try dsimp only); (try simp only [go_sem]); (try (refine IsK.go (by assumption) ?_; clear hK)); (repeat (refine IsQ.go (by assumption) ?_; (try dsimp only); (try simp only [reduceCtorEq, E0])))
    (repeat (any_goals (first
    | ((first
        | refine aw_srH fun K hK => ?_
        | refine aw_sdH fun K hK => ?_
        | refine aw_region ?_
        | refine aw_d ?_); simp only [go_sem]; (try (refine IsK.go (by assumption) ?_; clear hK)); (repeat (refine IsQ.go (by assumption) ?_; (try dsimp only); (try simp only [reduceCtorEq, E0]))))
    | (refine aw_ret ?_; (repeat (refine IsQ.go (by assumption) ?_; (try dsimp only); (try simp only [reduceCtorEq, E0]))); simp only [go_sem])
    | (refine aw_seqH fun Q hQ => ?_)
    | (refine aw_blockH fun Q hQ => ?_)
    | (refine aw_skip ?_; (repeat (refine IsQ.go (by assumption) ?_; (try dsimp only); (try simp only [reduceCtorEq, E0]))))
    | (refine aw_exit ?_; (repeat (refine IsQ.go (by assumption) ?_; (try dsimp only); (try simp only [reduceCtorEq, E0]))))
    | (refine aw_cond rfl ?_ ?_ <;> intro hc <;> (try simp only [reduceCtorEq, HC0] at hc))
    | ((first
        | refine vOps_split rfl ?_ ?_
        | refine vD_split rfl ?_ ?_) <;> intro hg <;> simp only [hg, go_sem] <;> (try simp only [reduceCtorEq, HC0] at hg) <;> (try (refine IsK.go (by assumption) ?_; clear hK)) <;> (repeat (refine IsQ.go (by assumption) ?_; (try dsimp only); (try simp only [reduceCtorEq, E0])))))))
end Go.Abs
