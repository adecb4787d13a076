/-
  Walks of the laws on days.
-/
import Derived.Test.YtjjhmldeammecaaW6b
namespace Go.Abs
open Go Go.Proofs
set_option maxRecDepth 4000

def iwE (fr hol : List Int) (d : Int) : Int := if calFault fr hol ≠ 0 then calFault fr hol else if ¬ (0 ≤ d ∧ d ≤ 1000000) then 9 else 0
def iwB (fr hol : List Int) (d : Int) : Bool := decide (iwE fr hol d = 0) && isWork fr hol d
theorem rIsWork_eq (fr hol : List Int) (d : Int) : rIsWork fr hol d = .tup [.p (vb (iwB fr hol d)), .p (vi (iwE fr hol d))] := by
  unfold rIsWork iwB iwE
  split
  · rename_i h; simp [h]
  · split <;> simp
def wdE (fr hol : List Int) (a b : Int) : Int := if calFault fr hol ≠ 0 then calFault fr hol else if ¬ (0 ≤ a ∧ a ≤ b ∧ b ≤ 1000000) then 9 else 0
def wdN (fr hol : List Int) (a b : Int) : Int := if wdE fr hol a b = 0 then cw fr hol a (b - a).toNat else 0
theorem rWorkDays_eq (fr hol : List Int) (a b : Int) : rWorkDays fr hol a b = .tup [.p (vi (wdN fr hol a b)), .p (vi (wdE fr hol a b))] := by
  unfold rWorkDays wdN wdE
  split
  · rename_i h; simp [h]
  · split <;> simp
def adE (fr hol : List Int) (d n : Int) : Int := if calFault fr hol ≠ 0 then calFault fr hol else if ¬ ((0 ≤ d ∧ d ≤ 1000000) ∧ 0 ≤ n ∧ n ≤ 1000000) then 9 else if 1000000 < d + addK fr hol d n then 3 else 0
def adD (fr hol : List Int) (d n : Int) : Int := if adE fr hol d n = 0 then d + addK fr hol d n else 0
theorem rAdd_eq (fr hol : List Int) (d n : Int) : rAdd fr hol d n = .tup [.p (vi (adD fr hol d n)), .p (vi (adE fr hol d n))] := by
  unfold rAdd adD adE
  split
  · rename_i h; simp [h]
  · split
    · simp
    · split <;> simp
theorem isWork15' (fr hol : List Int) (d : Int) : APure Try.prog 15 [.p (calP fr hol), .p (vi d)] (.tup [.p (vb (iwB fr hol d)), .p (vi (iwE fr hol d))]) := rIsWork_eq fr hol d ▸ isWork15 fr hol d
theorem isWork16' (fr hol : List Int) (d : Int) : APure Try.prog 16 [.p (calP fr hol), .p (vi d)] (.tup [.p (vb (iwB fr hol d)), .p (vi (iwE fr hol d))]) := rIsWork_eq fr hol d ▸ isWork16 fr hol d
theorem workDays17' (fr hol : List Int) (a b : Int) : APure Try.prog 17 [.p (calP fr hol), .p (vi a), .p (vi b)] (.tup [.p (vi (wdN fr hol a b)), .p (vi (wdE fr hol a b))]) := rWorkDays_eq fr hol a b ▸ workDays17 fr hol a b
theorem workDays18' (fr hol : List Int) (a b : Int) : APure Try.prog 18 [.p (calP fr hol), .p (vi a), .p (vi b)] (.tup [.p (vi (wdN fr hol a b)), .p (vi (wdE fr hol a b))]) := rWorkDays_eq fr hol a b ▸ workDays18 fr hol a b
theorem add19' (fr hol : List Int) (d n : Int) : APure Try.prog 19 [.p (calP fr hol), .p (vi d), .p (vi n)] (.tup [.p (vi (adD fr hol d n)), .p (vi (adE fr hol d n))]) := rAdd_eq fr hol d n ▸ add19 fr hol d n
theorem add20' (fr hol : List Int) (d n : Int) : APure Try.prog 20 [.p (calP fr hol), .p (vi d), .p (vi n)] (.tup [.p (vi (adD fr hol d n)), .p (vi (adE fr hol d n))]) := rAdd_eq fr hol d n ▸ add20 fr hol d n

theorem told23 : APure Try.prog 23 [] (.p (vb true)) := by
  refine apure 1 rf23_ok rfl ?_
  simp only [rf23]
  have hE : wdE [5, 6] [] 0 14 = 0 := by decide
  have hN : wdN [5, 6] [] 0 14 = 10 := by decide
  have hcall : APure Try.prog 18 [.p (.agg [.sl [[vi 5], [vi 6]], .c (.slice none 0 0)]), .p (vi 0), .p (vi 14)] (.tup [.p (vi 10), .p (vi 0)]) := by
    have := workDays18' [5, 6] [] 0 14
    rw [hE, hN] at this
    exact this.nz rfl
  (repeat (any_goals (first
    | ((first
        | refine aw_srH fun K hK => ?_
        | refine aw_sdH fun K hK => ?_
        | refine aw_region ?_
        | refine aw_d ?_); simp only [go_sem]; (try (refine IsK.go (by assumption) ?_; clear hK)); (repeat (refine IsQ.go (by assumption) ?_; (try dsimp only); (try simp only [reduceCtorEq, E0]))))
    | (refine aw_ret ?_; (repeat (refine IsQ.go (by assumption) ?_; (try dsimp only); (try simp only [reduceCtorEq, E0]))); simp only [go_sem])
    | (refine aw_seqH fun Q hQ => ?_)
    | (refine aw_blockH fun Q hQ => ?_)
    | (refine aw_skip ?_; (repeat (refine IsQ.go (by assumption) ?_; (try dsimp only); (try simp only [reduceCtorEq, E0]))))
    | (refine aw_exit ?_; (repeat (refine IsQ.go (by assumption) ?_; (try dsimp only); (try simp only [reduceCtorEq, E0]))))
    | (refine aw_cond rfl ?_ ?_ <;> intro hc <;> (try simp only [reduceCtorEq, HC0] at hc))
    | ((first
        | refine vOps_split rfl ?_ ?_
        | refine vD_split rfl ?_ ?_) <;> intro hg <;> simp only [hg, go_sem] <;> (try simp only [reduceCtorEq, HC0] at hg) <;> (try (refine IsK.go (by assumption) ?_; clear hK)) <;> (repeat (refine IsQ.go (by assumption) ?_; (try dsimp only); (try simp only [reduceCtorEq, E0])))))))
  refine call_lent (hcall) 1 (by simp only [go_sem]) (by simp only [belowL, belowA, and_self]) rfl ?_; (try dsimp only); (try simp only [go_sem]); (try (refine IsK.go (by assumption) ?_; clear hK)); (repeat (refine IsQ.go (by assumption) ?_; (try dsimp only); (try simp only [reduceCtorEq, E0])))
  (repeat (any_goals (first
    | ((first
        | refine aw_srH fun K hK => ?_
        | refine aw_sdH fun K hK => ?_
        | refine aw_region ?_
        | refine aw_d ?_); simp only [go_sem]; (try (refine IsK.go (by assumption) ?_; clear hK)); (repeat (refine IsQ.go (by assumption) ?_; (try dsimp only); (try simp only [reduceCtorEq, E0]))))
    | (refine aw_ret ?_; (repeat (refine IsQ.go (by assumption) ?_; (try dsimp only); (try simp only [reduceCtorEq, E0]))); simp only [go_sem])
    | (refine aw_seqH fun Q hQ => ?_)
    | (refine aw_blockH fun Q hQ => ?_)
    | (refine aw_skip ?_; (repeat (refine IsQ.go (by assumption) ?_; (try dsimp only); (try simp only [reduceCtorEq, E0]))))
    | (refine aw_exit ?_; (repeat (refine IsQ.go (by assumption) ?_; (try dsimp only); (try simp only [reduceCtorEq, E0]))))
    | (refine aw_cond rfl ?_ ?_ <;> intro hc <;> (try simp only [reduceCtorEq, HC0] at hc))
    | ((first
        | refine vOps_split rfl ?_ ?_
        | refine vD_split rfl ?_ ?_) <;> intro hg <;> simp only [hg, go_sem] <;> (try simp only [reduceCtorEq, HC0] at hg) <;> (try (refine IsK.go (by assumption) ?_; clear hK)) <;> (repeat (refine IsQ.go (by assumption) ?_; (try dsimp only); (try simp only [reduceCtorEq, E0])))))))

theorem days3 (fr hol : List Int) (d e n : Int) : APure Try.prog 3 [.p (calP fr hol), .p (vi d), .p (vi e), .p (vi n)] (.p (vb true)) := by
  refine apure 1 rf3_ok rfl ?_
  simp only [rf3]
  (repeat (any_goals (first
    | ((first
        | refine aw_srH fun K hK => ?_
        | refine aw_sdH fun K hK => ?_
        | refine aw_region ?_
        | refine aw_d ?_); simp only [go_sem]; (try (refine IsK.go (by assumption) ?_; clear hK)); (repeat (refine IsQ.go (by assumption) ?_; (try dsimp only); (try simp only [reduceCtorEq, E0]))))
    | (refine aw_ret ?_; (repeat (refine IsQ.go (by assumption) ?_; (try dsimp only); (try simp only [reduceCtorEq, E0]))); simp only [go_sem])
    | (refine aw_seqH fun Q hQ => ?_)
    | (refine aw_blockH fun Q hQ => ?_)
    | (refine aw_skip ?_; (repeat (refine IsQ.go (by assumption) ?_; (try dsimp only); (try simp only [reduceCtorEq, E0]))))
    | (refine aw_exit ?_; (repeat (refine IsQ.go (by assumption) ?_; (try dsimp only); (try simp only [reduceCtorEq, E0]))))
    | (refine aw_cond rfl ?_ ?_ <;> intro hc <;> (try simp only [reduceCtorEq, HC0] at hc))
    | ((first
        | refine vOps_split rfl ?_ ?_
        | refine vD_split rfl ?_ ?_) <;> intro hg <;> simp only [hg, go_sem] <;> (try simp only [reduceCtorEq, HC0] at hg) <;> (try (refine IsK.go (by assumption) ?_; clear hK)) <;> (repeat (refine IsQ.go (by assumption) ?_; (try dsimp only); (try simp only [reduceCtorEq, E0])))))))
  refine call_lent (isWork15' fr hol d) 1 (by simp only [go_sem]) (by simp only [belowL, belowA, and_self]) rfl ?_; (try dsimp only); (try simp only [go_sem]); (try (refine IsK.go (by assumption) ?_; clear hK)); (repeat (refine IsQ.go (by assumption) ?_; (try dsimp only); (try simp only [reduceCtorEq, E0])))
  (repeat (any_goals (first
    | ((first
        | refine aw_srH fun K hK => ?_
        | refine aw_sdH fun K hK => ?_
        | refine aw_region ?_
        | refine aw_d ?_); simp only [go_sem]; (try (refine IsK.go (by assumption) ?_; clear hK)); (repeat (refine IsQ.go (by assumption) ?_; (try dsimp only); (try simp only [reduceCtorEq, E0]))))
    | (refine aw_ret ?_; (repeat (refine IsQ.go (by assumption) ?_; (try dsimp only); (try simp only [reduceCtorEq, E0]))); simp only [go_sem])
    | (refine aw_seqH fun Q hQ => ?_)
    | (refine aw_blockH fun Q hQ => ?_)
    | (refine aw_skip ?_; (repeat (refine IsQ.go (by assumption) ?_; (try dsimp only); (try simp only [reduceCtorEq, E0]))))
    | (refine aw_exit ?_; (repeat (refine IsQ.go (by assumption) ?_; (try dsimp only); (try simp only [reduceCtorEq, E0]))))
    | (refine aw_cond rfl ?_ ?_ <;> intro hc <;> (try simp only [reduceCtorEq, HC0] at hc))
    | ((first
        | refine vOps_split rfl ?_ ?_
        | refine vD_split rfl ?_ ?_) <;> intro hg <;> simp only [hg, go_sem] <;> (try simp only [reduceCtorEq, HC0] at hg) <;> (try (refine IsK.go (by assumption) ?_; clear hK)) <;> (repeat (refine IsQ.go (by assumption) ?_; (try dsimp only); (try simp only [reduceCtorEq, E0])))))))
  refine call_lent (isWork16' fr hol d) 1 (by simp only [go_sem]) (by simp only [belowL, belowA, and_self]) rfl ?_; (try dsimp only); (try simp only [go_sem]); (try (refine IsK.go (by assumption) ?_; clear hK)); (repeat (refine IsQ.go (by assumption) ?_; (try dsimp only); (try simp only [reduceCtorEq, E0])))
  (repeat (any_goals (first
    | ((first
        | refine aw_srH fun K hK => ?_
        | refine aw_sdH fun K hK => ?_
        | refine aw_region ?_
        | refine aw_d ?_); simp only [go_sem]; (try (refine IsK.go (by assumption) ?_; clear hK)); (repeat (refine IsQ.go (by assumption) ?_; (try dsimp only); (try simp only [reduceCtorEq, E0]))))
    | (refine aw_ret ?_; (repeat (refine IsQ.go (by assumption) ?_; (try dsimp only); (try simp only [reduceCtorEq, E0]))); simp only [go_sem])
    | (refine aw_seqH fun Q hQ => ?_)
    | (refine aw_blockH fun Q hQ => ?_)
    | (refine aw_skip ?_; (repeat (refine IsQ.go (by assumption) ?_; (try dsimp only); (try simp only [reduceCtorEq, E0]))))
    | (refine aw_exit ?_; (repeat (refine IsQ.go (by assumption) ?_; (try dsimp only); (try simp only [reduceCtorEq, E0]))))
    | (refine aw_cond rfl ?_ ?_ <;> intro hc <;> (try simp only [reduceCtorEq, HC0] at hc))
    | ((first
        | refine vOps_split rfl ?_ ?_
        | refine vD_split rfl ?_ ?_) <;> intro hg <;> simp only [hg, go_sem] <;> (try simp only [reduceCtorEq, HC0] at hg) <;> (try (refine IsK.go (by assumption) ?_; clear hK)) <;> (repeat (refine IsQ.go (by assumption) ?_; (try dsimp only); (try simp only [reduceCtorEq, E0])))))))
  refine call_lent (workDays17' fr hol d e) 1 (by simp only [go_sem]) (by simp only [belowL, belowA, and_self]) rfl ?_; (try dsimp only); (try simp only [go_sem]); (try (refine IsK.go (by assumption) ?_; clear hK)); (repeat (refine IsQ.go (by assumption) ?_; (try dsimp only); (try simp only [reduceCtorEq, E0])))
  (repeat (any_goals (first
    | ((first
        | refine aw_srH fun K hK => ?_
        | refine aw_sdH fun K hK => ?_
        | refine aw_region ?_
        | refine aw_d ?_); simp only [go_sem]; (try (refine IsK.go (by assumption) ?_; clear hK)); (repeat (refine IsQ.go (by assumption) ?_; (try dsimp only); (try simp only [reduceCtorEq, E0]))))
    | (refine aw_ret ?_; (repeat (refine IsQ.go (by assumption) ?_; (try dsimp only); (try simp only [reduceCtorEq, E0]))); simp only [go_sem])
    | (refine aw_seqH fun Q hQ => ?_)
    | (refine aw_blockH fun Q hQ => ?_)
    | (refine aw_skip ?_; (repeat (refine IsQ.go (by assumption) ?_; (try dsimp only); (try simp only [reduceCtorEq, E0]))))
    | (refine aw_exit ?_; (repeat (refine IsQ.go (by assumption) ?_; (try dsimp only); (try simp only [reduceCtorEq, E0]))))
    | (refine aw_cond rfl ?_ ?_ <;> intro hc <;> (try simp only [reduceCtorEq, HC0] at hc))
    | ((first
        | refine vOps_split rfl ?_ ?_
        | refine vD_split rfl ?_ ?_) <;> intro hg <;> simp only [hg, go_sem] <;> (try simp only [reduceCtorEq, HC0] at hg) <;> (try (refine IsK.go (by assumption) ?_; clear hK)) <;> (repeat (refine IsQ.go (by assumption) ?_; (try dsimp only); (try simp only [reduceCtorEq, E0])))))))
  refine call_lent (workDays18' fr hol d e) 1 (by simp only [go_sem]) (by simp only [belowL, belowA, and_self]) rfl ?_; (try dsimp only); (try simp only [go_sem]); (try (refine IsK.go (by assumption) ?_; clear hK)); (repeat (refine IsQ.go (by assumption) ?_; (try dsimp only); (try simp only [reduceCtorEq, E0])))
  (repeat (any_goals (first
    | ((first
        | refine aw_srH fun K hK => ?_
        | refine aw_sdH fun K hK => ?_
        | refine aw_region ?_
        | refine aw_d ?_); simp only [go_sem]; (try (refine IsK.go (by assumption) ?_; clear hK)); (repeat (refine IsQ.go (by assumption) ?_; (try dsimp only); (try simp only [reduceCtorEq, E0]))))
    | (refine aw_ret ?_; (repeat (refine IsQ.go (by assumption) ?_; (try dsimp only); (try simp only [reduceCtorEq, E0]))); simp only [go_sem])
    | (refine aw_seqH fun Q hQ => ?_)
    | (refine aw_blockH fun Q hQ => ?_)
    | (refine aw_skip ?_; (repeat (refine IsQ.go (by assumption) ?_; (try dsimp only); (try simp only [reduceCtorEq, E0]))))
    | (refine aw_exit ?_; (repeat (refine IsQ.go (by assumption) ?_; (try dsimp only); (try simp only [reduceCtorEq, E0]))))
    | (refine aw_cond rfl ?_ ?_ <;> intro hc <;> (try simp only [reduceCtorEq, HC0] at hc))
    | ((first
        | refine vOps_split rfl ?_ ?_
        | refine vD_split rfl ?_ ?_) <;> intro hg <;> simp only [hg, go_sem] <;> (try simp only [reduceCtorEq, HC0] at hg) <;> (try (refine IsK.go (by assumption) ?_; clear hK)) <;> (repeat (refine IsQ.go (by assumption) ?_; (try dsimp only); (try simp only [reduceCtorEq, E0])))))))
  refine call_lent (add19' fr hol d n) 1 (by simp only [go_sem]) (by simp only [belowL, belowA, and_self]) rfl ?_; (try dsimp only); (try simp only [go_sem]); (try (refine IsK.go (by assumption) ?_; clear hK)); (repeat (refine IsQ.go (by assumption) ?_; (try dsimp only); (try simp only [reduceCtorEq, E0])))
  (repeat (any_goals (first
    | ((first
        | refine aw_srH fun K hK => ?_
        | refine aw_sdH fun K hK => ?_
        | refine aw_region ?_
        | refine aw_d ?_); simp only [go_sem]; (try (refine IsK.go (by assumption) ?_; clear hK)); (repeat (refine IsQ.go (by assumption) ?_; (try dsimp only); (try simp only [reduceCtorEq, E0]))))
    | (refine aw_ret ?_; (repeat (refine IsQ.go (by assumption) ?_; (try dsimp only); (try simp only [reduceCtorEq, E0]))); simp only [go_sem])
    | (refine aw_seqH fun Q hQ => ?_)
    | (refine aw_blockH fun Q hQ => ?_)
    | (refine aw_skip ?_; (repeat (refine IsQ.go (by assumption) ?_; (try dsimp only); (try simp only [reduceCtorEq, E0]))))
    | (refine aw_exit ?_; (repeat (refine IsQ.go (by assumption) ?_; (try dsimp only); (try simp only [reduceCtorEq, E0]))))
    | (refine aw_cond rfl ?_ ?_ <;> intro hc <;> (try simp only [reduceCtorEq, HC0] at hc))
    | ((first
        | refine vOps_split rfl ?_ ?_
        | refine vD_split rfl ?_ ?_) <;> intro hg <;> simp only [hg, go_sem] <;> (try simp only [reduceCtorEq, HC0] at hg) <;> (try (refine IsK.go (by assumption) ?_; clear hK)) <;> (repeat (refine IsQ.go (by assumption) ?_; (try dsimp only); (try simp only [reduceCtorEq, E0])))))))
  refine call_lent (add20' fr hol d n) 1 (by simp only [go_sem]) (by simp only [belowL, belowA, and_self]) rfl ?_; (try dsimp only); (try simp only [go_sem]); (try (refine IsK.go (by assumption) ?_; clear hK)); (repeat (refine IsQ.go (by assumption) ?_; (try dsimp only); (try simp only [reduceCtorEq, E0])))
  (repeat (any_goals (first
    | ((first
        | refine aw_srH fun K hK => ?_
        | refine aw_sdH fun K hK => ?_
        | refine aw_region ?_
        | refine aw_d ?_); simp only [go_sem]; (try (refine IsK.go (by assumption) ?_; clear hK)); (repeat (refine IsQ.go (by assumption) ?_; (try dsimp only); (try simp only [reduceCtorEq, E0]))))
    | (refine aw_ret ?_; (repeat (refine IsQ.go (by assumption) ?_; (try dsimp only); (try simp only [reduceCtorEq, E0]))); simp only [go_sem])
    | (refine aw_seqH fun Q hQ => ?_)
    | (refine aw_blockH fun Q hQ => ?_)
    | (refine aw_skip ?_; (repeat (refine IsQ.go (by assumption) ?_; (try dsimp only); (try simp only [reduceCtorEq, E0]))))
    | (refine aw_exit ?_; (repeat (refine IsQ.go (by assumption) ?_; (try dsimp only); (try simp only [reduceCtorEq, E0]))))
    | (refine aw_cond rfl ?_ ?_ <;> intro hc <;> (try simp only [reduceCtorEq, HC0] at hc))
    | ((first
        | refine vOps_split rfl ?_ ?_
        | refine vD_split rfl ?_ ?_) <;> intro hg <;> simp only [hg, go_sem] <;> (try simp only [reduceCtorEq, HC0] at hg) <;> (try (refine IsK.go (by assumption) ?_; clear hK)) <;> (repeat (refine IsQ.go (by assumption) ?_; (try dsimp only); (try simp only [reduceCtorEq, E0])))))))
  refine ⟨_, call_lent (checkCal21 fr hol) 1 (by simp only [go_sem]) (by simp only [belowL, belowA, and_self]) rfl ⟨rfl, rfl, rfl⟩, ?_⟩; (try simp only [go_sem]); (try (refine IsK.go (by assumption) ?_; clear hK)); (repeat (refine IsQ.go (by assumption) ?_; (try dsimp only); (try simp only [reduceCtorEq, E0])))
  refine ⟨_, call_lent (checkCal22 fr hol) 1 (by simp only [go_sem]) (by simp only [belowL, belowA, and_self]) rfl ⟨rfl, rfl, rfl⟩, ?_⟩; (try simp only [go_sem]); (try (refine IsK.go (by assumption) ?_; clear hK)); (repeat (refine IsQ.go (by assumption) ?_; (try dsimp only); (try simp only [reduceCtorEq, E0])))
  refine ⟨_, call_lent (told23) 1 (by simp only [go_sem]) (by simp only [belowL, belowA, and_self]) rfl ⟨rfl, rfl, rfl⟩, ?_⟩; (try simp only [go_sem]); (try (refine IsK.go (by assumption) ?_; clear hK)); (repeat (refine IsQ.go (by assumption) ?_; (try dsimp only); (try simp only [reduceCtorEq, E0])))
  (repeat (any_goals (first
    | ((first
        | refine aw_srH fun K hK => ?_
        | refine aw_sdH fun K hK => ?_
        | refine aw_region ?_
        | refine aw_d ?_); simp only [go_sem]; (try (refine IsK.go (by assumption) ?_; clear hK)); (repeat (refine IsQ.go (by assumption) ?_; (try dsimp only); (try simp only [reduceCtorEq, E0]))))
    | (refine aw_ret ?_; (repeat (refine IsQ.go (by assumption) ?_; (try dsimp only); (try simp only [reduceCtorEq, E0]))); simp only [go_sem])
    | (refine aw_seqH fun Q hQ => ?_)
    | (refine aw_blockH fun Q hQ => ?_)
    | (refine aw_skip ?_; (repeat (refine IsQ.go (by assumption) ?_; (try dsimp only); (try simp only [reduceCtorEq, E0]))))
    | (refine aw_exit ?_; (repeat (refine IsQ.go (by assumption) ?_; (try dsimp only); (try simp only [reduceCtorEq, E0]))))
    | (refine aw_cond rfl ?_ ?_ <;> intro hc <;> (try simp only [reduceCtorEq, HC0] at hc))
    | ((first
        | refine vOps_split rfl ?_ ?_
        | refine vD_split rfl ?_ ?_) <;> intro hg <;> simp only [hg, go_sem] <;> (try simp only [reduceCtorEq, HC0] at hg) <;> (try (refine IsK.go (by assumption) ?_; clear hK)) <;> (repeat (refine IsQ.go (by assumption) ?_; (try dsimp only); (try simp only [reduceCtorEq, E0])))))))
end Go.Abs
