/- The walks of these functions against the plain ones (printed by a program of this repo). -/
import Derived.Test.YtjjhmldeammecaaGHka
namespace Go.Abs
open Go Go.Proofs
set_option maxRecDepth 8000
theorem law11_sameRelease_ok {v0 : T_api_Release} {v1 : T_api_Release} {r0} (hF : law11_sameRelease v0 v1 = some r0) : APure Try.prog 37 [.p (.agg [vs v0.Version.b, vi v0.Day, .sl (v0.Exposures.map T_api_Exposure.c)]), .p (.agg [vs v1.Version.b, vi v1.Day, .sl (v1.Exposures.map T_api_Exposure.c)])] (.p (vb r0)) := by
  refine apureZ 2 rc37_ok rfl ?_
  simp only [rc37, argEnv, Nat.reduceAdd]
  unfold law11_sameRelease at hF
  refine aw_srH fun K hK => ?_
  (try simp only [go_sem])
  refine IsK.go (by assumption) ?_
  obtain ⟨b3, h4, hF⟩ := bind_some hF
  refine aw_srJ ⟨[(4, .p (vb b3))], [], 2⟩ (fun K hK => ?_) ?_
  · (try simp only [go_sem])
    (try simp only [go_sem])
    refine vOps_split rfl ?_ ?_ <;> intro hg5 <;> (try simp only [hg5, go_sem])
    · (try simp only [go_sem, hg5])
      refine vOps_split rfl ?_ ?_ <;> intro hg6 <;> (try simp only [hg6, go_sem])
      · simp only [hg5, hg6, gbS] at h4
        obtain ⟨y7, h8, h4⟩ := bind_some h4
        (try simp only [go_sem, hg5, hg6])
        refine call_pure (slices_Equal_Exposure_Exposure_ok h8) rfl (by simp only [go_sem]) (by simp only [go_sem]) ?_
        (try dsimp only); (try simp only [go_sem, hg5, hg6])
        cases h4
        (try simp only [go_sem, hg5, hg6])
        refine IsK.go (by assumption) ?_
        exact (Upd.sub (show 2 ≤ 2 by decide) (by simp [go_sem, envSub, Env.get]) trivial)
      · simp only [hg5, hg6, gbS] at h4
        cases h4
        (try simp only [go_sem, hg5, hg6])
        refine IsK.go (by assumption) ?_
        exact (Upd.sub (show 2 ≤ 2 by decide) (by simp [go_sem, envSub, Env.get]) trivial)
    · simp only [hg5, gbS] at h4
      cases h4
      (try simp only [go_sem, hg5])
      refine IsK.go (by assumption) ?_
      exact (Upd.sub (show 2 ≤ 2 by decide) (by simp [go_sem, envSub, Env.get]) trivial)
  refine aw_ret ?_
  (repeat (refine IsQ.go (by assumption) ?_; (try dsimp only); (try simp only [reduceCtorEq, E0])))
  cases hF
  simp only [go_sem]
end Go.Abs
