/-
  Plain facts of history: windows are the days on which something is open; the laws on Why and on open days.
-/
import Derived.Test.YtjjhmldeammecaaFHy
import Derived.Test.YtjjhmldeammecaaXHw
namespace Go.Abs
open Go

/-! ### Why -/
theorem why_loop (day : Int) (l : Wins) (hl : l.length ≤ 1000000) : ∃ r, seqK (forL (σ := (List T_api_Window) × (List T_api_Window)) (τ := (List T_api_Window) × (List T_api_Window)) l (fun _ x10 (l29, l30) => seqK (τ := (List T_api_Window)) (if (x10.From == day) = true then (Option.bind (app 64 l29 [x10]) fun l46 => some (.inl l46)) else (some (.inl l29))) fun l44 => if ((x10.To == day) && (!x10.Open)) = true then (Option.bind (app 64 l30 [x10]) fun l49 => some (.next (l44, l49))) else (some (.next (l44, l30)))) (fun (l29, l30) => (l29, l30)) (([] : List T_api_Window), ([] : List T_api_Window))) (fun (l39, l40) => some (l39, l40, (0 : Int))) = some r ∧ True := by
  refine seqK_out (B := fun _ => True) (R := fun _ => False) (forL_inv' (I := fun i s => s.1.length ≤ i ∧ s.2.length ≤ i) ⟨Nat.le_refl _, Nat.le_refl _⟩ ?_ (fun _ _ => trivial)) (fun ⟨a, b⟩ _ => ⟨_, rfl, trivial⟩) (fun _ h => h.elim)
  rintro i x ⟨a, b⟩ hx ⟨h1, h2⟩
  have hi := getElem?_some_lt hx
  dsimp only at h1 h2 ⊢
  have e1 : app 64 a [x] = some (a ++ [x]) := app_one (n := 1000001) (by omega) (by decide) (by decide)
  have e2 : app 64 b [x] = some (b ++ [x]) := app_one (n := 1000001) (by omega) (by decide) (by decide)
  simp only [e1, e2, Option.bind_some]
  by_cases c1 : (x.From == day) = true <;> by_cases c2 : ((x.To == day) && (!x.Open)) = true
  all_goals simp only [c1, c2, if_true, if_false, seqK_inl, Bool.false_eq_true]
  all_goals refine ⟨_, rfl, ?_⟩
  all_goals simp only [OutE, List.length_append, List.length_singleton]
  all_goals omega
theorem Why_eq (s : T_api_Story) (day : Int) : ∃ r, history_Why bigFuel s day = some r ∧ ref11_Why bigFuel s day = some r := by
  unfold history_Why ref11_Why
  rw [history_Check_eq, ref11_Check_eq, history_isDay_eq, ref11_isDay_eq]
  simp only [Option.bind_some]
  by_cases h : sFault s = 0
  · obtain ⟨w, h1, h2, h3⟩ := windows_eq (storyOk h)
    simp only [h, bne_self_eq_false, Bool.false_eq_true, if_false, h1, h2, Option.bind_some]
    cases dayOk day with
    | false => exact ⟨_, rfl, rfl⟩
    | true =>
      simp only [Bool.not_true, Bool.false_eq_true, if_false]
      have hl := unsorted_len (storyOk h)
      rw [h3.perm.length_eq] at hl
      obtain ⟨r, hr, _⟩ := why_loop day w (by omega)
      exact ⟨r, hr, hr⟩
  · rw [if_pos (by simpa using h), if_pos (by simpa using h)]
    exact ⟨_, rfl, rfl⟩
theorem law_Why (s : T_api_Story) (day : Int) : law11_HistoryWhyMatchesSpec bigFuel s day = some true := by
  obtain ⟨⟨a, b, e⟩, h1, h2⟩ := Why_eq s day
  simp only [law11_HistoryWhyMatchesSpec, h1, h2, Option.bind_some, eqW_self, beq_self_eq_true, Bool.and_self, gAnd, if_true, law11_told]

/-! ### Windows and pieces -/
