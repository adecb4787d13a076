/-
  Plain facts of history: windows are the days on which something is open; the laws on Why and on open days.
-/
import Derived.Test.YtjjhmldeammecaaFHw
import Derived.Test.YtjjhmldeammecaaXHw
namespace Go.Abs
open Go

/-! ### Why -/
/-! ### Windows and pieces -/
def acW (w : T_api_Window) : T_history_key := T_history_key.mk w.Advisory w.Component
structure WI (ps : List T_history_piece) (st : Lasts × Wins) : Prop where
  ok : lastsOk st
  pos : ∀ w ∈ st.2, w.From < w.To
  key : ∀ k i, mget T_history_key.keq k st.1 = some i → ∃ w, st.2[i.toNat]? = some w ∧ acW w = k ∧ ∀ (j : Nat) w', i.toNat < j → st.2[j]? = some w' → acW w' ≠ k
  nokey : ∀ k, mget T_history_key.keq k st.1 = none → ∀ w ∈ st.2, acW w ≠ k
  sep : ∀ (i j : Nat) w w', i < j → st.2[i]? = some w → st.2[j]? = some w' → acW w = acW w' → w.To < w'.From
  last : ∀ w ∈ st.2, ∃ p ∈ ps, keyP p = acW w ∧ p.to' = w.To
  cov : ∀ k d, (∃ w ∈ st.2, acW w = k ∧ w.From ≤ d ∧ d < w.To) ↔ (∃ p ∈ ps, keyP p = k ∧ p.from' ≤ d ∧ d < p.to')
theorem WI.push {ps : List T_history_piece} {st : Lasts × Wins} (h : WI ps st) {p : T_history_piece} (hp : p.from' < p.to') (hq : ∀ q ∈ ps, keyP q = keyP p → q.to' ≤ p.from')
    (hne : ∀ i w, mget T_history_key.keq (keyP p) st.1 = some i → st.2[i.toNat]? = some w → w.To ≠ p.from') :
    WI (ps ++ [p]) (mset T_history_key.keq (keyP p) (st.2.length : Int) st.1, st.2 ++ [newW p]) := by
  have hlt : ∀ w ∈ st.2, acW w = keyP p → w.To < p.from' := by
    intro w hw e
    obtain ⟨q, q1, q2, q3⟩ := h.last w hw
    have h1 : w.To ≤ p.from' := by rw [← q3]; exact hq q q1 (q2.trans e)
    cases hm : mget T_history_key.keq (keyP p) st.1 with
    | none => exact absurd e (h.nokey _ hm w hw)
    | some i =>
      obtain ⟨u, u1, u2, u3⟩ := h.key _ _ hm
      have h2 := hne i u hm u1
      obtain ⟨r, r1, r2, r3⟩ := h.last u (List.mem_of_getElem? u1)
      have h3 : u.To ≤ p.from' := by rw [← r3]; exact hq r r1 (r2.trans u2)
      obtain ⟨j, hj⟩ := List.getElem?_of_mem hw
      rcases Nat.lt_trichotomy j i.toNat with e1 | e1 | e1
      · have h4 := h.sep j i.toNat w u e1 hj u1 (e.trans u2.symm)
        have h5 := h.pos u (List.mem_of_getElem? u1)
        omega
      · subst e1
        rw [hj] at u1; cases u1
        omega
      · exact absurd e (u3 j w e1 hj)
  have hget : ∀ j, j < st.2.length → (st.2 ++ [newW p])[j]? = st.2[j]? := fun j hj => List.getElem?_append_left hj
  have hlastg : (st.2 ++ [newW p])[st.2.length]? = some (newW p) := by simp
  have hcase : ∀ (j : Nat) u, (st.2 ++ [newW p])[j]? = some u → (j < st.2.length ∧ st.2[j]? = some u) ∨ (j = st.2.length ∧ u = newW p) := fun j u hu => by
    have hj := getElem?_some_lt hu
    simp only [List.length_append, List.length_singleton] at hj
    rcases Nat.lt_or_ge j st.2.length with h1 | h1
    · exact .inl ⟨h1, by rw [← hget j h1]; exact hu⟩
    · obtain rfl : j = st.2.length := by omega
      rw [hlastg] at hu
      exact .inr ⟨rfl, (Option.some.inj hu).symm⟩
  have hac : acW (newW p) = keyP p := rfl
  refine { ok := ?_, pos := ?_, key := ?_, nokey := ?_, sep := ?_, last := ?_, cov := ?_ }
  · intro k i hk
    dsimp only at hk ⊢
    by_cases e : k = keyP p
    · rw [(mget_set key_eq k (keyP p) _ st.1).1 e] at hk
      cases hk
      simp
    · rw [(mget_set key_eq k (keyP p) _ st.1).2 e] at hk
      have := h.ok k i hk
      simp; omega
  · intro w hw
    rcases List.mem_append.1 hw with hw | hw
    · exact h.pos w hw
    · rw [List.mem_singleton] at hw; subst hw; exact hp
  · intro k i hk
    dsimp only at hk ⊢
    by_cases e : k = keyP p
    · rw [(mget_set key_eq k (keyP p) _ st.1).1 e] at hk
      cases hk
      refine ⟨newW p, by rw [Int.toNat_natCast]; exact hlastg, e.symm, fun j w' hj hw' => ?_⟩
      have := getElem?_some_lt hw'
      simp at this hj; omega
    · rw [(mget_set key_eq k (keyP p) _ st.1).2 e] at hk
      obtain ⟨w, w1, w2, w3⟩ := h.key k i hk
      have hi := (h.ok k i hk).2
      refine ⟨w, by rw [hget _ hi]; exact w1, w2, fun j w' hj hw' => ?_⟩
      rcases hcase j w' hw' with ⟨h1, h2⟩ | ⟨_, rfl⟩
      · exact w3 j w' hj h2
      · rw [hac]; exact fun e' => e e'.symm
  · intro k hk w hw
    dsimp only at hk hw
    have e : k ≠ keyP p := fun e => by rw [(mget_set key_eq k (keyP p) _ st.1).1 e] at hk; cases hk
    rw [(mget_set key_eq k (keyP p) _ st.1).2 e] at hk
    rcases List.mem_append.1 hw with hw | hw
    · exact h.nokey k hk w hw
    · rw [List.mem_singleton] at hw; subst hw; rw [hac]; exact fun e' => e e'.symm
  · intro i j w w' hij hw hw' hk
    rcases hcase j w' hw' with ⟨h1, h2⟩ | ⟨h1, rfl⟩
    · rcases hcase i w hw with ⟨h3, h4⟩ | ⟨h3, _⟩
      · exact h.sep i j w w' hij h4 h2 hk
      · omega
    · rcases hcase i w hw with ⟨h3, h4⟩ | ⟨h3, _⟩
      · exact hlt w (List.mem_of_getElem? h4) hk
      · omega
  · intro w hw
    rcases List.mem_append.1 hw with hw | hw
    · obtain ⟨q, q1, q2⟩ := h.last w hw
      exact ⟨q, by simp [q1], q2⟩
    · rw [List.mem_singleton] at hw; subst hw
      exact ⟨p, by simp, rfl, rfl⟩
  · intro k d
    constructor
    · rintro ⟨w, hw, e, h1, h2⟩
      rcases List.mem_append.1 hw with hw | hw
      · obtain ⟨q, q1, q2⟩ := (h.cov k d).1 ⟨w, hw, e, h1, h2⟩
        exact ⟨q, by simp [q1], q2⟩
      · rw [List.mem_singleton] at hw; subst hw
        exact ⟨p, by simp, e, h1, h2⟩
    · rintro ⟨q, hq', e, h1, h2⟩
      rcases List.mem_append.1 hq' with hq' | hq'
      · obtain ⟨w, hw, e', h3⟩ := (h.cov k d).2 ⟨q, hq', e, h1, h2⟩
        exact ⟨w, by simp [hw], e', h3⟩
      · rw [List.mem_singleton] at hq'; subst hq'
        exact ⟨newW q, by simp, e, h1, h2⟩
theorem WI.nil : WI [] ([], []) where
  ok := fun k i hk => by simp [mget] at hk
  pos := fun w hw => by simp at hw
  key := fun k i hk => by simp [mget] at hk
  nokey := fun k _ w hw => by simp at hw
  sep := fun i j w w' _ hw => by simp at hw
  last := fun w hw => by simp at hw
  cov := fun k d => by simp
