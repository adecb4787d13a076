/-
  Abs, part 24: plain facts on loops, lists and texts. No program is in sight here.
-/
import Derived.Test.YtjjhmldeammecaaA23
namespace Go.Abs
open Go

/-! ### Loops over lists -/
def goL {α σ τ ρ : Type} (body : Nat → α → σ → Option (Ex σ τ ρ)) (fin : σ → τ) : List α → Nat → σ → Option (Sum τ ρ)
  | [], _, s => some (.inl (fin s))
  | x :: r, i, s => (body i x s).bind fun | .next s' => goL body fin r (i + 1) s' | .brk t => some (.inl t) | .ret r => some (.inr r)
theorem forL_goL {α σ τ ρ : Type} (body : Nat → α → σ → Option (Ex σ τ ρ)) (fin : σ → τ) (l : List α) (s : σ) : forL l body fin s = goL body fin l 0 s := by
  have key : ∀ (n i : Nat) (s : σ), n + i = l.length → forN (fun i s => (l[i]?).bind fun x => body i x s) fin n i s = goL body fin (l.drop i) i s := by
    intro n
    induction n with
    | zero => intro i s h; rw [List.drop_eq_nil_of_le (by omega)]; rfl
    | succ n ih =>
      intro i s h
      have hi : i < l.length := by omega
      rw [List.drop_eq_getElem_cons hi]
      simp only [forN, goL, List.getElem?_eq_getElem hi, Option.bind_some]
      congr 1
      funext z
      cases z with
      | next s' => exact ih (i + 1) s' (by omega)
      | brk t => rfl
      | ret r => rfl
  exact key l.length 0 s rfl
/-- A loop that always goes on. -/
theorem forL_fold {α σ τ ρ : Type} {body : Nat → α → σ → Option (Ex σ τ ρ)} {fin : σ → τ} {l : List α} (f : Nat → α → σ → σ) (s : σ) (inv : Nat → σ → Prop) (h0 : inv 0 s)
    (h : ∀ i x s, l[i]? = some x → inv i s → body i x s = some (.next (f i x s)) ∧ inv (i + 1) (f i x s)) :
    ∃ s', forL l body fin s = some (.inl (fin s')) ∧ inv l.length s' := by
  rw [forL_goL]
  have key : ∀ (r : List α) (i : Nat) (s : σ), l.drop i = r → inv i s → i + r.length = l.length → ∃ s', goL body fin r i s = some (.inl (fin s')) ∧ inv l.length s' := by
    intro r
    induction r with
    | nil => intro i s _ hi hl; exact ⟨s, rfl, by rw [← hl]; exact hi⟩
    | cons x r ih =>
      intro i s hd hi hl
      have hx : l[i]? = some x := by rw [← Nat.add_zero i, ← List.getElem?_drop, hd]; rfl
      obtain ⟨h1, h2⟩ := h i x s hx hi
      simp only [goL, h1, Option.bind_some]
      exact ih (i + 1) _ (by rw [← List.drop_drop, hd]; rfl) h2 (by simp only [List.length_cons] at hl; omega)
  exact key l 0 s rfl h0 (by simp)
theorem forL_map {α σ τ ρ : Type} {body : Nat → α → σ → Option (Ex σ τ ρ)} {fin : σ → τ} {l : List α} (f : α → σ → σ) (s : σ) (inv : List α → σ → Prop) (h0 : inv [] s)
    (h : ∀ i x s, l[i]? = some x → inv (l.take i) s → body i x s = some (.next (f x s)) ∧ inv (l.take (i + 1)) (f x s)) :
    forL l body fin s = some (.inl (fin (l.foldl (fun s x => f x s) s))) ∧ inv l (l.foldl (fun s x => f x s) s) := by
  rw [forL_goL]
  have key : ∀ (r : List α) (i : Nat) (s : σ), l.drop i = r → inv (l.take i) s → i + r.length = l.length → goL body fin r i s = some (.inl (fin (r.foldl (fun s x => f x s) s))) ∧ inv l (r.foldl (fun s x => f x s) s) := by
    intro r
    induction r with
    | nil => intro i s _ hi hl; exact ⟨rfl, by rw [List.take_of_length_le (by simp at hl; omega)] at hi; exact hi⟩
    | cons x r ih =>
      intro i s hd hi hl
      have hx : l[i]? = some x := by rw [← Nat.add_zero i, ← List.getElem?_drop, hd]; rfl
      obtain ⟨h1, h2⟩ := h i x s hx hi
      simp only [goL, h1, Option.bind_some]
      exact ih (i + 1) _ (by rw [← List.drop_drop, hd]; rfl) h2 (by simp only [List.length_cons] at hl; omega)
  exact key l 0 s rfl (by simpa using h0) (by simp)
/-- A loop that looks for something. -/
def firstI {α : Type} (p : Nat → α → Bool) : List α → Nat → Option (Nat × α)
  | [], _ => none
  | x :: r, i => if p i x then some (i, x) else firstI p r (i + 1)
theorem forL_find {α σ τ ρ : Type} {body : Nat → α → σ → Option (Ex σ τ ρ)} {fin : σ → τ} {l : List α} {s : σ} (p : Nat → α → Bool) (r : Nat → α → ρ)
    (h : ∀ i x, l[i]? = some x → body i x s = some (if p i x then .ret (r i x) else .next s)) :
    forL l body fin s = some (match firstI p l 0 with | some e => .inr (r e.1 e.2) | none => .inl (fin s)) := by
  rw [forL_goL]
  have key : ∀ (q : List α) (i : Nat), l.drop i = q → goL body fin q i s = some (match firstI p q i with | some e => .inr (r e.1 e.2) | none => .inl (fin s)) := by
    intro q
    induction q with
    | nil => intro i _; rfl
    | cons x q ih =>
      intro i hd
      have hx : l[i]? = some x := by rw [← Nat.add_zero i, ← List.getElem?_drop, hd]; rfl
      simp only [goL, h i x hx, firstI]
      cases p i x with
      | true => simp
      | false =>
        simp only [Bool.false_eq_true, if_false, Option.bind_some]
        exact ih (i + 1) (by rw [← List.drop_drop, hd]; rfl)
  exact key l 0 rfl
theorem firstI_any {α : Type} (p : α → Bool) : ∀ (l : List α) (i : Nat), (firstI (fun _ => p) l i).isSome = l.any p
  | [], _ => rfl
  | x :: l, i => by
    simp only [firstI, List.any_cons]
    by_cases h : p x = true
    · simp [h]
    · simp [h, firstI_any p l (i + 1)]
theorem firstI_none {α : Type} {p : Nat → α → Bool} : ∀ {l : List α} {i : Nat}, firstI p l i = none ↔ ∀ j x, l[j]? = some x → p (i + j) x = false
  | [], i => by simp [firstI]
  | x :: l, i => by
    simp only [firstI]
    constructor
    · intro h
      split at h
      · cases h
      · rename_i hp
        have := firstI_none.1 h
        intro j y hy
        cases j with
        | zero => simp at hy; subst hy; simpa using hp
        | succ j => have := this j y (by simpa using hy); rw [← this]; congr 1; omega
    · intro h
      rw [if_neg (by simpa using h 0 x rfl)]
      exact firstI_none.2 fun j y hy => by have := h (j + 1) y (by simpa using hy); rw [← this]; congr 1; omega
theorem firstI_some {α : Type} {p : Nat → α → Bool} : ∀ {l : List α} {i : Nat} {e : Nat × α}, firstI p l i = some e → ∃ j, e.1 = i + j ∧ l[j]? = some e.2 ∧ p e.1 e.2 = true
  | [], _, _, h => by cases h
  | x :: l, i, e, h => by
    simp only [firstI] at h
    split at h
    · cases h; exact ⟨0, rfl, rfl, by assumption⟩
    · obtain ⟨j, h1, h2, h3⟩ := firstI_some h
      exact ⟨j + 1, by omega, by simpa using h2, h3⟩
theorem firstI_congr {α : Type} {p q : Nat → α → Bool} : ∀ {l : List α} {i : Nat}, (∀ j x, l[j]? = some x → p (i + j) x = q (i + j) x) → firstI p l i = firstI q l i
  | [], _, _ => rfl
  | x :: l, i, h => by
    have h0 : p i x = q i x := h 0 x rfl
    simp only [firstI, h0]
    rw [firstI_congr (p := p) (q := q) (l := l) fun j y hy => by have := h (j + 1) y (by simpa using hy); rw [show i + 1 + j = i + (j + 1) by omega]; exact this]
/-! ### Counting loops -/
theorem forN_find {σ τ ρ : Type} {body : Nat → σ → Option (Ex σ τ ρ)} {fin : σ → τ} {s : σ} (p : Nat → Bool) (r : Nat → ρ) : ∀ (n i : Nat), (∀ j, i ≤ j → j < i + n → body j s = some (if p j then .ret (r j) else .next s)) →
    forN body fin n i s = some (match (List.range' i n).find? p with | some j => .inr (r j) | none => .inl (fin s))
  | 0, _, _ => rfl
  | n + 1, i, h => by
    simp only [forN, h i (Nat.le_refl _) (by omega), List.range'_succ, List.find?_cons]
    cases p i with
    | true => simp
    | false =>
      simp only [Bool.false_eq_true, if_false, Option.bind_some]
      exact forN_find p r n (i + 1) fun j h1 h2 => h j (by omega) (by omega)
theorem loopW_find {τ ρ : Type} {f : Int → Option (Ex Int τ ρ)} {t : τ} (N : Nat) (p : Nat → Bool) (r : Nat → ρ) (hend : f N = some (.brk t)) : ∀ (n i : Nat), i + n = N →
    (∀ j : Nat, i ≤ j → j < N → f j = some (if p j then .ret (r j) else .next ((j + 1 : Nat) : Int))) → loopW f i = some (match (List.range' i n).find? p with | some j => .inr (r j) | none => .inl t)
  | 0, i, hi, _ => by
    obtain rfl : i = N := by omega
    rw [loopW_eq, hend]; rfl
  | n + 1, i, hi, h => by
    rw [loopW_eq, h i (Nat.le_refl _) (by omega), List.range'_succ, List.find?_cons]
    cases p i with
    | true => simp
    | false =>
      simp only [Bool.false_eq_true, if_false, Option.bind_some]
      exact loopW_find N p r hend n (i + 1) (by omega) fun j h1 h2 => h j (by omega) h2
/-! ### Texts -/
theorem sidx_nat {s : ByteArray} {i : Nat} (h : i < s.size) : sidx s (i : Int) = some ((s[i]'h).toNat : Int) := by
  simp [sidx, getElem?_pos, h]
/-- All bytes from 33 to 126. -/
def visible (s : ByteArray) : Bool := (List.range' 0 s.size).all fun i => match s[i]? with | some b => decide (33 ≤ b.toNat ∧ b.toNat ≤ 126) | none => false
theorem find_vis (s : ByteArray) (p : Nat → Bool) (h : ∀ i (hi : i < s.size), p i = !decide (33 ≤ (s[i]'hi).toNat ∧ (s[i]'hi).toNat ≤ 126)) : ((List.range' 0 s.size).find? p).isSome = !visible s := by
  apply Bool.eq_iff_iff.2
  rw [visible, List.find?_isSome]
  simp only [Bool.not_eq_true', List.all_eq_false]
  constructor
  · rintro ⟨x, hx, hp⟩
    refine ⟨x, hx, ?_⟩
    have hlt : x < s.size := by simpa using hx
    rw [h x hlt] at hp
    simp [getElem?_pos, hlt] at hp ⊢; omega
  · rintro ⟨x, hx, hp⟩
    refine ⟨x, hx, ?_⟩
    have hlt : x < s.size := by simpa using hx
    rw [h x hlt]
    simp [getElem?_pos, hlt] at hp ⊢; omega
end Go.Abs
