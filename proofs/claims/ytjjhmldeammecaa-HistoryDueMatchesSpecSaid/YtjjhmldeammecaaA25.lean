/-
  Abs, part 25: the order of texts.
-/
import Derived.Test.YtjjhmldeammecaaA24
namespace Go.Abs
open Go

theorem bl_irrefl : ∀ (x : List UInt8), Op.bytesLess x x = false
  | [] => rfl
  | a :: x => by simp [Op.bytesLess, bl_irrefl x]
theorem bl_trans : ∀ {x y z : List UInt8}, Op.bytesLess x y = true → Op.bytesLess y z = true → Op.bytesLess x z = true
  | x, _, [], _, h => by cases ‹List UInt8› <;> simp [Op.bytesLess] at h
  | [], _, _ :: _, _, _ => by simp [Op.bytesLess]
  | _ :: _, [], _, h, _ => by simp [Op.bytesLess] at h
  | a :: x, b :: y, c :: z, h1, h2 => by
    simp only [Op.bytesLess, Bool.or_eq_true, Bool.and_eq_true, decide_eq_true_eq, beq_iff_eq] at *
    rcases h1 with h1 | ⟨rfl, h1⟩
    · rcases h2 with h2 | ⟨rfl, h2⟩
      · exact .inl (UInt8.lt_trans h1 h2)
      · exact .inl h1
    · rcases h2 with h2 | ⟨rfl, h2⟩
      · exact .inl h2
      · exact .inr ⟨rfl, bl_trans h1 h2⟩
theorem bl_total : ∀ {x y : List UInt8}, Op.bytesLess x y = false → Op.bytesLess y x = false → x = y
  | [], [], _, _ => rfl
  | [], _ :: _, h, _ => by simp [Op.bytesLess] at h
  | _ :: _, [], _, h => by simp [Op.bytesLess] at h
  | a :: x, b :: y, h1, h2 => by
    simp only [Op.bytesLess, Bool.or_eq_false_iff, Bool.and_eq_false_imp, decide_eq_false_iff_not, beq_iff_eq] at *
    have e : a = b := UInt8.le_antisymm (UInt8.not_lt.1 h2.1) (UInt8.not_lt.1 h1.1)
    subst e
    rw [bl_total (h1.2 rfl) (h2.2 rfl)]
theorem sLt_irrefl (x : ByteArray) : sLt x x = false := bl_irrefl _
theorem sLt_trans {x y z : ByteArray} (h1 : sLt x y = true) (h2 : sLt y z = true) : sLt x z = true := bl_trans h1 h2
theorem sLt_total {x y : Str} (h1 : sLt x.b y.b = false) (h2 : sLt y.b x.b = false) : x = y := by
  apply sEq_iff.1
  unfold sEq
  rw [bl_total h1 h2]; simp
theorem sLt_asymm {x y : ByteArray} (h1 : sLt x y = true) : sLt y x = false := by
  rw [← Bool.not_eq_true]
  intro h2
  have := sLt_trans h1 h2
  rw [sLt_irrefl] at this; cases this
theorem sEq_self (x : ByteArray) : sEq x x = true := by simp [sEq]
theorem sLt_ne {x y : Str} (h : sLt x.b y.b = true) : x ≠ y := by
  rintro rfl; rw [sLt_irrefl] at h; cases h
/-- How 'cmp.Compare' compares texts. -/
def cmpS (x y : Str) : Int := if sLt x.b y.b = true then -1 else if x = y then 0 else 1
theorem w64_id {z : Int} (h1 : -9223372036854775808 ≤ z) (h2 : z ≤ 9223372036854775807) : w64 z = z := wrap64 h1 h2
theorem w64_succ {j : Nat} (h : j < 9223372036854775807) : w64 ((j : Int) + 1) = ((j + 1 : Nat) : Int) := by rw [w64_id (by omega) (by omega)]; omega
theorem w64_pred {j : Nat} (h : j < 9223372036854775807) : w64 (((j + 1 : Nat) : Int) - 1) = (j : Int) := by rw [w64_id (by omega) (by omega)]; omega
theorem idx_nat {α : Type} (l : List α) (i : Nat) : idx l (i : Int) = l[i]? := by simp [idx]
theorem ex_ite {σ τ ρ : Type} {c : Bool} (a b : Ex σ τ ρ) : (if c = true then some a else some b) = some (if c = true then a else b) := by cases c <;> rfl
theorem app_ok {α : Type} {b : Nat} {l m : List α} (h1 : (l.length + m.length) * b ≤ lim) (h2 : l.length + m.length ≤ lim) : app b l m = some (l ++ m) := by simp [app, h1, h2]
theorem app_one {α : Type} {b n : Nat} {l : List α} {x : α} (h1 : l.length < n) (h2 : n * b ≤ lim) (h3 : n ≤ lim) : app b l [x] = some (l ++ [x]) := by
  refine app_ok (Nat.le_trans (Nat.mul_le_mul_right b ?_) h2) (Nat.le_trans ?_ h3) <;> simp <;> omega
theorem fold_filter {α : Type} (p : α → Bool) : ∀ (l s : List α), l.foldl (fun s x => if p x = true then s ++ [x] else s) s = s ++ l.filter p
  | [], s => by simp
  | x :: l, s => by
    simp only [List.foldl_cons, List.filter_cons]
    rw [fold_filter p l]
    cases h : p x <;> simp
theorem take_len {α : Type} {l : List α} {i : Nat} {x : α} (h : l[i]? = some x) : (l.take i).length = i ∧ (l.take (i + 1)).length = i + 1 := by
  have := getElem?_some_lt h
  simp; omega
/-- A loop that keeps some of a list. -/
theorem forL_filter {α τ ρ : Type} {body : Nat → α → List α → Option (Ex (List α) τ ρ)} {fin : List α → τ} {l : List α} (p : α → Bool)
    (h : ∀ i x s, l[i]? = some x → s.length ≤ i → body i x s = some (.next (if p x = true then s ++ [x] else s))) : forL l body fin [] = some (.inl (fin (l.filter p))) := by
  have := (forL_map (body := body) (fin := fin) (l := l) (fun x s => if p x = true then s ++ [x] else s) [] (fun q s => s.length ≤ q.length) (Nat.le_refl _) (fun i x s hx hs => by
    obtain ⟨h1, h2⟩ := take_len hx
    rw [h1] at hs
    refine ⟨h i x s hx hs, ?_⟩
    rw [h2]
    split <;> (try simp) <;> omega)).1
  rw [this, fold_filter]; rfl
theorem fold_filter2 {α : Type} (p : α → Bool) : ∀ (l s t : List α), l.foldl (fun (s : List α × List α) x => if p x = true then (s.1, s.2 ++ [x]) else (s.1 ++ [x], s.2)) (s, t) = (s ++ l.filter (fun x => !p x), t ++ l.filter p)
  | [], s, t => by simp
  | x :: l, s, t => by
    simp only [List.foldl_cons, List.filter_cons]
    cases h : p x with
    | true => simp only [if_true, fold_filter2 p l]; simp
    | false => simp only [Bool.false_eq_true, if_false, fold_filter2 p l]; simp
theorem forL_filter2 {α τ ρ : Type} {body : Nat → α → List α × List α → Option (Ex (List α × List α) τ ρ)} {fin : List α × List α → τ} {l : List α} (p : α → Bool)
    (h : ∀ i x s t, l[i]? = some x → s.length ≤ i → t.length ≤ i → body i x (s, t) = some (.next (if p x = true then (s, t ++ [x]) else (s ++ [x], t)))) : forL l body fin ([], []) = some (.inl (fin (l.filter (fun x => !p x), l.filter p))) := by
  have := (forL_map (body := body) (fin := fin) (l := l) (fun x s => if p x = true then (s.1, s.2 ++ [x]) else (s.1 ++ [x], s.2)) ([], []) (fun q s => s.1.length ≤ q.length ∧ s.2.length ≤ q.length) ⟨Nat.le_refl _, Nat.le_refl _⟩ (fun i x s hx hs => by
    obtain ⟨h1, h2⟩ := take_len hx
    rw [h1] at hs
    refine ⟨h i x s.1 s.2 hx hs.1 hs.2, ?_⟩
    rw [h2]
    split <;> (try simp) <;> omega)).1
  rw [this, fold_filter2]; rfl
theorem chain_pairwise {α : Type} {R : α → α → Prop} (ht : ∀ a b c, R a b → R b c → R a c) : ∀ {l : List α}, (∀ i a b, l[i]? = some a → l[i + 1]? = some b → R a b) → l.Pairwise R
  | [], _ => List.Pairwise.nil
  | x :: l, h => by
    have ih := chain_pairwise ht (l := l) fun i a b h1 h2 => h (i + 1) a b (by simpa using h1) (by simpa using h2)
    refine List.pairwise_cons.2 ⟨?_, ih⟩
    intro y hy
    cases l with
    | nil => cases hy
    | cons z l =>
      have hz : R x z := h 0 x z rfl rfl
      cases hy with
      | head => exact hz
      | tail _ hy => exact ht _ _ _ hz ((List.pairwise_cons.1 ih).1 y hy)
theorem seqK_inl {τ ρ : Type} (t : τ) (k : τ → Option ρ) : seqK (some (.inl t)) k = k t := rfl
theorem Str.size_lim (x : Str) : x.b.size ≤ 9223372036854775807 := x.h
end Go.Abs
