/-
  Plain facts of history: what makes a story right; cut and joined stories; the laws on Cut and Join.
-/
import Derived.Test.YtjjhmldeammecaaFHu
import Derived.Test.YtjjhmldeammecaaXHy
namespace Go.Abs
open Go

/-! ### What is known, in order -/
def kOk (x : T_api_Published) : Bool := nameOk x.Advisory && !((!dayOk x.Day) || ((x.Ended != (-1)) && ((decide (x.Ended < x.Day)) || (decide (x.Ended > 1000000)))))
def pLt (a b : T_api_Published) : Prop := sLt a.Advisory.b b.Advisory.b = true
structure KS (l : List T_api_Published) : Prop where
  each : ∀ x ∈ l, kOk x = true
  ord : l.Pairwise pLt
theorem pLt_trans {a b c : T_api_Published} (h1 : pLt a b) (h2 : pLt b c) : pLt a c := sLt_trans h1 h2
theorem pLt_irrefl (a : T_api_Published) : ¬ pLt a a := by unfold pLt; rw [sLt_irrefl]; simp
theorem pLt_ne {a b : T_api_Published} (h : pLt a b) : a.Advisory ≠ b.Advisory := sLt_ne h
theorem pLt_tri (a b : T_api_Published) : pLt a b ∨ a.Advisory = b.Advisory ∨ pLt b a := by
  unfold pLt
  cases h1 : sLt a.Advisory.b b.Advisory.b with
  | true => exact .inl rfl
  | false => cases h2 : sLt b.Advisory.b a.Advisory.b with
    | true => exact .inr (.inr rfl)
    | false => exact .inr (.inl (sLt_total h1 h2))
theorem kFault_iff (l : List T_api_Published) (i : Nat) (x : T_api_Published) : kFault l i x = 0 ↔ kOk x = true ∧ prevB l i (fun y => sLt x.Advisory.b y.Advisory.b || sEq x.Advisory.b y.Advisory.b) = false := by
  unfold kFault kOk
  cases nameOk x.Advisory with
  | false => simp
  | true =>
    cases prevB l i (fun y => sLt x.Advisory.b y.Advisory.b || sEq x.Advisory.b y.Advisory.b) with
    | true => simp
    | false =>
      cases ((!dayOk x.Day) || ((x.Ended != (-1)) && ((decide (x.Ended < x.Day)) || (decide (x.Ended > 1000000))))) <;> simp
theorem ks_iff (l : List T_api_Published) : ksFault l = 0 ↔ KS l := by
  constructor
  · intro h
    have hz := ks_zero h
    refine ⟨fun x hx => ?_, chain_pairwise (R := pLt) (fun a b c => pLt_trans) fun i a b ha hb => ?_⟩
    · obtain ⟨i, hi⟩ := List.getElem?_of_mem hx
      exact ((kFault_iff l i x).1 (hz i x hi)).1
    · have := ((kFault_iff l (i + 1) b).1 (hz (i + 1) b hb)).2
      simp only [prevB, ha, Bool.or_eq_false_iff, sEq_dec, decide_eq_false_iff_not] at this
      rcases pLt_tri a b with h1 | h1 | h1
      · exact h1
      · exact absurd h1.symm this.2
      · rw [show sLt b.Advisory.b a.Advisory.b = true from h1] at this; cases this.1
  · intro h
    unfold ksFault
    have hn : firstI (fun i x => decide (kFault l i x ≠ 0)) l 0 = none := by
      refine firstI_none.2 fun j x hx => ?_
      simp only [Nat.zero_add, ne_eq, decide_eq_false_iff_not, Classical.not_not]
      refine (kFault_iff l j x).2 ⟨h.each x (List.mem_of_getElem? hx), ?_⟩
      cases j with
      | zero => rfl
      | succ j =>
        have hj := getElem?_some_lt hx
        have hy : l[j]? = some l[j] := List.getElem?_eq_getElem (by omega)
        rw [List.getElem?_eq_getElem hj] at hx; cases hx
        have h1 : pLt l[j] l[j + 1] := (List.pairwise_iff_getElem.1 h.ord) j (j + 1) (by omega) hj (by omega)
        simp only [prevB, hy, Bool.or_eq_false_iff, sEq_dec, decide_eq_false_iff_not]
        exact ⟨sLt_asymm h1, fun e => pLt_ne h1 e.symm⟩
    rw [hn]

/-! ### Releases -/
structure RS (l : List T_api_Release) : Prop where
  each : ∀ r ∈ l, nameOk r.Version = true ∧ 0 ≤ r.Day ∧ esFault r.Exposures = 0
  days : l.Pairwise (fun a b => a.Day < b.Day)
  vers : (l.map (·.Version)).Nodup
def verMap (l : List T_api_Release) (m : List (Str × Bool)) : Prop := ∀ v, (mget kEqS v m).getD false = decide (v ∈ l.map (·.Version))
theorem verMap_next {l : List T_api_Release} {m : List (Str × Bool)} (h : verMap l m) (r : T_api_Release) : verMap (l ++ [r]) (mset kEqS r.Version true m) := by
  intro v
  rw [mget_mset]
  by_cases e : v = r.Version
  · simp [e]
  · rw [if_neg e, h v]
    simp [e]
theorem prev_days {l : List T_api_Release} (h : l.Pairwise (fun a b => a.Day < b.Day)) {i : Nat} {x : T_api_Release} (hx : l[i]? = some x) : prevB l i (fun y => decide (x.Day ≤ y.Day)) = false := by
  cases i with
  | zero => rfl
  | succ i =>
    have hj := getElem?_some_lt hx
    have hy : l[i]? = some l[i] := List.getElem?_eq_getElem (by omega)
    rw [List.getElem?_eq_getElem hj] at hx; cases hx
    have := (List.pairwise_iff_getElem.1 h) i (i + 1) (by omega) hj (by omega)
    simp only [prevB, hy, decide_eq_false_iff_not]
    omega
theorem take_succ' {α : Type} {l : List α} {i : Nat} {x : α} (hx : l[i]? = some x) : l.take (i + 1) = l.take i ++ [x] := by rw [List.take_add_one, hx]; rfl
theorem relLoop_rs {s : T_api_Story} (h : RS s.Releases) : ∃ y, relLoop s = some y ∧ Out (fun _ => ∀ r ∈ s.Releases, r.Day ≤ s.Until) (fun e => e = 9 ∧ ∃ r ∈ s.Releases, s.Until < r.Day) y := by
  unfold relLoop
  refine forL_inv' (I := fun i m => verMap (s.Releases.take i) m ∧ ∀ r ∈ s.Releases.take i, r.Day ≤ s.Until) ⟨fun v => by simp [mget], fun r hr => by simp at hr⟩ ?_ (fun m hm => by rw [List.take_length] at hm; exact hm.2)
  rintro i x m hx ⟨h1, h2⟩
  obtain ⟨e1, e2, e3⟩ := h.each x (List.mem_of_getElem? hx)
  have hv : (mget kEqS x.Version m).getD false = false := by
    rw [h1, decide_eq_false_iff_not]
    intro hm
    have hs := take_succ' hx
    have hn : ((s.Releases.take (i + 1)).map (·.Version)).Nodup := h.vers.sublist ((List.take_sublist _ _).map _)
    rw [hs, List.map_append, List.nodup_append] at hn
    exact hn.2.2 _ hm _ (by simp) rfl
  rw [e1, hv]
  simp only [Bool.not_true, Bool.false_eq_true, if_false, prev_days h.days hx, e3, bne_self_eq_false]
  by_cases hd : s.Until < x.Day
  · rw [if_pos (by simp; omega)]
    exact ⟨_, rfl, rfl, x, List.mem_of_getElem? hx, hd⟩
  · rw [if_neg (by simp; omega)]
    refine ⟨_, rfl, ?_, fun r hr => ?_⟩
    · rw [take_succ' hx]; exact verMap_next h1 x
    · rw [take_succ' hx, List.mem_append, List.mem_singleton] at hr
      rcases hr with hr | rfl
      · exact h2 r hr
      · omega
theorem relLoop_vers {s : T_api_Story} {t : Unit} (h : relLoop s = some (.inl t)) : (s.Releases.map (·.Version)).Nodup ∧ ∀ r ∈ s.Releases, nameOk r.Version = true := by
  obtain ⟨m, _, hm⟩ := forL_inv h (fun i m => verMap (s.Releases.take i) m ∧ ((s.Releases.take i).map (·.Version)).Nodup ∧ ∀ r ∈ s.Releases.take i, nameOk r.Version = true) ⟨fun v => by simp [mget], by simp, fun r hr => by simp at hr⟩ (fun i x m t' _ _ hb => by
      revert hb
      repeat' split
      all_goals (intro hc; cases hc)) (fun i x m m' hx ⟨h1, h2, h3⟩ hb => by
      split at hb
      · cases hb
      · rename_i c1
        split at hb
        · cases hb
        · rename_i c2
          split at hb
          · cases hb
          · split at hb
            · cases hb
            · split at hb
              · cases hb
              · cases hb
                rw [take_succ' hx]
                rw [h1] at c2
                refine ⟨verMap_next h1 x, ?_, fun r hr => ?_⟩
                · rw [List.map_append, List.nodup_append]
                  refine ⟨h2, by simp, fun a ha b hb => ?_⟩
                  simp only [List.map_cons, List.map_nil, List.mem_singleton] at hb
                  subst hb
                  rintro rfl
                  rw [decide_eq_true_eq] at c2
                  exact c2 ha
                · rw [List.mem_append, List.mem_singleton] at hr
                  rcases hr with hr | rfl
                  · exact h3 r hr
                  · simpa using c1)
  rw [List.take_length] at hm
  exact hm.2

/-! ### A story that is right -/
def advKnown (ks : List T_api_Published) (rs : List T_api_Release) : Prop := ∀ r ∈ rs, ∀ e ∈ r.Exposures, ∃ k ∈ ks, k.Advisory = e.Advisory
theorem knownMap_get (l : List T_api_Published) (v : Str) : (mget kEqS v (knownMap l)).getD false = decide (∃ k ∈ l, k.Advisory = v) := by
  unfold knownMap
  rw [mget_fold (fun (x : T_api_Published) => x.Advisory) (fun _ => true)]
  cases hf : l.reverse.find? (fun x => decide (v = x.Advisory)) with
  | some k =>
    have h1 := List.find?_some hf
    have h2 := List.mem_of_find?_eq_some hf
    simp only [decide_eq_true_eq] at h1
    simp only [Option.getD_some]
    symm
    rw [decide_eq_true_eq]
    exact ⟨k, by simpa using h2, h1.symm⟩
  | none =>
    rw [List.find?_eq_none] at hf
    simp only [mget, Option.getD_none]
    symm
    rw [decide_eq_false_iff_not]
    rintro ⟨k, hk, e⟩
    exact hf k (by simpa using hk) (by simp [e])
theorem allKnown_iff (s : T_api_Story) : allKnown s = true ↔ advKnown s.Known s.Releases := by
  unfold allKnown advKnown
  simp only [List.all_eq_true, knownMap_get, decide_eq_true_eq]
structure SOk (s : T_api_Story) : Prop where
  name : nameOk s.Product = true
  day : dayOk s.Until = true
  lenR : s.Releases.length ≤ 500
  lenK : s.Known.length ≤ 2000
  rs : RS s.Releases
  until' : ∀ r ∈ s.Releases, r.Day ≤ s.Until
  ks : KS s.Known
  kn : advKnown s.Known s.Releases
theorem sok_of {s : T_api_Story} (h : sFault s = 0) : SOk s := by
  have ok := storyOk h
  unfold sFault at h
  split at h
  · cases h
  · rename_i h1
    split at h
    · cases h
    · rename_i h2
      split at h
      · cases h
      · rename_i h3
        split at h
        · rename_i e he; exact absurd h (relLoop_ret he)
        · rename_i hne
          obtain ⟨y, hy⟩ := relLoop_total s
          cases y with
          | inr e => exact absurd hy (hne e)
          | inl u =>
            have hks : ksFault s.Known = 0 := by
              refine Classical.byContradiction fun hk => ?_
              rw [if_pos hk] at h; exact hk h
            rw [if_neg (by simpa using hks)] at h
            have hak : allKnown s = true := by
              cases hq : allKnown s with
              | true => rfl
              | false => rw [hq] at h; cases h
            obtain ⟨v1, v2⟩ := relLoop_vers hy
            have hr : ∀ r ∈ s.Releases, 0 ≤ r.Day ∧ r.Day ≤ s.Until ∧ esFault r.Exposures = 0 := fun r hr => by
              obtain ⟨i, hi⟩ := List.getElem?_of_mem hr
              obtain ⟨q1, q2, q3, _⟩ := ok.rel i r hi
              exact ⟨q1, q2, q3⟩
            exact ⟨by simpa using h1, by simpa using h2, ok.lenR, ok.lenK, ⟨fun r hr' => ⟨v2 r hr', (hr r hr').1, (hr r hr').2.2⟩, rel_days ok, v1⟩, fun r hr' => (hr r hr').2.1, (ks_iff _).1 hks, (allKnown_iff s).1 hak⟩
/-- The fault of a story that is right but for its size and its last day. -/
theorem sFault_of {s : T_api_Story} (h1 : nameOk s.Product = true) (h2 : dayOk s.Until = true) (h3 : RS s.Releases) (h4 : KS s.Known) (h5 : advKnown s.Known s.Releases) [Decidable (∃ r ∈ s.Releases, s.Until < r.Day)] :
    sFault s = if 500 < s.Releases.length ∨ 2000 < s.Known.length then 3 else if ∃ r ∈ s.Releases, s.Until < r.Day then 9 else 0 := by
  unfold sFault
  rw [if_neg (by simp [h1]), if_neg (by simp [h2])]
  split
  · rfl
  · obtain ⟨y, hy, ho⟩ := relLoop_rs h3
    rw [hy]
    cases y with
    | inr e => rw [if_pos ho.2]; exact ho.1
    | inl u =>
      have : ¬ ∃ r ∈ s.Releases, s.Until < r.Day := by
        rintro ⟨r, hr, hd⟩
        have := ho r hr
        omega
      rw [if_neg this]
      dsimp only
      rw [if_neg (by simpa using (ks_iff _).2 h4), if_pos ((allKnown_iff s).2 h5)]
theorem sFault_ok {s : T_api_Story} (h : SOk s) : sFault s = 0 := by
  classical
  rw [sFault_of h.name h.day h.rs h.ks h.kn, if_neg (by have := h.lenR; have := h.lenK; omega), if_neg]
  rintro ⟨r, hr, hd⟩
  have := h.until' r hr
  omega

/-! ### What both know -/
theorem pub_dec (x y : T_api_Published) : (sEq x.Advisory.b y.Advisory.b && ((x.Day == y.Day) && (x.Ended == y.Ended))) = true ↔ x = y := by
  cases x; cases y
  simp [sEq_dec]
def conflict (a b : List T_api_Published) : Prop := ∃ x ∈ a, ∃ y ∈ b, x.Advisory = y.Advisory ∧ x ≠ y
structure KU (a b K : List T_api_Published) : Prop where
  ord : K.Pairwise pLt
  mem : ∀ x, x ∈ K ↔ x ∈ a ∨ x ∈ b
theorem pLt_inj {l : List T_api_Published} (h : l.Pairwise pLt) {x y : T_api_Published} (hx : x ∈ l) (hy : y ∈ l) (e : x.Advisory = y.Advisory) : x = y :=
  key_inj (h.imp fun h => pLt_ne h) x hx y hy e
theorem ord_unique {l m : List T_api_Published} (hl : l.Pairwise pLt) (hm : m.Pairwise pLt) (h : ∀ x, x ∈ l ↔ x ∈ m) : l = m := by
  have nd : ∀ {l : List T_api_Published}, l.Pairwise pLt → l.Nodup := fun h => List.nodup_iff_pairwise_ne.2 (h.imp fun {x y} h (e : x = y) => pLt_ne h (by rw [e]))
  refine List.Perm.eq_of_pairwise (le := pLt) (fun a b _ _ h1 h2 => absurd (pLt_trans h1 h2) (pLt_irrefl a)) hl hm ((List.perm_ext_iff_of_nodup (nd hl) (nd hm)).2 h)
theorem KU.eq {a b K K' : List T_api_Published} (h : KU a b K) (h' : KU a b K') : K = K' := ord_unique h.ord h'.ord fun x => by rw [h.mem, h'.mem]
/-- The outcome of joining. -/
def JOut (a b : List T_api_Published) (r : List T_api_Published × Bool) : Prop := (conflict a b ∧ r = ([], false)) ∨ (¬ conflict a b ∧ r.2 = true ∧ KU a b r.1)
theorem JOut.eq {a b : List T_api_Published} {r r' : List T_api_Published × Bool} (h : JOut a b r) (h' : JOut a b r') : r = r' := by
  rcases h with ⟨h1, h2⟩ | ⟨h1, h2, h3⟩ <;> rcases h' with ⟨h4, h5⟩ | ⟨h4, h5, h6⟩
  · rw [h2, h5]
  · exact absurd h1 h4
  · exact absurd h4 h1
  · exact Prod.ext (h3.eq h6) (h2.trans h5.symm)
structure JInv (a b p q o : List T_api_Published) : Prop where
  so : o.Pairwise pLt
  sp : p.Pairwise pLt
  sq : q.Pairwise pLt
  op : ∀ x ∈ o, ∀ u ∈ p, pLt x u
  oq : ∀ x ∈ o, ∀ u ∈ q, pLt x u
  mem : ∀ x, (x ∈ o ∨ x ∈ p ∨ x ∈ q) ↔ (x ∈ a ∨ x ∈ b)
  conf : conflict p q ↔ conflict a b
  len : o.length + p.length + q.length ≤ a.length + b.length
theorem JInv.left {a b p q o : List T_api_Published} {x : T_api_Published} (h : JInv a b (x :: p) q o) (hx : ∀ u ∈ q, pLt x u) : JInv a b p q (o ++ [x]) where
  so := List.pairwise_append.2 ⟨h.so, List.pairwise_singleton _ _, fun u hu v hv => by rw [List.mem_singleton] at hv; subst hv; exact h.op u hu _ (List.mem_cons_self ..)⟩
  sp := (List.pairwise_cons.1 h.sp).2
  sq := h.sq
  op := fun u hu v hv => by
    rcases List.mem_append.1 hu with hu | hu
    · exact h.op u hu v (List.mem_cons_of_mem _ hv)
    · rw [List.mem_singleton] at hu; subst hu; exact (List.pairwise_cons.1 h.sp).1 v hv
  oq := fun u hu v hv => by
    rcases List.mem_append.1 hu with hu | hu
    · exact h.oq u hu v hv
    · rw [List.mem_singleton] at hu; subst hu; exact hx v hv
  mem := fun y => by
    rw [← h.mem y]
    simp only [List.mem_append, List.mem_singleton, List.mem_cons, List.not_mem_nil, or_false]
    constructor
    · rintro ((h | h) | h | h)
      · exact .inl h
      · exact .inr (.inl (.inl h))
      · exact .inr (.inl (.inr h))
      · exact .inr (.inr h)
    · rintro (h | (h | h) | h)
      · exact .inl (.inl h)
      · exact .inl (.inr h)
      · exact .inr (.inl h)
      · exact .inr (.inr h)
  conf := by
    rw [← h.conf]
    constructor
    · rintro ⟨u, hu, v, hv, e⟩; exact ⟨u, List.mem_cons_of_mem _ hu, v, hv, e⟩
    · rintro ⟨u, hu, v, hv, e, hne⟩
      rcases List.mem_cons.1 hu with rfl | hu
      · exact absurd e (pLt_ne (hx v hv))
      · exact ⟨u, hu, v, hv, e, hne⟩
  len := by have := h.len; simp at this ⊢; omega
theorem JInv.right {a b p q o : List T_api_Published} {x : T_api_Published} (h : JInv a b p (x :: q) o) (hx : ∀ u ∈ p, pLt x u) : JInv a b p q (o ++ [x]) where
  so := List.pairwise_append.2 ⟨h.so, List.pairwise_singleton _ _, fun u hu v hv => by rw [List.mem_singleton] at hv; subst hv; exact h.oq u hu _ (List.mem_cons_self ..)⟩
  sp := h.sp
  sq := (List.pairwise_cons.1 h.sq).2
  op := fun u hu v hv => by
    rcases List.mem_append.1 hu with hu | hu
    · exact h.op u hu v hv
    · rw [List.mem_singleton] at hu; subst hu; exact hx v hv
  oq := fun u hu v hv => by
    rcases List.mem_append.1 hu with hu | hu
    · exact h.oq u hu v (List.mem_cons_of_mem _ hv)
    · rw [List.mem_singleton] at hu; subst hu; exact (List.pairwise_cons.1 h.sq).1 v hv
  mem := fun y => by
    rw [← h.mem y]
    simp only [List.mem_append, List.mem_singleton, List.mem_cons, List.not_mem_nil, or_false]
    constructor
    · rintro ((h | h) | h | h)
      · exact .inl h
      · exact .inr (.inr (.inl h))
      · exact .inr (.inl h)
      · exact .inr (.inr (.inr h))
    · rintro (h | h | h | h)
      · exact .inl (.inl h)
      · exact .inr (.inl h)
      · exact .inl (.inr h)
      · exact .inr (.inr h)
  conf := by
    rw [← h.conf]
    constructor
    · rintro ⟨u, hu, v, hv, e⟩; exact ⟨u, hu, v, List.mem_cons_of_mem _ hv, e⟩
    · rintro ⟨u, hu, v, hv, e, hne⟩
      rcases List.mem_cons.1 hv with rfl | hv
      · exact absurd e.symm (pLt_ne (hx u hu))
      · exact ⟨u, hu, v, hv, e, hne⟩
  len := by have := h.len; simp at this ⊢; omega
theorem JInv.both {a b p q o : List T_api_Published} {x : T_api_Published} (h : JInv a b (x :: p) (x :: q) o) : JInv a b p q (o ++ [x]) where
  so := List.pairwise_append.2 ⟨h.so, List.pairwise_singleton _ _, fun u hu v hv => by rw [List.mem_singleton] at hv; subst hv; exact h.oq u hu _ (List.mem_cons_self ..)⟩
  sp := (List.pairwise_cons.1 h.sp).2
  sq := (List.pairwise_cons.1 h.sq).2
  op := fun u hu v hv => by
    rcases List.mem_append.1 hu with hu | hu
    · exact h.op u hu v (List.mem_cons_of_mem _ hv)
    · rw [List.mem_singleton] at hu; subst hu; exact (List.pairwise_cons.1 h.sp).1 v hv
  oq := fun u hu v hv => by
    rcases List.mem_append.1 hu with hu | hu
    · exact h.oq u hu v (List.mem_cons_of_mem _ hv)
    · rw [List.mem_singleton] at hu; subst hu; exact (List.pairwise_cons.1 h.sq).1 v hv
  mem := fun y => by
    rw [← h.mem y]
    simp only [List.mem_append, List.mem_singleton, List.mem_cons, List.not_mem_nil, or_false]
    constructor
    · rintro ((h | h) | h | h)
      · exact .inl h
      · exact .inr (.inl (.inl h))
      · exact .inr (.inl (.inr h))
      · exact .inr (.inr (.inr h))
    · rintro (h | (h | h) | h | h)
      · exact .inl (.inl h)
      · exact .inl (.inr h)
      · exact .inr (.inl h)
      · exact .inl (.inr h)
      · exact .inr (.inr h)
  conf := by
    rw [← h.conf]
    constructor
    · rintro ⟨u, hu, v, hv, e⟩; exact ⟨u, List.mem_cons_of_mem _ hu, v, List.mem_cons_of_mem _ hv, e⟩
    · rintro ⟨u, hu, v, hv, e, hne⟩
      rcases List.mem_cons.1 hu with e1 | hu'
      · rcases List.mem_cons.1 hv with e2 | hv'
        · exact absurd (e1.trans e2.symm) hne
        · exact absurd (e1 ▸ e) (pLt_ne ((List.pairwise_cons.1 h.sq).1 v hv'))
      · rcases List.mem_cons.1 hv with e2 | hv'
        · exact absurd (e2 ▸ e).symm (pLt_ne ((List.pairwise_cons.1 h.sp).1 u hu'))
        · exact ⟨u, hu', v, hv', e, hne⟩
  len := by have := h.len; simp at this ⊢; omega
theorem ref11_joinedKnown_eq {a b : List T_api_Published} (ha : KS a) (hb : KS b) (la : a.length ≤ 2000) (lb : b.length ≤ 2000) : ∃ r, ref11_joinedKnown a b = some r ∧ JOut a b r := by
  unfold ref11_joinedKnown
  refine seqK_out (B := fun o => ¬ conflict a b ∧ KU a b o) (R := fun r => r = ([], false) ∧ conflict a b) (loopW_inv (fun st => JInv a b st.1 st.2.1 st.2.2) (fun st => st.1.length + st.2.1.length) ?_ _
    ⟨List.Pairwise.nil, ha.ord, hb.ord, fun x hx => by simp at hx, fun x hx => by simp at hx, fun x => by simp, Iff.rfl, by simp⟩) (fun o ho => ⟨_, rfl, .inr ⟨ho.1, rfl, ho.2⟩⟩) (fun r hr => .inl ⟨hr.2, hr.1⟩)
  rintro ⟨p, q, o⟩ h
  dsimp only at h ⊢
  have hlo := h.len
  have happ : ∀ x : T_api_Published, 0 < p.length + q.length → app 32 o [x] = some (o ++ [x]) := fun x hx => app_one (n := 1000001) (by omega) (by decide) (by decide)
  match p, q, h, hlo, happ with
  | [], [], h, _, _ =>
    rw [if_neg (by simp)]
    refine ⟨_, rfl, ?_, h.so, fun x => ?_⟩
    · rw [← h.conf]; rintro ⟨x, hx, _⟩; simp at hx
    · rw [← h.mem x]; simp
  | x :: p, [], h, hlo, happ =>
    rw [if_pos (by simp)]
    simp only [List.length_nil, Int.natCast_zero, gOr, show ((0 : Int) == 0) = true by rfl, if_true, Option.bind_some, idx_zero, happ x (by simp), lslice_tail]
    exact ⟨_, rfl, h.left (fun u hu => by simp at hu), by simp⟩
  | [], x :: q, h, hlo, happ =>
    rw [if_pos (by simp)]
    have e2 : (((x :: q).length : Int) == 0) = false := by simp only [List.length_cons, beq_eq_false_iff_ne]; omega
    simp only [e2, gOr, gAnd, List.length_nil, Int.natCast_zero, show decide ((0 : Int) > 0) = false by decide, show ((0 : Int) == 0) = true by rfl, Bool.false_eq_true, if_false, if_true, Option.bind_some, idx_zero, happ x (by simp), lslice_tail]
    exact ⟨_, rfl, h.right (fun u hu => by simp at hu), by simp⟩
  | x :: p, u :: q, h, hlo, happ =>
    rw [if_pos (by simp)]
    have e1 : (((x :: p).length : Int) == 0) = false := by simp only [List.length_cons, beq_eq_false_iff_ne]; omega
    have e2 : (((u :: q).length : Int) == 0) = false := by simp only [List.length_cons, beq_eq_false_iff_ne]; omega
    have e3 : decide (((x :: p).length : Int) > 0) = true := by simp
    simp only [e1, e2, e3, gOr, gAnd, Bool.false_eq_true, if_false, if_true, Option.bind_some, idx_zero, happ x (by simp only [List.length_cons]; omega), happ u (by simp only [List.length_cons]; omega), lslice_tail]
    rcases pLt_tri x u with hw | hw | hw
    · rw [if_pos (show sLt x.Advisory.b u.Advisory.b = true from hw)]
      refine ⟨_, rfl, h.left (fun v hv => ?_), by simp only [List.length_cons]; omega⟩
      rcases List.mem_cons.1 hv with rfl | hv
      · exact hw
      · exact pLt_trans hw ((List.pairwise_cons.1 h.sq).1 v hv)
    · have n1 : ¬ sLt x.Advisory.b u.Advisory.b = true := by rw [hw, sLt_irrefl]; simp
      rw [if_neg n1, if_neg (by simp [sEq_dec, hw])]
      by_cases hxu : x = u
      · subst hxu
        rw [if_neg (by rw [(pub_dec x x).2 rfl]; simp)]
        exact ⟨_, rfl, h.both, by simp only [List.length_cons]; omega⟩
      · rw [if_pos (by cases hq : (sEq x.Advisory.b u.Advisory.b && ((x.Day == u.Day) && (x.Ended == u.Ended))); rfl; exact absurd ((pub_dec x u).1 hq) hxu)]
        exact ⟨_, rfl, rfl, h.conf.1 ⟨x, List.mem_cons_self .., u, List.mem_cons_self .., hw, hxu⟩⟩
    · have n1 : ¬ sLt x.Advisory.b u.Advisory.b = true := fun h1 => by have := sLt_asymm h1; rw [show sLt u.Advisory.b x.Advisory.b = true from hw] at this; cases this
      have n2 : x.Advisory ≠ u.Advisory := fun e => pLt_ne hw e.symm
      rw [if_neg n1, if_pos (by simp [sEq_dec, n2, n1])]
      refine ⟨_, rfl, h.right (fun v hv => ?_), by simp only [List.length_cons]; omega⟩
      rcases List.mem_cons.1 hv with rfl | hv
      · exact hw
      · exact pLt_trans hw ((List.pairwise_cons.1 h.sp).1 v hv)
theorem gen_stableP (fuel : Nat) (l : List T_api_Published) (g : T_api_Published → T_api_Published → Option Int) : slices_SortStableFunc_Published_Published fuel l g = g_SortStableFunc fuel l g := by
  have h1 : slices_insertionSortCmpFunc_Published = g_insertionSortCmpFunc := rfl
  have h2 : slices_swapRangeCmpFunc_Published = g_swapRangeCmpFunc := rfl
  have h3 : slices_rotateCmpFunc_Published = g_rotateCmpFunc := rfl
  have h4 : slices_symMergeCmpFunc_Published fuel = g_symMergeCmpFunc fuel := by
    induction fuel with
    | zero => rfl
    | succ n ih =>
      funext a b c d e
      unfold slices_symMergeCmpFunc_Published g_symMergeCmpFunc
      rw [ih]
      rfl
  have h5 : slices_stableCmpFunc_Published fuel = g_stableCmpFunc fuel := by
    funext a b c
    unfold slices_stableCmpFunc_Published g_stableCmpFunc
    rw [h4, h1]
  unfold slices_SortStableFunc_Published_Published g_SortStableFunc
  rw [h5]

theorem cmpS_lt (x y : Str) : cmpS x y < 0 ↔ sLt x.b y.b = true := by
  unfold cmpS
  split
  · simp [*]
  · split
    · rename_i h _; simpa using h
    · rename_i h _; simpa using h
theorem cmpP_ok : Cmp3 (fun x y : T_api_Published => cmpS x.Advisory y.Advisory) where
  asym := fun x y h1 h2 => by
    have := pLt_trans ((cmpS_lt _ _).1 h1 : pLt x y) ((cmpS_lt _ _).1 h2 : pLt y x)
    exact pLt_irrefl x this
  trans := fun x y z h1 h2 h3 => by
    have h3' : pLt z x := (cmpS_lt _ _).1 h3
    have n1 : ¬ pLt y x := fun h => h1 ((cmpS_lt _ _).2 h)
    have n2 : ¬ pLt z y := fun h => h2 ((cmpS_lt _ _).2 h)
    rcases pLt_tri y z with h | h | h
    · exact n1 (pLt_trans h h3')
    · exact n1 (by unfold pLt at h3' ⊢; rw [h]; exact h3')
    · exact n2 h
theorem history_joinedKnown_1_eq (x y : T_api_Published) : history_joinedKnown_1 x y = some (cmpS x.Advisory y.Advisory) := by
  simp only [history_joinedKnown_1, cmp_Compare_string_eq, Option.bind_some]
theorem sortP {l : List T_api_Published} (hl : l.length ≤ 1000000) (hd : l.Pairwise (fun a b => a.Advisory ≠ b.Advisory)) : ∃ r, history_sortedBy_Published bigFuel l history_joinedKnown_1 = some r ∧ l.Perm r ∧ r.Pairwise pLt := by
  obtain ⟨q, q1, q2, q3⟩ := sort_stable (g := history_joinedKnown_1) history_joinedKnown_1_eq cmpP_ok (fuel := bigFuel) (d := l) (by unfold bigFuel; omega) (by unfold lim; omega)
  have hc : slices_Clone_Published_Published l = some l := by
    unfold slices_Clone_Published_Published
    rw [app_ok (by simp; unfold lim; omega) (by simp; unfold lim; omega)]
    simp
  refine ⟨q, ?_, q2, ?_⟩
  · simp only [history_sortedBy_Published, hc, gen_stableP, q1, Option.bind_some, chk_len' q2.length_eq.symm]
  · have h2 := hd.perm q2 (fun {x y} h e => h e.symm)
    refine (h2.and q3).imp fun {x y} h => ?_
    rcases pLt_tri x y with h3 | h3 | h3
    · exact h3
    · exact absurd h3 h.1
    · exact absurd ((cmpS_lt _ _).2 h3) h.2
def pubsOf (l : List T_api_Published) : Pubs := l.foldl (fun m x => mset kEqS x.Advisory x m) []
theorem pubs_get (l : List T_api_Published) (v : Str) : (∀ x, mget kEqS v (pubsOf l) = some x → x ∈ l ∧ x.Advisory = v) ∧ (mget kEqS v (pubsOf l) = none → ∀ x ∈ l, x.Advisory ≠ v) := by
  unfold pubsOf
  rw [mget_fold (fun (x : T_api_Published) => x.Advisory) (fun x => x)]
  cases hf : l.reverse.find? (fun x => decide (v = x.Advisory)) with
  | some k =>
    have h1 := List.find?_some hf
    have h2 := List.mem_of_find?_eq_some hf
    simp only [decide_eq_true_eq] at h1
    exact ⟨fun x hx => by cases hx; exact ⟨by simpa using h2, h1.symm⟩, fun h => by cases h⟩
  | none =>
    rw [List.find?_eq_none] at hf
    exact ⟨fun x hx => by simp [mget] at hx, fun _ x hx e => hf x (by simpa using hx) (by simp [e])⟩
theorem pubsLoop {ρ : Type} (l : List T_api_Published) : forL (σ := Pubs) (τ := Pubs) (ρ := ρ) l (fun _ x m => some (.next (mset kEqS x.Advisory x m))) (fun m => m) [] = some (.inl (pubsOf l)) :=
  (forL_map (fun (x : T_api_Published) m => mset kEqS x.Advisory x m) [] (fun _ _ => True) trivial (fun _ _ _ _ _ => ⟨rfl, trivial⟩)).1
open Classical in
noncomputable def newIn (a b : List T_api_Published) : List T_api_Published := b.filter fun y => decide (∀ x ∈ a, x.Advisory ≠ y.Advisory)
theorem newIn_new {a l : List T_api_Published} {y : T_api_Published} (h : ∀ x ∈ a, x.Advisory ≠ y.Advisory) : newIn a (l ++ [y]) = newIn a l ++ [y] := by
  unfold newIn
  rw [List.filter_append, List.filter_cons, if_pos (by simpa using h), List.filter_nil]
theorem newIn_old {a l : List T_api_Published} {y : T_api_Published} (h : ¬ ∀ x ∈ a, x.Advisory ≠ y.Advisory) : newIn a (l ++ [y]) = newIn a l := by
  unfold newIn
  rw [List.filter_append, List.filter_cons, if_neg (by simpa using h), List.filter_nil, List.append_nil]
theorem history_joinedKnown_eq {a b : List T_api_Published} (ha : KS a) (hb : KS b) (la : a.length ≤ 2000) (lb : b.length ≤ 2000) : ∃ r, history_joinedKnown bigFuel a b = some r ∧ JOut a b r := by
  unfold history_joinedKnown
  have hc : slices_Clone_Published_Published a = some a := by
    unfold slices_Clone_Published_Published
    rw [app_ok (by simp; unfold lim; omega) (by simp; unfold lim; omega)]
    simp
  rw [hc, Option.bind_some, pubsLoop, seqK_inl]
  refine seqK_out (B := fun l => l = a ++ newIn a b ∧ ¬ conflict a b) (R := fun r => r = ([], false) ∧ conflict a b)
    (forL_inv' (I := fun i l => l = a ++ newIn a (b.take i) ∧ ∀ y ∈ b.take i, ∀ x ∈ a, x.Advisory = y.Advisory → x = y) ⟨by simp [newIn], fun y hy => by simp at hy⟩ ?_ ?_) ?_ (fun r hr => .inl ⟨hr.2, hr.1⟩)
  · rintro i y l hy ⟨rfl, h2⟩
    have hi := getElem?_some_lt hy
    have hlen : (a ++ newIn a (b.take i)).length ≤ 4000 := by
      rw [List.length_append]
      have : (newIn a (b.take i)).length ≤ (b.take i).length := List.length_filter_le _ _
      rw [List.length_take] at this
      omega
    have happ : app 32 (a ++ newIn a (b.take i)) [y] = some (a ++ newIn a (b.take i) ++ [y]) := app_one (n := 1000001) (by omega) (by decide) (by decide)
    obtain ⟨g1, g2⟩ := pubs_get a y.Advisory
    cases hm : mget kEqS y.Advisory (pubsOf a) with
    | none =>
      have hn := g2 hm
      rw [if_neg (by simp), if_pos (by simp), happ, Option.bind_some]
      refine ⟨_, rfl, ?_, fun z hz x hx e => ?_⟩
      · rw [take_succ' hy, newIn_new hn, List.append_assoc]
      · rw [take_succ' hy, List.mem_append, List.mem_singleton] at hz
        rcases hz with hz | rfl
        · exact h2 z hz x hx e
        · exact absurd e (hn x hx)
    | some x =>
      obtain ⟨q1, q2⟩ := g1 x hm
      simp only [Option.getD_some, Option.isSome_some, Bool.true_and]
      by_cases hxy : x = y
      · rw [if_neg (by rw [(pub_dec x y).2 hxy]; simp), if_neg (by simp)]
        refine ⟨_, rfl, ?_, fun z hz u hu e => ?_⟩
        · rw [take_succ' hy, newIn_old (fun h => h x q1 q2)]
        · rw [take_succ' hy, List.mem_append, List.mem_singleton] at hz
          rcases hz with hz | rfl
          · exact h2 z hz u hu e
          · rw [← hxy]; exact pLt_inj ha.ord hu q1 (by rw [e, q2])
      · rw [if_pos (by cases hq : (sEq x.Advisory.b y.Advisory.b && ((x.Day == y.Day) && (x.Ended == y.Ended))); rfl; exact absurd ((pub_dec x y).1 hq) hxy)]
        exact ⟨_, rfl, rfl, x, q1, y, List.mem_of_getElem? hy, q2, hxy⟩
  · rintro l ⟨h1, h2⟩
    rw [List.take_length] at h1 h2
    refine ⟨h1, ?_⟩
    rintro ⟨x, hx, y, hy, e, hne⟩
    exact hne (h2 y hy x hx e)
  · rintro l ⟨rfl, hnc⟩
    have hlen : (a ++ newIn a b).length ≤ 4000 := by
      rw [List.length_append]
      have : (newIn a b).length ≤ b.length := List.length_filter_le _ _
      omega
    have hmem : ∀ y, y ∈ newIn a b ↔ y ∈ b ∧ ∀ x ∈ a, x.Advisory ≠ y.Advisory := fun y => by
      unfold newIn; rw [List.mem_filter]; simp
    obtain ⟨r, r1, r2, r3⟩ := sortP (l := a ++ newIn a b) (by omega) (by
      rw [List.pairwise_append]
      refine ⟨ha.ord.imp pLt_ne, (hb.ord.filter _).imp pLt_ne, fun x hx y hy => ((hmem y).1 hy).2 x hx⟩)
    rw [r1, Option.bind_some]
    refine ⟨_, rfl, .inr ⟨hnc, rfl, r3, fun x => ?_⟩⟩
    rw [← r2.mem_iff, List.mem_append, hmem]
    constructor
    · rintro (h | h)
      · exact .inl h
      · exact .inr h.1
    · rintro (h | h)
      · exact .inl h
      · by_cases hx : ∀ y ∈ a, y.Advisory ≠ x.Advisory
        · exact .inr ⟨h, hx⟩
        · left
          simp only [Classical.not_forall, Classical.not_not] at hx
          obtain ⟨y, hy, e⟩ := hx
          have : y = x := Classical.byContradiction fun hne => hnc ⟨y, hy, x, h, e, hne⟩
          rw [← this]; exact hy

/-! ### Cut -/
def storyZ : T_api_Story := T_api_Story.mk str_ [] [] 0
def cutOf (s : T_api_Story) (day : Int) : T_api_Story := T_api_Story.mk s.Product (s.Releases.filter fun r => decide (r.Day < day)) s.Known (if day < s.Until then day else s.Until)
def cutA (s : T_api_Story) (day : Int) : T_api_Story × Int := if sFault s ≠ 0 then (storyZ, sFault s) else if dayOk day = false then (storyZ, 9) else (cutOf s day, 0)
theorem ref11_Cut_eq (s : T_api_Story) (day : Int) : ref11_Cut s day = some (cutA s day) := by
  simp only [ref11_Cut, ref11_Check_eq, ref11_isDay_eq, Option.bind_some, cutA]
  by_cases h : sFault s = 0
  · have hl := (storyOk h).lenR
    simp only [h, bne_self_eq_false, Bool.false_eq_true, if_false, ne_eq, not_true_eq_false]
    cases dayOk day with
    | false => rfl
    | true =>
      simp only [Bool.not_true, Bool.false_eq_true, if_false, reduceCtorEq]
      rw [forL_filter (fun r => decide (r.Day < day)), seqK_inl]
      · rfl
      · intro i x st hx hst
        have hi := getElem?_some_lt hx
        rw [app_one (n := 1000001) (by omega) (by decide) (by decide)]
        cases decide (x.Day < day) <;> rfl
  · rw [if_pos (by simpa using h), if_pos h]; rfl
theorem history_Cut_eq (s : T_api_Story) (day : Int) : history_Cut s day = some (cutA s day) := by
  simp only [history_Cut, history_Check_eq, history_isDay_eq, Option.bind_some, cutA]
  by_cases h : sFault s = 0
  · have ok := storyOk h
    have hl := ok.lenR
    have hk := ok.lenK
    simp only [h, bne_self_eq_false, Bool.false_eq_true, if_false, ne_eq, not_true_eq_false]
    cases dayOk day with
    | false => rfl
    | true =>
      simp only [Bool.not_true, Bool.false_eq_true, if_false, reduceCtorEq]
      have hc : slices_Clone_Published_Published s.Known = some s.Known := by
        unfold slices_Clone_Published_Published
        rw [app_ok (by simp; unfold lim; omega) (by simp; unfold lim; omega)]
        simp
      rw [hc, Option.bind_some, forL_filter (fun r => decide (r.Day < day)), seqK_inl]
      · rfl
      · intro i x st hx hst
        have hi := getElem?_some_lt hx
        rw [copied_eq (ok.rel i x hx).2.2.1, Option.bind_some, app_one (n := 1000001) (by omega) (by decide) (by decide)]
        cases decide (x.Day < day) <;> rfl
  · rw [if_pos (by simpa using h), if_pos h]; rfl

/-! ### Join -/
def early (b : T_api_Story) (r : T_api_Release) : Bool := match b.Releases with | [] => true | x :: _ => decide (r.Day < x.Day)
def joinR (a b : T_api_Story) : List T_api_Release := a.Releases.filter (early b) ++ b.Releases
theorem early_eq (b : T_api_Story) (r : T_api_Release) : (gOr ((b.Releases.length : Int) == 0) (Option.bind (idx b.Releases 0) fun x39 => some (decide (r.Day < x39.Day)))) = some (early b r) := by
  unfold early
  cases b.Releases with
  | nil => rfl
  | cons x l =>
    have : (((x :: l).length : Int) == 0) = false := by simp only [List.length_cons, beq_eq_false_iff_ne]; omega
    simp only [gOr, this, Bool.false_eq_true, if_false, idx_zero, Option.bind_some]
theorem joinR_rs {a b : T_api_Story} (ha : SOk a) (hb : SOk b) (hv : ((joinR a b).map (·.Version)).Nodup) : RS (joinR a b) where
  each := fun r hr => by
    unfold joinR at hr
    rcases List.mem_append.1 hr with hr | hr
    · exact ha.rs.each r (List.mem_filter.1 hr).1
    · exact hb.rs.each r hr
  days := by
    unfold joinR
    rw [List.pairwise_append]
    refine ⟨ha.rs.days.filter _, hb.rs.days, fun x hx y hy => ?_⟩
    have he := (List.mem_filter.1 hx).2
    have hd := hb.rs.days
    unfold early at he
    cases hl : b.Releases with
    | nil => rw [hl] at hy; simp at hy
    | cons z l =>
      rw [hl] at he hy hd
      simp only [decide_eq_true_eq] at he
      rcases List.mem_cons.1 hy with rfl | hy
      · exact he
      · have := (List.pairwise_cons.1 hd).1 y hy
        omega
  vers := hv
theorem KU.ks {a b K : List T_api_Published} (h : KU a b K) (ha : KS a) (hb : KS b) : KS K := ⟨fun x hx => by
  rcases (h.mem x).1 hx with h1 | h1
  · exact ha.each x h1
  · exact hb.each x h1, h.ord⟩
theorem joinR_kn {a b : T_api_Story} {K : List T_api_Published} (ha : SOk a) (hb : SOk b) (h : KU a.Known b.Known K) : advKnown K (joinR a b) := by
  intro r hr e he
  unfold joinR at hr
  rcases List.mem_append.1 hr with hr | hr
  · obtain ⟨k, hk, e1⟩ := ha.kn r (List.mem_filter.1 hr).1 e he
    exact ⟨k, (h.mem k).2 (.inl hk), e1⟩
  · obtain ⟨k, hk, e1⟩ := hb.kn r hr e he
    exact ⟨k, (h.mem k).2 (.inr hk), e1⟩
theorem joinR_len {a b : T_api_Story} (ha : SOk a) (hb : SOk b) : (joinR a b).length ≤ 1000 ∧ (a.Releases.filter (early b)).length ≤ 500 := by
  have h1 := ha.lenR
  have h2 := hb.lenR
  have h3 : (a.Releases.filter (early b)).length ≤ a.Releases.length := List.length_filter_le _ _
  unfold joinR
  rw [List.length_append]
  omega
open Classical in
/-- What joining yields when both stories are right, of one product, and in order. -/
noncomputable def joinA (a b : T_api_Story) (K : List T_api_Published × Bool) : T_api_Story × Int :=
  if K.2 = false ∨ ¬ ((joinR a b).map (·.Version)).Nodup then (storyZ, 5)
  else if 500 < (joinR a b).length ∨ 2000 < K.1.length then (storyZ, 3)
  else if ∃ r ∈ joinR a b, b.Until < r.Day then (storyZ, 9)
  else (T_api_Story.mk a.Product (joinR a b) K.1 b.Until, 0)
open Classical in
theorem vers_loop {ρ : Type} (l : List T_api_Release) (b0 : Bool) : forN (σ := Bool × List (Str × Bool)) (τ := Bool) (ρ := ρ) (fun i53 (b58, m59) => Option.bind (idx l (i53 : Int)) fun x64 => some (.next (b58 && (!((mget kEqS x64.Version m59).getD false)), (mset kEqS x64.Version true m59)))) (fun (b58, m59) => b58) l.length 0 (b0, []) = some (.inl (b0 && decide ((l.map (·.Version)).Nodup))) := by
  have key : ∃ y, forN (σ := Bool × List (Str × Bool)) (τ := Bool) (ρ := ρ) (fun i53 (b58, m59) => Option.bind (idx l (i53 : Int)) fun x64 => some (.next (b58 && (!((mget kEqS x64.Version m59).getD false)), (mset kEqS x64.Version true m59)))) (fun (b58, m59) => b58) l.length 0 (b0, []) = some y ∧ Out (fun t => t = (b0 && decide ((l.map (·.Version)).Nodup))) (fun _ => False) y := by
    refine forN_inv (I := fun i s => s.1 = (b0 && decide (((l.take i).map (·.Version)).Nodup)) ∧ verMap (l.take i) s.2) ⟨by simp, fun v => by simp [mget]⟩ ?_ ?_
    · rintro i ⟨b, m⟩ hi ⟨h1, h2⟩
      obtain ⟨x, hx⟩ := get_some hi
      dsimp only at h1 h2 ⊢
      rw [idx_get hx, Option.bind_some]
      refine ⟨_, rfl, ?_, ?_⟩
      · dsimp only
        rw [h1, h2, take_succ' hx, Bool.and_assoc]
        congr 1
        apply Bool.eq_iff_iff.2
        simp only [Bool.and_eq_true, decide_eq_true_eq, Bool.not_eq_true', decide_eq_false_iff_not]
        rw [List.map_append, List.nodup_append]
        constructor
        · rintro ⟨q1, q2⟩
          exact ⟨q1, by simp, fun u hu v hv e => q2 (by simp at hv; rw [← hv, ← e]; exact hu)⟩
        · rintro ⟨q1, _, q3⟩
          exact ⟨q1, fun hm => q3 _ hm _ (by simp) rfl⟩
      · rw [take_succ' hx]; exact verMap_next h2 x
    · rintro ⟨b, m⟩ ⟨h1, _⟩
      rw [List.take_length] at h1
      exact h1
  obtain ⟨y, h1, h2⟩ := key
  cases y with
  | inl t => rw [h1, show t = _ from h2]
  | inr r => exact h2.elim
open Classical in
theorem until_loop (l : List T_api_Release) (u : Int) : forN (σ := Unit) (τ := Unit) (fun i68 _ => Option.bind (idx l (i68 : Int)) fun x74 => if (decide (x74.Day > u)) = true then (some (.ret (storyZ, (9 : Int)))) else (some (.next ()))) (fun _ => ()) l.length 0 () = some (if ∃ r ∈ l, u < r.Day then .inr (storyZ, 9) else .inl ()) := by
  have key : ∃ y, forN (σ := Unit) (τ := Unit) (fun i68 _ => Option.bind (idx l (i68 : Int)) fun x74 => if (decide (x74.Day > u)) = true then (some (.ret (storyZ, (9 : Int)))) else (some (.next ()))) (fun _ => ()) l.length 0 () = some y ∧ Out (fun _ => ¬ ∃ r ∈ l, u < r.Day) (fun r => r = (storyZ, 9) ∧ ∃ r ∈ l, u < r.Day) y := by
    refine forN_inv (I := fun i _ => ∀ r ∈ l.take i, ¬ u < r.Day) (fun r hr => by simp at hr) ?_ ?_
    · intro i _ hi h
      obtain ⟨x, hx⟩ := get_some hi
      rw [idx_get hx, Option.bind_some]
      by_cases hd : u < x.Day
      · rw [if_pos (by simp; omega)]
        exact ⟨_, rfl, rfl, x, List.mem_of_getElem? hx, hd⟩
      · rw [if_neg (by simp; omega)]
        refine ⟨_, rfl, fun r hr => ?_⟩
        rw [take_succ' hx, List.mem_append, List.mem_singleton] at hr
        rcases hr with hr | rfl
        · exact h r hr
        · exact hd
    · rintro _ h ⟨r, hr, hd⟩
      rw [List.take_length] at h
      exact h r hr hd
  obtain ⟨y, h1, h2⟩ := key
  cases y with
  | inl t => rw [h1, if_neg h2]
  | inr r => rw [h1, if_pos h2.2, h2.1]
theorem contains_ver {l : List T_api_Release} {x : T_api_Release} : slices_ContainsFunc_Release_Release l (fun a0 => history_Join_1 a0 x) = some (l.any fun y => sEq y.Version.b x.Version.b) := by
  unfold slices_ContainsFunc_Release_Release slices_IndexFunc_Release_Release
  rw [forL_find (fun _ y => sEq y.Version.b x.Version.b) (fun i _ => (i : Int))]
  · have h := firstI_any (fun y : T_api_Release => sEq y.Version.b x.Version.b) l 0
    cases hf : firstI (fun (_ : Nat) (y : T_api_Release) => sEq y.Version.b x.Version.b) l 0 with
    | none => rw [hf] at h; simp [seqK, ← h]
    | some e =>
      rw [hf] at h
      simp only [seqK, Option.bind_some, Option.isSome_some] at h ⊢
      rw [← h]; simp
  · intro i y _
    simp only [history_Join_1, Option.bind_some]
    exact ex_ite (c := sEq y.Version.b x.Version.b) _ _

open Classical in
theorem ref11_Join_core {a b : T_api_Story} (ha : SOk a) (hb : SOk b) (hp : a.Product = b.Product) (hu : ¬ (0 < b.Releases.length ∧ b.Until < a.Until)) {K : List T_api_Published × Bool} (hK : ref11_joinedKnown a.Known b.Known = some K) : ref11_Join a b = some (joinA a b K) := by
  have fa := sFault_ok ha
  have fb := sFault_ok hb
  obtain ⟨hlj, hlf⟩ := joinR_len ha hb
  have hl1 := ha.lenR
  unfold ref11_Join
  have h2 : forN (σ := Unit) (τ := Unit) (ρ := T_api_Story × Int) (fun i1 _ => Option.bind (idx [a, b] (i1 : Int)) fun x9 => Option.bind (ref11_Check x9) fun y11 => if (y11 != 0) = true then (some (.ret ((T_api_Story.mk str_ ([] : List T_api_Release) ([] : List T_api_Published) 0), y11))) else (some (.next ()))) (fun _ => ()) 2 0 () = some (.inl ()) := by
    simp only [forN, idx_nat, List.getElem?_cons_zero, List.getElem?_cons_succ, Option.bind_some, ref11_Check_eq, fa, fb, bne_self_eq_false, Bool.false_eq_true, if_false]
  rw [h2, seqK_inl, if_neg (by simp [hp, sEq_dec]), if_neg (by simp only [Bool.and_eq_true, decide_eq_true_eq]; omega)]
  rw [forL_filter (early b), seqK_inl]
  · have happ : app 48 (a.Releases.filter (early b)) b.Releases = some (joinR a b) := by
      have : (joinR a b).length = (a.Releases.filter (early b)).length + b.Releases.length := by unfold joinR; rw [List.length_append]
      rw [app_ok (by rw [← this]; unfold lim; omega) (by rw [← this]; unfold lim; omega)]; rfl
    rw [happ, Option.bind_some, hK, Option.bind_some]
    dsimp only
    rw [vers_loop, seqK_inl]
    unfold joinA
    obtain ⟨K1, K2⟩ := K
    dsimp only
    by_cases hv : ((joinR a b).map (·.Version)).Nodup
    · cases K2 with
      | false => rw [if_pos (by simp), if_pos (.inl rfl)]; rfl
      | true =>
        have e1 : ¬ (true = false ∨ ¬ ((joinR a b).map (·.Version)).Nodup) := by simp [hv]
        rw [if_neg (by simp [hv]), if_neg e1]
        by_cases hs : 500 < (joinR a b).length ∨ 2000 < K1.length
        · rw [if_pos (by simp; omega), if_pos hs]; rfl
        · rw [if_neg (by simp; omega), if_neg hs]
          refine (congrArg (fun o => seqK o _) (until_loop (joinR a b) b.Until)).trans ?_
          by_cases hd : ∃ r ∈ joinR a b, b.Until < r.Day
          · rw [if_pos hd, if_pos hd]; rfl
          · rw [if_neg hd, if_neg hd]; rfl
    · rw [if_pos (by simp [hv]), if_pos (.inr hv)]; rfl
  · intro i x st hx hst
    have hi := getElem?_some_lt hx
    rw [early_eq, Option.bind_some, app_one (n := 1000001) (by omega) (by decide) (by decide)]
    cases early b x <;> rfl
open Classical in
theorem history_Join_core {a b : T_api_Story} (ha : SOk a) (hb : SOk b) (hp : a.Product = b.Product) (hu : ¬ (0 < b.Releases.length ∧ b.Until < a.Until)) {K : List T_api_Published × Bool} (hK : history_joinedKnown bigFuel a.Known b.Known = some K) (hJ : JOut a.Known b.Known K) : history_Join bigFuel a b = some (joinA a b K) := by
  have fa := sFault_ok ha
  have fb := sFault_ok hb
  obtain ⟨hlj, hlf⟩ := joinR_len ha hb
  have hl1 := ha.lenR
  unfold history_Join
  simp only [history_Check_eq, fa, fb, Option.bind_some, bne_self_eq_false, Bool.false_eq_true, if_false]
  rw [if_neg (by simp [hp, sEq_dec]), if_neg (by simp only [Bool.and_eq_true, decide_eq_true_eq]; omega), hK, Option.bind_some]
  obtain ⟨K1, K2⟩ := K
  dsimp only
  cases K2 with
  | false =>
    rw [if_pos (by simp)]
    unfold joinA
    rw [if_pos (by simp)]; rfl
  | true =>
    rw [if_neg (by simp)]
    have hKU : KU a.Known b.Known K1 := by
      rcases hJ with ⟨_, h⟩ | ⟨_, _, h⟩
      · cases h
      · exact h
    rw [forL_filter (early b), seqK_inl]
    · have hn0 : ((a.Releases.filter (early b)).map (·.Version)).Nodup := ha.rs.vers.sublist (List.filter_sublist.map _)
      have key : ∃ r, seqK (forL (σ := (List T_api_Release)) (τ := (List T_api_Release)) b.Releases (fun _ x54 l61 => Option.bind (slices_ContainsFunc_Release_Release l61 (fun a0 => history_Join_1 a0 x54)) fun y70 => if y70 = true then (some (.ret ((T_api_Story.mk str_ ([] : List T_api_Release) ([] : List T_api_Published) 0), 5))) else (Option.bind (history_copied x54) fun y72 => Option.bind (app 48 l61 [y72]) fun l74 => some (.next l74))) (fun l61 => l61) (a.Releases.filter (early b))) (fun l68 => Option.bind (some (sFault (T_api_Story.mk a.Product l68 K1 b.Until))) fun y76 => if (y76 != 0) = true then (some ((T_api_Story.mk str_ ([] : List T_api_Release) ([] : List T_api_Published) 0), y76)) else (some ((T_api_Story.mk a.Product l68 K1 b.Until), 0))) = some r ∧ r = joinA a b (K1, true) := by
        refine seqK_out (B := fun l => l = joinR a b ∧ ((joinR a b).map (·.Version)).Nodup) (R := fun r => r = (storyZ, 5) ∧ ¬ ((joinR a b).map (·.Version)).Nodup)
          (forL_inv' (I := fun i l => l = a.Releases.filter (early b) ++ b.Releases.take i ∧ (l.map (·.Version)).Nodup) ⟨by simp, hn0⟩ ?_ ?_) ?_ ?_
        · rintro i x l hx ⟨rfl, hn⟩
          have hi := getElem?_some_lt hx
          have hlb := hb.lenR
          have hlen : (a.Releases.filter (early b) ++ b.Releases.take i).length ≤ 1000 := by rw [List.length_append, List.length_take]; omega
          rw [contains_ver, Option.bind_some]
          cases hany : (a.Releases.filter (early b) ++ b.Releases.take i).any (fun y => sEq y.Version.b x.Version.b) with
          | true =>
            rw [if_pos rfl]
            refine ⟨_, rfl, rfl, fun hnn => ?_⟩
            rw [List.any_eq_true] at hany
            obtain ⟨y, hy, e⟩ := hany
            simp only [sEq_dec, decide_eq_true_eq] at e
            have hsub : ((a.Releases.filter (early b) ++ b.Releases.take (i + 1)).map (·.Version)).Nodup := hnn.sublist (((List.Sublist.refl _).append (List.take_sublist _ _)).map _)
            rw [take_succ' hx, ← List.append_assoc, List.map_append, List.nodup_append] at hsub
            exact hsub.2.2 _ (List.mem_map.2 ⟨y, hy, rfl⟩) _ (by simp) e
          | false =>
            rw [if_neg (by simp), copied_eq (hb.rs.each x (List.mem_of_getElem? hx)).2.2, Option.bind_some, app_one (n := 1000001) (by omega) (by decide) (by decide), Option.bind_some]
            refine ⟨_, rfl, by rw [take_succ' hx, List.append_assoc], ?_⟩
            rw [List.map_append, List.nodup_append]
            refine ⟨hn, by simp, fun u hu v hv e => ?_⟩
            simp only [List.map_cons, List.map_nil, List.mem_singleton] at hv
            obtain ⟨y, hy, e1⟩ := List.mem_map.1 hu
            rw [List.any_eq_false] at hany
            exact hany y hy (by rw [sEq_dec]; simp only [decide_eq_true_eq]; rw [e1, e, hv])
        · rintro l ⟨h1, h2⟩
          rw [List.take_length] at h1
          subst h1
          exact ⟨rfl, h2⟩
        · rintro l ⟨rfl, hn⟩
          rw [Option.bind_some]
          have hf := sFault_of (s := T_api_Story.mk a.Product (joinR a b) K1 b.Until) ha.name hb.day (joinR_rs ha hb hn) (hKU.ks ha.ks hb.ks) (joinR_kn ha hb hKU)
          dsimp only at hf
          unfold joinA
          have e1 : ¬ (true = false ∨ ¬ ((joinR a b).map (·.Version)).Nodup) := by simp [hn]
          rw [if_neg e1]
          dsimp only
          by_cases hs : 500 < (joinR a b).length ∨ 2000 < K1.length
          · rw [if_pos hs] at hf
            rw [if_pos hs, hf]
            exact ⟨_, rfl, rfl⟩
          · rw [if_neg hs] at hf
            rw [if_neg hs]
            by_cases hd : ∃ r ∈ joinR a b, b.Until < r.Day
            · rw [if_pos hd] at hf
              rw [if_pos hd, hf]
              exact ⟨_, rfl, rfl⟩
            · rw [if_neg hd] at hf
              rw [if_neg hd, hf]
              exact ⟨_, rfl, rfl⟩
        · rintro r ⟨rfl, hn⟩
          unfold joinA
          rw [if_pos (.inr hn)]
      obtain ⟨r, k1, rfl⟩ := key
      exact k1
    · intro i x st hx hst
      have hi := getElem?_some_lt hx
      rw [early_eq, Option.bind_some, copied_eq (ha.rs.each x (List.mem_of_getElem? hx)).2.2, Option.bind_some, app_one (n := 1000001) (by omega) (by decide) (by decide)]
      cases early b x <;> rfl
theorem Join_eq (a b : T_api_Story) : ∃ r, history_Join bigFuel a b = some r ∧ ref11_Join a b = some r ∧ (SOk a → SOk b → a.Product = b.Product → ¬ (0 < b.Releases.length ∧ b.Until < a.Until) → ∃ K, JOut a.Known b.Known K ∧ r = joinA a b K) := by
  by_cases fa : sFault a = 0
  · by_cases fb : sFault b = 0
    · have ha := sok_of fa
      have hb := sok_of fb
      by_cases hp : a.Product = b.Product
      · by_cases hu : 0 < b.Releases.length ∧ b.Until < a.Until
        · refine ⟨(storyZ, 10), ?_, ?_, fun _ _ _ h => absurd hu h⟩
          · unfold history_Join
            simp only [history_Check_eq, fa, fb, Option.bind_some, bne_self_eq_false, Bool.false_eq_true, if_false]
            rw [if_neg (by simp [hp, sEq_dec]), if_pos (by simp only [Bool.and_eq_true, decide_eq_true_eq]; omega)]; rfl
          · unfold ref11_Join
            have h2 : forN (σ := Unit) (τ := Unit) (ρ := T_api_Story × Int) (fun i1 _ => Option.bind (idx [a, b] (i1 : Int)) fun x9 => Option.bind (ref11_Check x9) fun y11 => if (y11 != 0) = true then (some (.ret ((T_api_Story.mk str_ ([] : List T_api_Release) ([] : List T_api_Published) 0), y11))) else (some (.next ()))) (fun _ => ()) 2 0 () = some (.inl ()) := by
              simp only [forN, idx_nat, List.getElem?_cons_zero, List.getElem?_cons_succ, Option.bind_some, ref11_Check_eq, fa, fb, bne_self_eq_false, Bool.false_eq_true, if_false]
            rw [h2, seqK_inl, if_neg (by simp [hp, sEq_dec]), if_pos (by simp only [Bool.and_eq_true, decide_eq_true_eq]; omega)]; rfl
        · obtain ⟨K, k1, k2⟩ := history_joinedKnown_eq ha.ks hb.ks ha.lenK hb.lenK
          obtain ⟨K', k3, k4⟩ := ref11_joinedKnown_eq ha.ks hb.ks ha.lenK hb.lenK
          obtain rfl := k2.eq k4
          exact ⟨_, history_Join_core ha hb hp hu k1 k2, ref11_Join_core ha hb hp hu k3, fun _ _ _ _ => ⟨K, k2, rfl⟩⟩
      · refine ⟨(storyZ, 8), ?_, ?_, fun _ _ h => absurd h hp⟩
        · unfold history_Join
          simp only [history_Check_eq, fa, fb, Option.bind_some, bne_self_eq_false, Bool.false_eq_true, if_false]
          rw [if_pos (by simp [hp, sEq_dec])]; rfl
        · unfold ref11_Join
          have h2 : forN (σ := Unit) (τ := Unit) (ρ := T_api_Story × Int) (fun i1 _ => Option.bind (idx [a, b] (i1 : Int)) fun x9 => Option.bind (ref11_Check x9) fun y11 => if (y11 != 0) = true then (some (.ret ((T_api_Story.mk str_ ([] : List T_api_Release) ([] : List T_api_Published) 0), y11))) else (some (.next ()))) (fun _ => ()) 2 0 () = some (.inl ()) := by
            simp only [forN, idx_nat, List.getElem?_cons_zero, List.getElem?_cons_succ, Option.bind_some, ref11_Check_eq, fa, fb, bne_self_eq_false, Bool.false_eq_true, if_false]
          rw [h2, seqK_inl, if_pos (by simp [hp, sEq_dec])]; rfl
    · refine ⟨(storyZ, sFault b), ?_, ?_, fun _ h => absurd (sFault_ok h) fb⟩
      · unfold history_Join
        simp only [history_Check_eq, fa, Option.bind_some, bne_self_eq_false, Bool.false_eq_true, if_false]
        rw [if_pos (by simpa using fb)]; rfl
      · unfold ref11_Join
        have h2 : forN (σ := Unit) (τ := Unit) (ρ := T_api_Story × Int) (fun i1 _ => Option.bind (idx [a, b] (i1 : Int)) fun x9 => Option.bind (ref11_Check x9) fun y11 => if (y11 != 0) = true then (some (.ret ((T_api_Story.mk str_ ([] : List T_api_Release) ([] : List T_api_Published) 0), y11))) else (some (.next ()))) (fun _ => ()) 2 0 () = some (.inr (storyZ, sFault b)) := by
          simp only [forN, idx_nat, List.getElem?_cons_zero, List.getElem?_cons_succ, Option.bind_some, ref11_Check_eq, fa, bne_self_eq_false, Bool.false_eq_true, if_false]
          rw [if_pos (by simpa using fb)]; rfl
        rw [h2]; rfl
  · refine ⟨(storyZ, sFault a), ?_, ?_, fun h => absurd (sFault_ok h) fa⟩
    · unfold history_Join
      simp only [history_Check_eq, Option.bind_some]
      rw [if_pos (by simpa using fa)]; rfl
    · unfold ref11_Join
      have h2 : forN (σ := Unit) (τ := Unit) (ρ := T_api_Story × Int) (fun i1 _ => Option.bind (idx [a, b] (i1 : Int)) fun x9 => Option.bind (ref11_Check x9) fun y11 => if (y11 != 0) = true then (some (.ret ((T_api_Story.mk str_ ([] : List T_api_Release) ([] : List T_api_Published) 0), y11))) else (some (.next ()))) (fun _ => ()) 2 0 () = some (.inr (storyZ, sFault a)) := by
        simp only [forN, idx_nat, List.getElem?_cons_zero, Option.bind_some, ref11_Check_eq]
        rw [if_pos (by simpa using fa)]; rfl
      rw [h2]; rfl

/-! ### The laws -/
theorem eqP_self (l : List T_api_Published) : slices_Equal_Published_Published l l = some true := by
  unfold slices_Equal_Published_Published
  rw [if_neg (by simp), forL_find (fun _ _ => false) (fun _ _ => false)]
  · have : firstI (fun (_ : Nat) (_ : T_api_Published) => false) l 0 = none := firstI_none.2 fun _ _ _ => rfl
    rw [this]; rfl
  · intro i x hx
    rw [idx_nat, hx]
    simp [sEq_self]
theorem eqR_self (l : List T_api_Release) : slices_EqualFunc_Release_Release_Release_Release l l law11_sameRelease = some true := by
  unfold slices_EqualFunc_Release_Release_Release_Release
  rw [if_neg (by simp), forL_find (fun _ _ => false) (fun _ _ => false)]
  · have : firstI (fun (_ : Nat) (_ : T_api_Release) => false) l 0 = none := firstI_none.2 fun _ _ _ => rfl
    rw [this]; rfl
  · intro i x hx
    rw [idx_nat, hx]
    simp [sameRelease_self]
theorem equal_self (s : T_api_Story) : law11_equal s s = some true := by
  simp [law11_equal, sEq_self, gAnd, eqR_self, eqP_self]
theorem law_Cuts (a b : T_api_Story) (day : Int) : law11_HistoryCutsMatchSpec bigFuel a b day = some true := by
  obtain ⟨⟨u, g⟩, h1, h2, _⟩ := Join_eq a b
  unfold law11_HistoryCutsMatchSpec
  rw [ref11_Cut_eq, history_Cut_eq]
  rcases hc : cutA a day with ⟨x, e⟩
  simp only [h1, h2, Option.bind_some, equal_self, beq_self_eq_true, Bool.and_self, gAnd, if_true, law11_told]
theorem dayOk_iff (d : Int) : dayOk d = true ↔ 0 ≤ d ∧ d ≤ 1000000 := by simp [dayOk]
theorem RS.filter {l : List T_api_Release} (h : RS l) (p : T_api_Release → Bool) : RS (l.filter p) := ⟨fun r hr => h.each r (List.mem_filter.1 hr).1, h.days.filter _, h.vers.sublist (List.filter_sublist.map _)⟩
theorem cut_ok {s : T_api_Story} (h : SOk s) {day : Int} (hd : dayOk day = true) : SOk (cutOf s day) where
  name := h.name
  day := by
    show dayOk (if day < s.Until then day else s.Until) = true
    split
    · exact hd
    · exact h.day
  lenR := Nat.le_trans (List.length_filter_le _ _) h.lenR
  lenK := h.lenK
  rs := h.rs.filter _
  until' := fun r hr => by
    have h1 := List.mem_filter.1 hr
    have h2 := h.until' r h1.1
    have h3 := h1.2
    simp only [decide_eq_true_eq] at h3
    show r.Day ≤ (if day < s.Until then day else s.Until)
    split <;> omega
  ks := h.ks
  kn := fun r hr => h.kn r (List.mem_filter.1 hr).1
def restOf (s : T_api_Story) (day : Int) : T_api_Story := T_api_Story.mk s.Product (s.Releases.filter fun r => decide (r.Day ≥ day)) s.Known s.Until
theorem rest_ok {s : T_api_Story} (h : SOk s) (day : Int) : SOk (restOf s day) where
  name := h.name
  day := h.day
  lenR := Nat.le_trans (List.length_filter_le _ _) h.lenR
  lenK := h.lenK
  rs := h.rs.filter _
  until' := fun r hr => h.until' r (List.mem_filter.1 hr).1
  ks := h.ks
  kn := fun r hr => h.kn r (List.mem_filter.1 hr).1
theorem split_days : ∀ {l : List T_api_Release}, l.Pairwise (fun a b => a.Day < b.Day) → ∀ day : Int, (l.filter fun r => decide (r.Day < day)) ++ (l.filter fun r => decide (r.Day ≥ day)) = l
  | [], _, _ => rfl
  | r :: l, h, day => by
    rw [List.pairwise_cons] at h
    have ih := split_days h.2 day
    by_cases hd : r.Day < day
    · rw [List.filter_cons, if_pos (by simpa using hd), List.filter_cons, if_neg (by simp; omega), List.cons_append, ih]
    · have hn : (l.filter fun r => decide (r.Day < day)) = [] := by
        rw [List.filter_eq_nil_iff]
        intro x hx
        have := h.1 x hx
        simp; omega
      rw [List.filter_cons, if_neg (by simpa using hd), List.filter_cons, if_pos (by simp; omega), hn, List.nil_append]
      rw [hn, List.nil_append] at ih
      rw [ih]
theorem join_cut {s : T_api_Story} (h : SOk s) (day : Int) : joinR (cutOf s day) (restOf s day) = s.Releases := by
  have he : (cutOf s day).Releases.filter (early (restOf s day)) = (cutOf s day).Releases := by
    rw [List.filter_eq_self]
    intro r hr
    have h1 := (List.mem_filter.1 hr).2
    simp only [decide_eq_true_eq] at h1
    unfold early
    cases hl : (restOf s day).Releases with
    | nil => rfl
    | cons x l =>
      have hx : x ∈ (restOf s day).Releases := by rw [hl]; simp
      have h2 := (List.mem_filter.1 hx).2
      simp only [decide_eq_true_eq] at h2 ⊢
      omega
  unfold joinR
  rw [he]
  exact split_days h.rs.days day
theorem no_conflict {s : T_api_Story} (h : SOk s) : ¬ conflict s.Known s.Known := by
  rintro ⟨x, hx, y, hy, e, hne⟩
  exact hne (pLt_inj h.ks.ord hx hy e)
theorem law_CutsJoin (s : T_api_Story) (day : Int) : law11_HistoryCutsJoin bigFuel s day = some true := by
  unfold law11_HistoryCutsJoin
  rw [history_Cut_eq, ref11_Cut_eq]
  simp only [Option.bind_some]
  by_cases hc : (cutA s day).2 = 0
  · have hs : sFault s = 0 := by
      refine Classical.byContradiction fun hs => ?_
      unfold cutA at hc
      rw [if_pos hs] at hc
      exact hs hc
    have hd : dayOk day = true := by
      cases hd : dayOk day with
      | true => rfl
      | false =>
        unfold cutA at hc
        rw [if_neg (by simpa using hs), if_pos hd] at hc
        simp at hc
    have ok := sok_of hs
    have hcut : cutA s day = (cutOf s day, 0) := by
      unfold cutA
      rw [if_neg (by simpa using hs), if_neg (by simp [hd])]
    rw [hcut]
    dsimp only
    rw [if_neg (by simp)]
    have hl := ok.lenR
    rw [forL_filter (fun r => decide (r.Day ≥ day)), seqK_inl]
    · obtain ⟨r, h1, _, h3⟩ := Join_eq (cutOf s day) (restOf s day)
      obtain ⟨K, k1, k2⟩ := h3 (cut_ok ok hd) (rest_ok ok day) rfl (by
        rintro ⟨_, hu⟩
        have : (cutOf s day).Until ≤ s.Until := by
          show (if day < s.Until then day else s.Until) ≤ s.Until
          split <;> omega
        have h5 : (restOf s day).Until = s.Until := rfl
        omega)
      have hK : K = (s.Known, true) := by
        have k1' : JOut s.Known s.Known K := k1
        refine k1'.eq (.inr ⟨no_conflict ok, rfl, ok.ks.ord, fun x => ?_⟩)
        show x ∈ s.Known ↔ x ∈ s.Known ∨ x ∈ s.Known
        simp
      have hr : r = (s, 0) := by
        rw [k2, hK]
        unfold joinA
        rw [join_cut ok day]
        have e1 : ¬ ((s.Known, true).2 = false ∨ ¬ (s.Releases.map (·.Version)).Nodup) := by simp [ok.rs.vers]
        have e2 : ¬ (500 < s.Releases.length ∨ 2000 < (s.Known, true).1.length) := by
          have := ok.lenR
          have := ok.lenK
          dsimp only; omega
        have e3 : ¬ ∃ r ∈ s.Releases, (restOf s day).Until < r.Day := by
          rintro ⟨r, hr, hd⟩
          have h6 := ok.until' r hr
          have h5 : (restOf s day).Until = s.Until := rfl
          omega
        rw [if_neg e1, if_neg e2, if_neg e3]
        rfl
      rw [show T_api_Story.mk s.Product (s.Releases.filter fun r => decide (r.Day ≥ day)) s.Known s.Until = restOf s day from rfl, h1, hr]
      simp [equal_self, gAnd, law11_told]
    · intro i x st hx hst
      have hi := getElem?_some_lt hx
      rw [app_one (n := 1000001) (by omega) (by decide) (by decide)]
      cases decide (x.Day ≥ day) <;> rfl
  · rcases hcc : cutA s day with ⟨x, e⟩
    rw [hcc] at hc
    dsimp only at hc ⊢
    rw [if_pos (by simpa using hc)]
    simp [gAnd, law11_told]
end Go.Abs
