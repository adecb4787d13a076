/-
  Plain facts of history: names, exposures, Compare.
-/
import Derived.Test.YtjjhmldeammecaaFHc
import Derived.Test.YtjjhmldeammecaaA25
namespace Go.Abs
open Go

def nameOk (s : Str) : Bool := visible s.b && decide (1 ≤ s.b.size) && decide (s.b.size ≤ 100)
theorem bytes_bad (s : ByteArray) {i : Nat} (hi : i < s.size) : (decide (((s[i]'hi).toNat : Int) < 33) || decide (((s[i]'hi).toNat : Int) > 126)) = !decide (33 ≤ (s[i]'hi).toNat ∧ (s[i]'hi).toNat ≤ 126) := by
  apply Bool.eq_iff_iff.2
  simp only [Bool.or_eq_true, decide_eq_true_eq, Bool.not_eq_true', decide_eq_false_iff_not]
  omega
theorem ref11_isName_eq (v : Str) : ref11_isName v = some (nameOk v) := by
  unfold ref11_isName
  have hs := v.size_lim
  rw [show (0 : Int) = ((0 : Nat) : Int) from rfl, loopW_find v.b.size (fun i => if h : i < v.b.size then !decide (33 ≤ (v.b[i]'h).toNat ∧ (v.b[i]'h).toNat ≤ 126) else false) (fun _ => false) (t := ()) ?_ v.b.size 0 (by omega) ?_]
  · have hf := find_vis v.b (fun i => if h : i < v.b.size then !decide (33 ≤ (v.b[i]'h).toNat ∧ (v.b[i]'h).toNat ≤ 126) else false) (fun i hi => by rw [dif_pos hi])
    cases hq : (List.range' 0 v.b.size).find? (fun i => if h : i < v.b.size then !decide (33 ≤ (v.b[i]'h).toNat ∧ (v.b[i]'h).toNat ≤ 126) else false) with
    | none =>
      rw [hq] at hf
      have hv : visible v.b = true := by simpa using hf.symm
      simp only [seqK, nameOk, hv, Option.bind_some, Bool.true_and, Option.some.injEq]
      congr 1 <;> (apply decide_eq_decide.2; omega)
    | some j =>
      rw [hq] at hf
      have hv : visible v.b = false := by simpa using hf.symm
      simp [seqK, nameOk, hv]
  · simp
  · intro j _ hj
    rw [if_pos (by simpa using hj), sidx_nat hj]
    simp only [Option.bind_some, bytes_bad v.b hj, dif_pos hj]
    rw [w64_succ (by omega)]
    cases decide (33 ≤ (v.b[j]'hj).toNat ∧ (v.b[j]'hj).toNat ≤ 126) <;> simp
theorem str_empty (v : Str) : sEq v.b str_.b = decide (v.b.size = 0) := by
  rw [sEq_dec]
  apply decide_eq_decide.2
  constructor
  · rintro rfl; rfl
  · intro h
    apply Str.ext'
    rw [str__b]
    apply ByteArray.ext
    apply Array.ext'
    have : v.b.data.toList.length = 0 := h
    rw [List.eq_nil_of_length_eq_zero this]
theorem history_isRun_eq (v : Str) : history_isRun v = some (visible v.b && decide (1 ≤ v.b.size)) := by
  unfold history_isRun
  rw [forN_find (fun i => if h : i < v.b.size then !decide (33 ≤ (v.b[i]'h).toNat ∧ (v.b[i]'h).toNat ≤ 126) else false) (fun _ => false) v.b.size 0 ?_]
  · have hf := find_vis v.b (fun i => if h : i < v.b.size then !decide (33 ≤ (v.b[i]'h).toNat ∧ (v.b[i]'h).toNat ≤ 126) else false) (fun i hi => by rw [dif_pos hi])
    cases hq : (List.range' 0 v.b.size).find? (fun i => if h : i < v.b.size then !decide (33 ≤ (v.b[i]'h).toNat ∧ (v.b[i]'h).toNat ≤ 126) else false) with
    | none =>
      rw [hq] at hf
      have hv : visible v.b = true := by simpa using hf.symm
      simp only [seqK, hv, str_empty, Option.bind_some, Bool.true_and, Option.some.injEq]
      rw [← decide_not, decide_eq_decide]; omega
    | some j =>
      rw [hq] at hf
      have hv : visible v.b = false := by simpa using hf.symm
      simp [seqK, hv]
  · intro j _ hj
    have hj : j < v.b.size := by omega
    rw [sidx_nat hj]
    simp only [Option.bind_some, bytes_bad v.b hj, dif_pos hj]
    cases decide (33 ≤ (v.b[j]'hj).toNat ∧ (v.b[j]'hj).toNat ≤ 126) <;> simp
theorem history_isName_eq (v : Str) : history_isName v = some (nameOk v) := by
  simp only [history_isName, history_isRun_eq, Option.bind_some, nameOk]
  congr 2
  apply decide_eq_decide.2; omega

def dayOk (d : Int) : Bool := decide (0 ≤ d) && decide (d ≤ 1000000)
theorem ref11_isDay_eq (d : Int) : ref11_isDay d = some (dayOk d) := by simp [ref11_isDay, dayOk]
theorem history_isDay_eq (d : Int) : history_isDay d = some (dayOk d) := by simp [history_isDay, dayOk]

/-! ### The order of exposures -/
def bef (a b : T_api_Exposure) : Bool := sLt a.Advisory.b b.Advisory.b || (sEq a.Advisory.b b.Advisory.b && sLt a.Component.b b.Component.b)
theorem ref11_before_eq (a b : T_api_Exposure) : ref11_before a b = some (bef a b) := rfl
theorem cmp_Compare_string_eq (x y : Str) : cmp_Compare_string x y = some (cmpS x y) := by
  simp only [cmp_Compare_string, cmp_isNaN_string, sEq_self, Bool.not_true, Option.bind_some, Bool.false_eq_true, if_false, cmpS, sEq_dec, Bool.not_eq_true', Bool.or_eq_false_iff, decide_eq_false_iff_not]
  split
  · rfl
  · split <;> simp_all
theorem cmp_Or_int_2 (a b : Int) : cmp_Or_int [a, b] = some (if a ≠ 0 then a else b) := by
  unfold cmp_Or_int
  rw [forL_goL]
  by_cases ha : a = 0
  · by_cases hb : b = 0 <;> simp [goL, seqK, ha, hb]
  · simp [goL, seqK, ha]
theorem history_orderKeys_eq (a b : T_history_key) : history_orderKeys a b = some (if cmpS a.advisory b.advisory ≠ 0 then cmpS a.advisory b.advisory else cmpS a.component b.component) := by
  simp only [history_orderKeys, cmp_Compare_string_eq, Option.bind_some, cmp_Or_int_2]
theorem order_bef (a b : T_api_Exposure) : decide ((if cmpS a.Advisory b.Advisory ≠ 0 then cmpS a.Advisory b.Advisory else cmpS a.Component b.Component) ≥ 0) = !bef a b := by
  unfold cmpS bef
  rw [sEq_dec]
  cases sLt a.Advisory.b b.Advisory.b with
  | true => simp
  | false =>
    by_cases h : a.Advisory = b.Advisory
    · simp only [h, Bool.false_eq_true, if_false, if_true, ne_eq, not_true_eq_false, decide_true, Bool.true_and, Bool.false_or]
      cases sLt a.Component.b b.Component.b with
      | true => simp
      | false => simp; split <;> simp
    · simp [h]

/-! ### The fault of exposures -/
def eFault (l : List T_api_Exposure) (i : Nat) (x : T_api_Exposure) : Int :=
  if (nameOk x.Advisory && nameOk x.Component) = false then 8 else if x.Severity < 0 ∨ 100 < x.Severity then 9
  else if 0 < i ∧ ∃ y, l[i - 1]? = some y ∧ bef y x = false then 10 else 0
def esFault (l : List T_api_Exposure) : Int :=
  if 500 < l.length then 3 else match firstI (fun i x => decide (eFault l i x ≠ 0)) l 0 with | some e => eFault l e.1 e.2 | none => 0
theorem es_step {l : List T_api_Exposure} (hl : l.length ≤ 500) {i : Nat} {x : T_api_Exposure} (hx : l[i]? = some x) {β : Type} (K : Bool → Option β) :
    (gAnd (decide ((i : Int) > 0)) (Option.bind (idx l (w64 ((i : Int) - 1))) fun y => some (!bef y x))).bind K = K (decide (0 < i ∧ ∃ y, l[i - 1]? = some y ∧ bef y x = false)) := by
  have hi := getElem?_some_lt hx
  cases i with
  | zero => simp [gAnd]
  | succ i =>
    have hy : l[i]? = some l[i] := by simp
    rw [w64_pred (by omega), idx_nat, hy]
    simp only [gAnd, Option.bind_some]
    rw [if_pos (by simp), Option.bind_some]
    congr 1
    apply Bool.eq_iff_iff.2
    rw [show i + 1 - 1 = i from rfl, hy]
    simp
theorem ref11_exposuresFault_eq (l : List T_api_Exposure) : ref11_exposuresFault l = some (esFault l) := by
  unfold ref11_exposuresFault esFault
  by_cases hl : 500 < l.length
  · rw [if_pos (by simp; omega), if_pos hl]
  · rw [if_neg (by simp; omega), if_neg hl, forL_find (fun i x => decide (eFault l i x ≠ 0)) (eFault l)]
    · cases firstI (fun i x => decide (eFault l i x ≠ 0)) l 0 <;> rfl
    · intro i x hx
      simp only [ref11_isName_eq, Option.bind_some, ref11_before_eq]
      rw [es_step (by omega) hx]
      unfold eFault
      cases h1 : nameOk x.Advisory with
      | false => simp [gOr]
      | true =>
        cases h2 : nameOk x.Component with
        | false => simp [gOr]
        | true =>
          by_cases h3 : x.Severity < 0 ∨ 100 < x.Severity
          · simp [gOr, h3]
          · by_cases h4 : 0 < i ∧ ∃ y, l[i - 1]? = some y ∧ bef y x = false
            · simp only [gOr, h3, h4]; simp; omega
            · simp only [gOr, h3, h4]; simp; omega
theorem history_checkExposures_eq (l : List T_api_Exposure) : history_checkExposures l = some (esFault l) := by
  rw [← ref11_exposuresFault_eq]
  unfold history_checkExposures ref11_exposuresFault
  simp only [history_isName_eq, ref11_isName_eq, Option.bind_some, history_keyOf, history_orderKeys_eq, order_bef, ref11_before_eq]
def rFault (r : T_api_Release) : Int := if nameOk r.Version = false then 8 else if dayOk r.Day = false then 9 else esFault r.Exposures
theorem ref11_releaseFault_eq (r : T_api_Release) : ref11_releaseFault r = some (rFault r) := by
  simp only [ref11_releaseFault, ref11_isName_eq, ref11_isDay_eq, ref11_exposuresFault_eq, Option.bind_some, rFault]
  cases nameOk r.Version <;> cases dayOk r.Day <;> simp
theorem history_checkRelease_eq (r : T_api_Release) : history_checkRelease r = some (rFault r) := by
  simp only [history_checkRelease, history_isName_eq, history_isDay_eq, history_checkExposures_eq, Option.bind_some, rFault]
  cases nameOk r.Version <;> cases dayOk r.Day <;> simp

/-! ### What is among exposures -/
def sameE (a b : T_api_Exposure) : Bool := sEq a.Advisory.b b.Advisory.b && sEq a.Component.b b.Component.b
theorem ref11_has_eq (l : List T_api_Exposure) (x : T_api_Exposure) : ref11_has l x = some (l.any (sameE x)) := by
  unfold ref11_has
  rw [forL_find (fun _ y => sameE x y) (fun _ _ => true)]
  · rw [← firstI_any (sameE x) l 0]
    cases firstI (fun _ y => sameE x y) l 0 <;> rfl
  · intro i y _
    simp only [ref11_same, Option.bind_some]
    exact ex_ite (c := sameE x y) _ _
theorem history_Compare_1_eq (l : List T_api_Exposure) (x : T_api_Exposure) : history_Compare_1 l x = some (l.any (sameE x)) := by
  unfold history_Compare_1 slices_ContainsFunc_Exposure_Exposure slices_IndexFunc_Exposure_Exposure
  rw [forL_find (fun _ y => sameE x y) (fun i _ => (i : Int))]
  · rw [← firstI_any (sameE x) l 0]
    cases h : firstI (fun _ y => sameE x y) l 0 with
    | none => rfl
    | some e => simp [seqK]
  · intro i y _
    simp only [history_Compare_1_1, history_keyOf, Option.bind_some]
    exact ex_ite (c := sameE x y) _ _

/-! ### Compare -/
abbrev Exs := List T_api_Exposure
def cmpR (a b : T_api_Release) : Exs × Exs × Exs × Int :=
  if rFault a ≠ 0 then ([], [], [], rFault a) else if rFault b ≠ 0 then ([], [], [], rFault b)
  else (a.Exposures.filter (fun x => !b.Exposures.any (sameE x)), b.Exposures.filter (fun x => !a.Exposures.any (sameE x)), b.Exposures.filter (fun x => a.Exposures.any (sameE x)), 0)
theorem esFault_len {l : Exs} (h : esFault l = 0) : l.length ≤ 500 := by
  unfold esFault at h
  split at h
  · cases h
  · omega
theorem rFault_es {r : T_api_Release} (h : rFault r = 0) : esFault r.Exposures = 0 := by
  unfold rFault at h
  split at h
  · cases h
  · split at h
    · cases h
    · exact h
theorem two_faults (a b : T_api_Release) (k : Unit → Option (Exs × Exs × Exs × Int)) :
    seqK (forN (σ := Unit) (τ := Unit) (fun i1 _ => Option.bind (idx [a, b] (i1 : Int)) fun x9 => Option.bind (some (rFault x9)) fun y11 => if (y11 != 0) = true then (some (.ret (([] : Exs), ([] : Exs), ([] : Exs), y11))) else (some (.next ()))) (fun _ => ()) 2 0 ()) k =
    if rFault a ≠ 0 then some ([], [], [], rFault a) else if rFault b ≠ 0 then some ([], [], [], rFault b) else k () := by
  by_cases h1 : rFault a = 0
  · by_cases h2 : rFault b = 0
    · simp [forN, seqK, idx, h1, h2]
    · simp [forN, seqK, idx, h1, h2]
  · simp [forN, seqK, idx, h1]
theorem ref11_Compare_eq (a b : T_api_Release) : ref11_Compare a b = some (cmpR a b) := by
  unfold ref11_Compare cmpR
  simp only [ref11_releaseFault_eq, ref11_has_eq, Option.bind_some]
  refine (two_faults a b _).trans ?_
  split
  · rfl
  · split
    · rfl
    · rename_i h1 h2
      have la := esFault_len (rFault_es (by simpa using h1))
      have lb := esFault_len (rFault_es (by simpa using h2))
      rw [forL_filter (fun x => !b.Exposures.any (sameE x)), forL_filter2 (fun x => a.Exposures.any (sameE x))]
      · rfl
      · intro i x s t hx hs ht
        have hi := getElem?_some_lt hx
        dsimp only
        rw [app_one (n := 501) (by omega) (by decide) (by decide), app_one (n := 501) (by omega) (by decide) (by decide)]
        cases a.Exposures.any (sameE x) <;> rfl
      · intro i x s hx hs
        have hi := getElem?_some_lt hx
        rw [app_one (n := 501) (by omega) (by decide) (by decide)]
        cases b.Exposures.any (sameE x) <;> rfl
theorem history_Compare_eq (a b : T_api_Release) : history_Compare a b = some (cmpR a b) := by
  rw [← ref11_Compare_eq]
  unfold history_Compare ref11_Compare
  simp only [history_checkRelease_eq, ref11_releaseFault_eq, history_Compare_1_eq, ref11_has_eq]

theorem eqE_self (l : Exs) : slices_Equal_Exposure_Exposure l l = some true := by
  unfold slices_Equal_Exposure_Exposure
  rw [if_neg (by simp), forL_find (fun _ _ => false) (fun _ _ => false)]
  · rw [show firstI (fun _ _ => false) l 0 = none from firstI_none.2 fun _ _ _ => rfl]; rfl
  · intro i x hx
    rw [idx_nat, hx]
    simp [sEq_self]

/-! ### What is in both, from both sides -/
theorem bef_trans {a b c : T_api_Exposure} (h1 : bef a b = true) (h2 : bef b c = true) : bef a c = true := by
  unfold bef at *
  simp only [sEq_dec, Bool.or_eq_true, Bool.and_eq_true, decide_eq_true_eq] at *
  rcases h1 with h1 | ⟨e1, h1⟩ <;> rcases h2 with h2 | ⟨e2, h2⟩
  · exact .inl (sLt_trans h1 h2)
  · rw [e2] at h1; exact .inl h1
  · rw [e1]; exact .inl h2
  · exact .inr ⟨e1.trans e2, sLt_trans h1 h2⟩
theorem bef_ne {a b : T_api_Exposure} (h : bef a b = true) : (a.Advisory, a.Component) ≠ (b.Advisory, b.Component) := by
  intro e
  obtain ⟨e1, e2⟩ := Prod.mk.inj e
  unfold bef at h
  rw [e1, e2, sLt_irrefl, sLt_irrefl] at h
  simp at h
theorem es_pairwise {l : Exs} (h : esFault l = 0) : l.Pairwise (fun a b => bef a b = true) := by
  refine chain_pairwise (R := fun a b => bef a b = true) (fun a b c h1 h2 => bef_trans h1 h2) ?_
  intro i a b ha hb
  unfold esFault at h
  split at h
  · cases h
  · cases hf : firstI (fun i x => decide (eFault l i x ≠ 0)) l 0 with
    | some e =>
      rw [hf] at h
      obtain ⟨j, _, _, h3⟩ := firstI_some hf
      simp only [decide_eq_true_eq] at h3
      exact absurd h h3
    | none =>
      have := firstI_none.1 hf (i + 1) b hb
      simp only [Nat.zero_add, decide_eq_false_iff_not, ne_eq, Classical.not_not] at this
      unfold eFault at this
      split at this
      · cases this
      · split at this
        · cases this
        · split at this
          · cases this
          · rename_i h3
            cases hab : bef a b with
            | true => rfl
            | false => exact absurd ⟨by omega, a, by simpa using ha, hab⟩ h3
def keyE (x : T_api_Exposure) : Str × Str := (x.Advisory, x.Component)
theorem sameE_key (a b : T_api_Exposure) : sameE a b = true ↔ keyE a = keyE b := by
  simp [sameE, keyE, sEq_dec]
theorem keys_nodup {l : Exs} (h : esFault l = 0) : (l.map keyE).Nodup := by
  rw [List.nodup_iff_pairwise_ne, List.pairwise_map]
  exact (es_pairwise h).imp fun h => bef_ne h
theorem any_key (l : Exs) (x : T_api_Exposure) : l.any (sameE x) = true ↔ keyE x ∈ l.map keyE := by
  simp only [List.any_eq_true, List.mem_map]
  constructor
  · rintro ⟨y, h1, h2⟩; exact ⟨y, h1, ((sameE_key x y).1 h2).symm⟩
  · rintro ⟨y, h1, h2⟩; exact ⟨y, h1, (sameE_key x y).2 h2.symm⟩
theorem both_len {a b : Exs} (ha : esFault a = 0) (hb : esFault b = 0) : (a.filter (fun x => b.any (sameE x))).length = (b.filter (fun x => a.any (sameE x))).length := by
  have key : ∀ (a b : Exs), ((a.filter (fun x => b.any (sameE x))).map keyE) = (a.map keyE).filter (fun k => decide (k ∈ b.map keyE)) := by
    intro a b
    rw [List.filter_map]
    congr 1
    apply List.filter_congr
    intro x _
    apply Bool.eq_iff_iff.2
    rw [any_key]; simp
  have h1 := key a b
  have h2 := key b a
  have hp : ((a.map keyE).filter (fun k => decide (k ∈ b.map keyE))).Perm ((b.map keyE).filter (fun k => decide (k ∈ a.map keyE))) := by
    refine (List.perm_ext_iff_of_nodup ?_ ?_).2 ?_
    · exact (keys_nodup ha).sublist List.filter_sublist
    · exact (keys_nodup hb).sublist List.filter_sublist
    · intro k; simp only [List.mem_filter, decide_eq_true_eq]; exact And.comm
  rw [← h1, ← h2] at hp
  simpa using hp.length_eq
theorem law_Compare (a b : T_api_Release) : law11_HistoryCompareMatchesSpec a b = some true := by
  unfold law11_HistoryCompareMatchesSpec
  simp only [ref11_Compare_eq, history_Compare_eq, Option.bind_some]
  by_cases ha : rFault a = 0
  · by_cases hb : rFault b = 0
    · have h1 : cmpR a b = (a.Exposures.filter (fun x => !b.Exposures.any (sameE x)), b.Exposures.filter (fun x => !a.Exposures.any (sameE x)), b.Exposures.filter (fun x => a.Exposures.any (sameE x)), 0) := by simp [cmpR, ha, hb]
      have h2 : cmpR b a = (b.Exposures.filter (fun x => !a.Exposures.any (sameE x)), a.Exposures.filter (fun x => !b.Exposures.any (sameE x)), a.Exposures.filter (fun x => b.Exposures.any (sameE x)), 0) := by simp [cmpR, ha, hb]
      rw [h1, h2]
      simp only [Option.bind_some, eqE_self, gOr, Bool.not_true, Bool.false_eq_true, if_false, bne_self_eq_false, Bool.or_false, both_len (rFault_es ha) (rFault_es hb), beq_self_eq_true, if_true]
      rfl
    · have h1 : cmpR a b = ([], [], [], rFault b) := by simp [cmpR, ha, hb]
      rw [h1]
      simp [eqE_self, gOr, hb, law11_told]
  · have h1 : cmpR a b = ([], [], [], rFault a) := by simp [cmpR, ha]
    rw [h1]
    simp [eqE_self, gOr, ha, law11_told]
end Go.Abs
