/-
  Plain facts of history: the release that is used, pieces, what is open; the law on Check.
-/
import Derived.Test.YtjjhmldeammecaaXHk
namespace Go.Abs
open Go

structure StoryOk (s : T_api_Story) : Prop where
  until1 : s.Until ≤ 1000000
  lenR : s.Releases.length ≤ 500
  lenK : s.Known.length ≤ 2000
  rel : ∀ i r, s.Releases[i]? = some r → 0 ≤ r.Day ∧ r.Day ≤ s.Until ∧ esFault r.Exposures = 0 ∧ prevB s.Releases i (fun y => decide (r.Day ≤ y.Day)) = false
  kn : ∀ i k, s.Known[i]? = some k → kFault s.Known i k = 0
theorem storyOk {s : T_api_Story} (h : sFault s = 0) : StoryOk s := by
  unfold sFault at h
  split at h
  · cases h
  · split at h
    · cases h
    · rename_i h2
      split at h
      · cases h
      · rename_i h3
        have hu : s.Until ≤ 1000000 := by
          have : dayOk s.Until = true := by simpa using h2
          simp [dayOk] at this; exact this.2
        split at h
        · rename_i e he; exact absurd h (relLoop_ret he)
        · rename_i hne
          obtain ⟨y, hy⟩ := relLoop_total s
          cases y with
          | inr e => exact absurd hy (hne e)
          | inl u =>
            have hks : ksFault s.Known = 0 := by
              refine Classical.byContradiction fun hk => ?_
              rw [if_pos hk] at h; exact hk h
            refine ⟨hu, by omega, by omega, ?_, ks_zero hks⟩
            have := forL_all hy (fun i r => 0 ≤ r.Day ∧ r.Day ≤ s.Until ∧ esFault r.Exposures = 0 ∧ prevB s.Releases i (fun y => decide (r.Day ≤ y.Day)) = false) ?_ ?_
            · exact this
            · intro i x m t' _
              repeat' split
              all_goals (intro hc; cases hc)
            · intro i x m m' _ hb
              split at hb
              · cases hb
              · split at hb
                · cases hb
                · split at hb
                  · cases hb
                  · rename_i h5
                    split at hb
                    · cases hb
                    · rename_i h6
                      split at hb
                      · cases hb
                      · rename_i h7
                        simp only [Bool.or_eq_true, decide_eq_true_eq, not_or, Int.not_lt] at h5
                        exact ⟨h5.1, by omega, by simpa using h7, by simpa using h6⟩
theorem rel_days {s : T_api_Story} (h : StoryOk s) : s.Releases.Pairwise (fun a b => a.Day < b.Day) := by
  refine chain_pairwise (R := fun (a b : T_api_Release) => a.Day < b.Day) (fun a b c h1 h2 => Int.lt_trans h1 h2) ?_
  intro i a b ha hb
  have := (h.rel (i + 1) b hb).2.2.2
  simp only [prevB, ha, decide_eq_false_iff_not] at this
  omega

/-! ### The release that is used -/
def lastR (day : Int) (l : List T_api_Release) (o : Option T_api_Release) : Option T_api_Release := l.foldl (fun o r => if r.Day ≤ day then some r else o) o
def relZ : T_api_Release := T_api_Release.mk str_ 0 []
def usedR (s : T_api_Story) (day : Int) : Option T_api_Release := if s.Until ≤ day then none else lastR day s.Releases none
def tupR : Option T_api_Release → Bool × Str × Int × List T_api_Exposure
  | some r => (true, r.Version, r.Day, r.Exposures)
  | none => (false, str_, 0, [])
theorem tup_fold (day : Int) : ∀ (l : List T_api_Release) (o : Option T_api_Release), l.foldl (fun st x => if x.Day ≤ day then (true, x.Version, x.Day, x.Exposures) else st) (tupR o) = tupR (lastR day l o)
  | [], _ => rfl
  | x :: l, o => by
    simp only [List.foldl_cons, lastR]
    by_cases h : x.Day ≤ day
    · rw [if_pos h, if_pos h]; exact tup_fold day l (some x)
    · rw [if_neg h, if_neg h]; exact tup_fold day l o
theorem ref11_used_eq (s : T_api_Story) (day : Int) : ref11_used s day = some (match usedR s day with | some r => (r, true) | none => (relZ, false)) := by
  unfold ref11_used
  refine (congrArg (fun z => seqK z _) (forL_map (fun (x : T_api_Release) st => if x.Day ≤ day then (true, x.Version, x.Day, x.Exposures) else st) (tupR none) (fun _ _ => True) trivial (fun i x st _ _ => by
      obtain ⟨a, b, c, d⟩ := st
      refine ⟨?_, trivial⟩
      by_cases h : x.Day ≤ day <;> simp [h])).1).trans ?_
  rw [tup_fold]
  unfold usedR
  cases h : lastR day s.Releases none with
  | none => simp [seqK, tupR, relZ]
  | some r =>
    by_cases h2 : s.Until ≤ day
    · simp [seqK, tupR, relZ, h2]
    · simp [seqK, tupR, h2]
theorem lastR_append (day : Int) (l : List T_api_Release) (x : T_api_Release) (o : Option T_api_Release) : lastR day (l ++ [x]) o = if x.Day ≤ day then some x else lastR day l o := by
  simp [lastR]
theorem history_used_eq (s : T_api_Story) (day : Int) : ∃ n, history_used s day = some n ∧ match usedR s day with | some r => 0 ≤ n ∧ s.Releases[n.toNat]? = some r | none => n = -1 := by
  unfold history_used usedR
  by_cases h : s.Until ≤ day
  · exact ⟨-1, by rw [if_pos (by simpa using h)], by simp [h]⟩
  · rw [if_neg (by simpa using h), if_neg h]
    obtain ⟨n, h1, h2⟩ := forL_fold (l := s.Releases) (body := fun i1 (x4 : T_api_Release) (n5 : Int) => if (decide (x4.Day ≤ day)) = true then (some (.next (i1 : Int))) else (some (.next n5))) (fin := fun n5 => n5) (ρ := Int)
      (fun i x n => if x.Day ≤ day then (i : Int) else n) (-1) (fun i n => match lastR day (s.Releases.take i) none with | some r => 0 ≤ n ∧ s.Releases[n.toNat]? = some r | none => n = -1) rfl (by
        intro i x n hx hi
        refine ⟨by by_cases hd : x.Day ≤ day <;> simp [hd], ?_⟩
        rw [List.take_add_one, hx, Option.toList_some, lastR_append]
        by_cases hd : x.Day ≤ day
        · simp only [if_pos hd]
          exact ⟨by omega, by simpa using hx⟩
        · simp only [if_neg hd]; exact hi)
    rw [h1]
    refine ⟨n, rfl, ?_⟩
    rwa [List.take_length] at h2
theorem copied_eq {r : T_api_Release} (h : esFault r.Exposures = 0) : history_copied r = some r := by
  have := esFault_len h
  unfold history_copied slices_Clone_Exposure_Exposure
  rw [app_ok (by unfold lim; simp; omega) (by unfold lim; simp; omega)]
  simp
def usedA (s : T_api_Story) (day : Int) : T_api_Release × Bool × Int :=
  if sFault s ≠ 0 then (relZ, false, sFault s) else if dayOk day = false then (relZ, false, 9) else match usedR s day with | some r => (r, true, 0) | none => (relZ, false, 0)
theorem ref11_Used_eq (s : T_api_Story) (day : Int) : ref11_Used s day = some (usedA s day) := by
  simp only [ref11_Used, ref11_Check_eq, ref11_isDay_eq, ref11_used_eq, Option.bind_some, usedA]
  by_cases h : sFault s = 0
  · simp only [h, bne_self_eq_false, Bool.false_eq_true, if_false, ne_eq, not_true_eq_false]
    cases hd : dayOk day with
    | false => simp [relZ]
    | true => cases usedR s day <;> simp
  · rw [if_pos (by simpa using h), if_pos h]; rfl
theorem lastR_mem (day : Int) : ∀ (l : List T_api_Release) (o : Option T_api_Release) {r}, lastR day l o = some r → r ∈ l ∨ o = some r
  | [], _, _, h => .inr h
  | x :: l, o, r, h => by
    rw [lastR, List.foldl_cons] at h
    rcases lastR_mem day l _ h with h | h
    · exact .inl (List.mem_cons_of_mem _ h)
    · split at h
      · cases h; exact .inl (List.mem_cons_self ..)
      · exact .inr h
theorem usedR_mem {s : T_api_Story} {day : Int} {r : T_api_Release} (h : usedR s day = some r) : r ∈ s.Releases := by
  unfold usedR at h
  split at h
  · cases h
  · rcases lastR_mem day _ _ h with h | h
    · exact h
    · cases h
theorem history_Used_eq (s : T_api_Story) (day : Int) : history_Used s day = some (usedA s day) := by
  simp only [history_Used, history_Check_eq, history_isDay_eq, Option.bind_some, usedA]
  by_cases h : sFault s = 0
  · have ok := storyOk h
    simp only [h, bne_self_eq_false, Bool.false_eq_true, if_false, ne_eq, not_true_eq_false]
    cases hd : dayOk day with
    | false => simp [relZ]
    | true =>
      obtain ⟨n, h1, h2⟩ := history_used_eq s day
      rw [h1]
      cases hu : usedR s day with
      | none =>
        rw [hu] at h2
        simp only at h2
        simp [h2, relZ]
      | some r =>
        rw [hu] at h2
        simp only at h2
        obtain ⟨i, hi⟩ := List.getElem?_of_mem (usedR_mem hu)
        have he := (ok.rel i r hi).2.2.1
        simp only [Option.bind_some, Bool.not_true, Bool.false_eq_true, if_false]
        rw [if_neg (by simpa using h2.1), show idx s.Releases n = some r by simp [idx, h2]]
        simp [copied_eq he]
  · rw [if_pos (by simpa using h), if_pos h]; rfl

/-! ### Pieces -/
abbrev Pubs := List (Str × T_api_Published)
def pubMap (s : T_api_Story) : Pubs := s.Known.foldl (fun m x => mset kEqS x.Advisory x m) []
def pub (m : Pubs) (x : T_api_Exposure) : T_api_Published := (mget kEqS x.Advisory m).getD (T_api_Published.mk str_ 0 0)
theorem pubLoop {ρ : Type} (s : T_api_Story) : forL (σ := Pubs) (τ := Pubs) (ρ := ρ) s.Known (fun _ x m => some (.next (mset kEqS x.Advisory x m))) (fun m => m) [] = some (.inl (pubMap s)) :=
  (forL_map (fun (x : T_api_Published) m => mset kEqS x.Advisory x m) [] (fun _ _ => True) trivial (fun _ _ _ _ _ => ⟨rfl, trivial⟩)).1
def toOf (e : Int) (p : T_api_Published) : Int := if p.Ended ≥ 0 then (if p.Ended < e then p.Ended else e) else e
def fromOf (d : Int) (p : T_api_Published) : Int := if d < p.Day then p.Day else d
def pieceOf (m : Pubs) (d e : Int) (x : T_api_Exposure) : T_history_piece := T_history_piece.mk x (fromOf d (pub m x)) (toOf e (pub m x))
def pcsOf (m : Pubs) (r : T_api_Release) (e : Int) : List T_history_piece := (r.Exposures.filter (fun x => decide (fromOf r.Day (pub m x) < toOf e (pub m x)))).map (pieceOf m r.Day e)
def endOf (u : Int) : List T_api_Release → Int
  | [] => u
  | r :: _ => r.Day
def pcs (m : Pubs) (u : Int) : List T_api_Release → List T_history_piece
  | [] => []
  | r :: rest => pcsOf m r (endOf u rest) ++ pcs m u rest
/-- A loop that collects what it makes of some of a list. -/
theorem forL_collect {α β τ ρ : Type} {body : Nat → α → List β → Option (Ex (List β) τ ρ)} {fin : List β → τ} {l : List α} (p : α → Bool) (g : α → β) (l0 : List β)
    (h : ∀ i x s, l[i]? = some x → s.length ≤ l0.length + i → body i x s = some (.next (if p x = true then s ++ [g x] else s))) : forL l body fin l0 = some (.inl (fin (l0 ++ (l.filter p).map g))) := by
  have := (forL_map (body := body) (fin := fin) (l := l) (fun x s => if p x = true then s ++ [g x] else s) l0 (fun q s => s.length ≤ l0.length + q.length) (by simp) (fun i x s hx hs => by
    obtain ⟨h1, h2⟩ := take_len hx
    rw [h1] at hs
    refine ⟨h i x s hx hs, ?_⟩
    rw [h2]
    split <;> (try simp) <;> omega)).1
  rw [this]
  have key : ∀ (l : List α) (s : List β), l.foldl (fun s x => if p x = true then s ++ [g x] else s) s = s ++ (l.filter p).map g := by
    intro l
    induction l with
    | nil => intro s; simp
    | cons x l ih =>
      intro s
      rw [List.foldl_cons, ih, List.filter_cons]
      cases p x <;> simp
  rw [key]
theorem pcs_len (m : Pubs) (u : Int) : ∀ (l : List T_api_Release), (∀ r ∈ l, r.Exposures.length ≤ 500) → (pcs m u l).length ≤ 500 * l.length
  | [], _ => by simp [pcs]
  | r :: l, h => by
    have h1 := pcs_len m u l fun x hx => h x (List.mem_cons_of_mem _ hx)
    have h2 := h r (List.mem_cons_self ..)
    have h3 : (pcsOf m r (endOf u l)).length ≤ r.Exposures.length := by
      unfold pcsOf; rw [List.length_map]; exact List.length_filter_le _ _
    simp only [pcs, List.length_append, List.length_cons]
    omega
theorem rel_len {s : T_api_Story} (h : StoryOk s) : ∀ r ∈ s.Releases, r.Exposures.length ≤ 500 := by
  intro r hr
  obtain ⟨i, hi⟩ := List.getElem?_of_mem hr
  exact esFault_len (h.rel i r hi).2.2.1
theorem forL_pcs {ρ : Type} {m : Pubs} {u : Int} {rs : List T_api_Release} {body : Nat → T_api_Release → List T_history_piece → Option (Ex (List T_history_piece) (List T_history_piece) ρ)} (hrs : ∀ r ∈ rs, r.Exposures.length ≤ 500)
    (h : ∀ i x l, rs[i]? = some x → l.length ≤ 500 * i → body i x l = some (.next (l ++ pcsOf m x (endOf u (rs.drop (i + 1)))))) : forL rs body (fun l => l) [] = some (.inl (pcs m u rs)) := by
  rw [forL_goL]
  have key : ∀ (q : List T_api_Release) (i : Nat) (l : List T_history_piece), rs.drop i = q → l.length ≤ 500 * i → goL body (fun l => l) q i l = some (.inl (l ++ pcs m u q)) := by
    intro q
    induction q with
    | nil => intro i l _ _; simp [goL, pcs]
    | cons x q ih =>
      intro i l hd hl
      have hx : rs[i]? = some x := by rw [← Nat.add_zero i, ← List.getElem?_drop, hd]; rfl
      have hq : rs.drop (i + 1) = q := by rw [← List.drop_drop, hd]; rfl
      have hex := hrs x (List.mem_of_getElem? hx)
      simp only [goL, h i x l hx hl, Option.bind_some, hq]
      have h3 : (pcsOf m x (endOf u q)).length ≤ x.Exposures.length := by
        unfold pcsOf; rw [List.length_map]; exact List.length_filter_le _ _
      rw [ih (i + 1) _ hq (by rw [List.length_append]; omega)]
      simp [pcs]
  simpa using key rs 0 [] rfl (by simp)
theorem history_pieces_eq {s : T_api_Story} (h : StoryOk s) : history_pieces s = some (pcs (pubMap s) s.Until s.Releases) := by
  unfold history_pieces
  have hlen := h.lenR
  rw [pubLoop, seqK_inl, forL_pcs (m := pubMap s) (u := s.Until) (rel_len h), seqK_inl]
  intro i x l hx hl
  have hi := getElem?_some_lt hx
  have hex := rel_len h x (List.mem_of_getElem? hx)
  have hend : ∀ {ρ : Type}, (if decide (((i + 1 : Nat) : Int) < (s.Releases.length : Int)) = true then Option.bind (idx s.Releases ((i + 1 : Nat) : Int)) (fun x98 => some (Sum.inl x98.Day)) else some (Sum.inl s.Until)) = some (Sum.inl (β := ρ) (endOf s.Until (s.Releases.drop (i + 1)))) := by
    intro ρ
    rw [idx_nat]
    by_cases hlt : i + 1 < s.Releases.length
    · rw [if_pos (by simp; omega), List.drop_eq_getElem_cons hlt, List.getElem?_eq_getElem hlt]; rfl
    · rw [if_neg (by simp; omega), List.drop_eq_nil_of_le (by omega)]; rfl
  rw [hend, seqK_inl, forL_collect (fun e => decide (fromOf x.Day (pub (pubMap s) e) < toOf (endOf s.Until (s.Releases.drop (i + 1))) (pub (pubMap s) e))) (pieceOf (pubMap s) x.Day (endOf s.Until (s.Releases.drop (i + 1)))) l, seqK_inl]
  · rfl
  · intro j e st hj hst
    have hjl := getElem?_some_lt hj
    have happ : ∀ z : T_history_piece, app 56 st [z] = some (st ++ [z]) := fun z => app_one (n := 251001) (by omega) (by decide) (by decide)
    rw [show (mget kEqS e.Advisory (pubMap s)).getD (T_api_Published.mk str_ 0 0) = pub (pubMap s) e from rfl]
    rw [show (if decide ((pub (pubMap s) e).Ended ≥ 0) = true then some (Sum.inl (if (pub (pubMap s) e).Ended < endOf s.Until (s.Releases.drop (i + 1)) then (pub (pubMap s) e).Ended else endOf s.Until (s.Releases.drop (i + 1)))) else some (Sum.inl (endOf s.Until (s.Releases.drop (i + 1))))) =
      some (Sum.inl (β := Ex (List T_history_piece) (List T_history_piece) (Ex (List T_history_piece) (List T_history_piece) (List T_history_piece))) (toOf (endOf s.Until (s.Releases.drop (i + 1))) (pub (pubMap s) e))) by unfold toOf; by_cases he : (pub (pubMap s) e).Ended ≥ 0 <;> simp [he]]
    rw [seqK_inl, happ, show (if x.Day < (pub (pubMap s) e).Day then (pub (pubMap s) e).Day else x.Day) = fromOf x.Day (pub (pubMap s) e) from rfl]
    by_cases hc : fromOf x.Day (pub (pubMap s) e) < toOf (endOf s.Until (s.Releases.drop (i + 1))) (pub (pubMap s) e)
    · simp only [hc, decide_true, if_true, Option.bind_some]; rfl
    · simp only [hc, decide_false, Bool.false_eq_true, if_false]

/-! ### What is open on a day -/
def isOpenP (m : Pubs) (day : Int) (x : T_api_Exposure) : Bool := decide ((pub m x).Day ≤ day) && (((pub m x).Ended == (-1)) || decide ((pub m x).Ended > day))
def openR (s : T_api_Story) (day : Int) : List T_api_Exposure := match usedR s day with | some r => r.Exposures.filter (isOpenP (pubMap s) day) | none => []
def openA (s : T_api_Story) (day : Int) : List T_api_Exposure × Int := if sFault s ≠ 0 then ([], sFault s) else if dayOk day = false then ([], 9) else (openR s day, 0)
theorem ref11_viewOf_eq (s : T_api_Story) : ref11_viewOf s = some (T_provenderref11_view.mk s (pubMap s)) := by
  unfold ref11_viewOf
  rw [pubLoop, seqK_inl]
theorem ref11_open_eq {s : T_api_Story} (h : StoryOk s) (day : Int) : ref11_view_open (T_provenderref11_view.mk s (pubMap s)) day = some (openR s day) := by
  unfold ref11_view_open openR
  simp only [ref11_used_eq, Option.bind_some]
  cases hu : usedR s day with
  | none => rfl
  | some r =>
    have hlen := rel_len h r (usedR_mem hu)
    simp only
    rw [forL_filter (isOpenP (pubMap s) day), seqK_inl]
    intro i x st hx hst
    have hi := getElem?_some_lt hx
    rw [app_one (n := 501) (by omega) (by decide) (by decide)]
    simp only [ref11_view_isOpen, Option.bind_some]
    rw [show (mget kEqS x.Advisory (pubMap s)).getD (T_api_Published.mk str_ 0 0) = pub (pubMap s) x from rfl]
    unfold isOpenP
    cases (decide ((pub (pubMap s) x).Day ≤ day) && (((pub (pubMap s) x).Ended == (-1)) || decide ((pub (pubMap s) x).Ended > day))) <;> rfl
theorem ref11_OpenOn_eq (s : T_api_Story) (day : Int) : ref11_OpenOn s day = some (openA s day) := by
  simp only [ref11_OpenOn, ref11_Check_eq, ref11_isDay_eq, ref11_viewOf_eq, Option.bind_some, openA]
  by_cases h : sFault s = 0
  · simp only [h, bne_self_eq_false, Bool.false_eq_true, if_false, ne_eq, not_true_eq_false, ref11_open_eq (storyOk h), Option.bind_some]
    cases dayOk day <;> rfl
  · rw [if_pos (by simpa using h), if_pos h]
theorem pub_ended {s : T_api_Story} (h : StoryOk s) (x : T_api_Exposure) : (pub (pubMap s) x).Ended = -1 ∨ 0 ≤ (pub (pubMap s) x).Ended := by
  unfold pub pubMap
  rw [mget_fold (fun (k : T_api_Published) => k.Advisory) (fun k => k)]
  cases hf : s.Known.reverse.find? (fun k => decide (x.Advisory = k.Advisory)) with
  | none => exact .inr (Int.le_refl _)
  | some k =>
    have hk : k ∈ s.Known := by simpa using List.mem_of_find?_eq_some hf
    obtain ⟨i, hi⟩ := List.getElem?_of_mem hk
    have := h.kn i k hi
    unfold kFault at this
    simp only [Option.getD_some]
    split at this
    · cases this
    · split at this
      · cases this
      · split at this
        · cases this
        · rename_i h3
          simp only [Bool.or_eq_true, Bool.not_eq_true', Bool.and_eq_true, bne_iff_ne, ne_eq, decide_eq_true_eq, not_or, not_and, Int.not_lt] at h3
          have hd : 0 ≤ k.Day := by
            have := h3.1
            simp [dayOk] at this; exact this.1
          by_cases he : k.Ended = -1
          · exact .inl he
          · have := (h3.2 he).1; omega
def onDay (day : Int) (p : T_history_piece) : Bool := decide (p.from' ≤ day) && decide (day < p.to')
theorem pcs_on {m : Pubs} (hm : ∀ x, (pub m x).Ended = -1 ∨ 0 ≤ (pub m x).Ended) (day : Int) (r : T_api_Release) (e : Int) :
    ((pcsOf m r e).filter (onDay day)).map (·.x) = if r.Day ≤ day ∧ day < e then r.Exposures.filter (isOpenP m day) else [] := by
  have hp : ∀ x, (decide (fromOf r.Day (pub m x) < toOf e (pub m x)) && onDay day (pieceOf m r.Day e x)) = (decide (r.Day ≤ day ∧ day < e) && isOpenP m day x) := by
    intro x
    have := hm x
    apply Bool.eq_iff_iff.2
    simp only [onDay, pieceOf, isOpenP, fromOf, toOf, Bool.and_eq_true, decide_eq_true_eq, Bool.or_eq_true, beq_iff_eq]
    split <;> split <;> (try split) <;> simp only [decide_eq_true_eq] <;> omega
  unfold pcsOf
  rw [List.filter_map, List.filter_filter, List.map_map]
  rw [show (fun a => (onDay day ∘ pieceOf m r.Day e) a && decide (fromOf r.Day (pub m a) < toOf e (pub m a))) = fun a => (decide (r.Day ≤ day ∧ day < e) && isOpenP m day a) from funext fun a => by rw [Bool.and_comm]; exact hp a]
  rw [show ((fun p : T_history_piece => p.x) ∘ pieceOf m r.Day e) = id from rfl, List.map_id]
  by_cases h : r.Day ≤ day ∧ day < e
  · rw [if_pos h]; congr 1; funext a; simp [h]
  · rw [if_neg h]; simp [h]
theorem lastR_none {day : Int} : ∀ {l : List T_api_Release} {o : Option T_api_Release}, (∀ r ∈ l, ¬ r.Day ≤ day) → lastR day l o = o
  | [], _, _ => rfl
  | x :: l, o, h => by
    rw [lastR, List.foldl_cons, if_neg (h x (List.mem_cons_self ..))]
    exact lastR_none fun r hr => h r (List.mem_cons_of_mem _ hr)
theorem pcs_day {m : Pubs} (hm : ∀ x, (pub m x).Ended = -1 ∨ 0 ≤ (pub m x).Ended) {u day : Int} : ∀ {l : List T_api_Release}, l.Pairwise (fun a b => a.Day < b.Day) → (∀ r ∈ l, r.Day ≤ u) →
    ((pcs m u l).filter (onDay day)).map (·.x) = match (if u ≤ day then none else lastR day l none) with | some r => r.Exposures.filter (isOpenP m day) | none => []
  | [], _, _ => by simp [pcs, lastR]
  | r :: l, hs, hu => by
    obtain ⟨h1, h2⟩ := List.pairwise_cons.1 hs
    have ih := pcs_day hm (u := u) (day := day) h2 fun x hx => hu x (List.mem_cons_of_mem _ hx)
    simp only [pcs, List.filter_append, List.map_append, pcs_on hm, ih]
    by_cases hd : u ≤ day
    · rw [if_pos hd, if_pos hd]
      have : ¬ (r.Day ≤ day ∧ day < endOf u l) := by
        cases l with
        | nil => simp only [endOf]; omega
        | cons y l => have := hu y (by simp); simp only [endOf]; omega
      rw [if_neg this]; simp
    · rw [if_neg hd, if_neg hd]
      rw [show lastR day (r :: l) none = lastR day l (if r.Day ≤ day then some r else none) from rfl]
      by_cases hr : r.Day ≤ day
      · by_cases he : day < endOf u l
        · rw [if_pos ⟨hr, he⟩, if_pos hr]
          have hn : ∀ x ∈ l, ¬ x.Day ≤ day := by
            cases l with
            | nil => intro x hx; cases hx
            | cons y l =>
              simp only [endOf] at he
              intro x hx
              cases hx with
              | head => omega
              | tail _ hx => have := (List.pairwise_cons.1 h2).1 x hx; omega
          rw [lastR_none hn, lastR_none hn]; simp
        · rw [if_neg (fun h => he h.2), if_pos hr]
          cases l with
          | nil => simp only [endOf] at he; omega
          | cons y l =>
            simp only [endOf] at he
            have hy : y.Day ≤ day := by omega
            simp only [lastR, List.foldl_cons, if_pos hy, List.nil_append]
      · rw [if_neg (fun h => hr h.1), if_neg hr]; rfl
theorem history_OpenOn_eq (s : T_api_Story) (day : Int) : history_OpenOn s day = some (openA s day) := by
  simp only [history_OpenOn, history_Check_eq, history_isDay_eq, Option.bind_some, openA]
  by_cases h : sFault s = 0
  · have ok := storyOk h
    simp only [h, bne_self_eq_false, Bool.false_eq_true, if_false, ne_eq, not_true_eq_false, history_pieces_eq ok, Option.bind_some]
    cases dayOk day with
    | false => rfl
    | true =>
      have hl := pcs_len (pubMap s) s.Until s.Releases (rel_len ok)
      have hr := ok.lenR
      simp only [Bool.not_true, Bool.false_eq_true, if_false]
      rw [forL_collect (onDay day) (fun p => p.x) [], seqK_inl]
      · rw [List.nil_append, pcs_day (fun x => pub_ended ok x) (rel_days ok) (fun r hr => by
          obtain ⟨i, hi⟩ := List.getElem?_of_mem hr
          exact (ok.rel i r hi).2.1)]
        rfl
      · intro i p st hp hst
        have hi := getElem?_some_lt hp
        simp at hst
        rw [app_one (n := 250001) (by omega) (by decide) (by decide)]
        unfold onDay
        cases (decide (p.from' ≤ day) && decide (day < p.to')) <;> rfl
  · rw [if_pos (by simpa using h), if_pos h]
theorem sameRelease_self (r : T_api_Release) : law11_sameRelease r r = some true := by
  simp [law11_sameRelease, eqE_self, sEq_self, gAnd]
theorem law_Check (s : T_api_Story) (day : Int) : law11_HistoryCheckMatchesSpec s day = some true := by
  unfold law11_HistoryCheckMatchesSpec
  rcases hu : usedA s day with ⟨r, b, e⟩
  rcases ho : openA s day with ⟨l, f⟩
  simp only [ref11_Used_eq, history_Used_eq, ref11_OpenOn_eq, history_OpenOn_eq, ref11_Check_eq, history_Check_eq, hu, ho, Option.bind_some, sameRelease_self, eqE_self, beq_self_eq_true, gAnd, if_true, Bool.and_true, law11_told]
end Go.Abs
