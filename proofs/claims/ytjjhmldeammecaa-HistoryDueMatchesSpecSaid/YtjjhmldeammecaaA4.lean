/-
  Abs, part 4: steps of worlds: nothing, a new block, another content of a block.
-/
import Derived.Test.YtjjhmldeammecaaA3
import Derived.Laws.CopyRow
import Derived.Laws.Cells
namespace Go.Abs
open Go

theorem Evo.refl {g : G} {w : World} {H : Heap} {k : Nat} : Evo g w H k g w H k :=
  ⟨Nat.le_refl _, rfl, rfl, rfl, Nat.le_refl _, fun _ _ h => h, fun _ _ h => .inl h, fun _ _ _ => rfl, fun _ _ _ => rfl, fun _ _ h => h, fun n o o' _ h h' => by rw [h] at h'; cases h'; exact Compat.refl _ _, fun n b h h' => .inl ⟨n, h, h'⟩⟩

theorem Evo.keeps {g g' : G} {w w' : World} {H H' : Heap} {k k' : Nat} (e : Evo g w H k g' w' H' k') : Keeps g H k g' H' k' :=
  ⟨e.kle, e.fz, fun n o' hn ho => by
    cases h : H.get n with
    | none => rw [e.dom n hn h] at ho; cases ho
    | some o => exact ⟨o, rfl, e.compat n o o' hn h ho⟩⟩

theorem Evo.trans {g g' g'' : G} {w w' w'' : World} {H H' H'' : Heap} {k k' k'' : Nat} (e : Evo g w H k g' w' H' k') (e' : Evo g' w' H' k' g'' w'' H'' k'') :
    Evo g w H k g'' w'' H'' k'' where
  kle := Nat.le_trans e.kle e'.kle
  os := e'.os.trans e.os
  tape := e'.tape.trans e.tape
  output := e'.output.trans e.output
  size := Nat.le_trans e.size e'.size
  fz := fun b o h => e'.fz _ _ (e.fz _ _ h)
  fzNew := fun b o h => by
    rcases e'.fzNew b o h with h | ⟨n, h1, h2⟩ | h
    · exact e.fzNew b o h
    · rcases e.blks n b h1 h2 with h | h
      · exact .inr (.inl h)
      · exact .inr (.inr h)
    · exact .inr (.inr (Nat.le_trans e.size h))
  frame := fun b hb hn => by
    rw [e'.frame b (Nat.lt_of_lt_of_le hb e.size), e.frame b hb hn]
    intro n h1 h2
    rcases e.blks n b h1 h2 with ⟨m, h3, h4⟩ | h
    · exact hn m h3 h4
    · omega
  names := fun n hn h => by rw [e'.names n (Nat.lt_of_lt_of_le hn e.kle) (e.dom n hn h), e.names n hn h]
  dom := fun n hn h => e'.dom n (Nat.lt_of_lt_of_le hn e.kle) (e.dom n hn h)
  compat := fun n o o'' hn h h'' => by
    cases h' : H'.get n with
    | none => rw [e'.dom n (Nat.lt_of_lt_of_le hn e.kle) h'] at h''; cases h''
    | some o' => exact (e.compat n o o' hn h h').trans (e'.compat n o' o'' (Nat.lt_of_lt_of_le hn e.kle) h' h'')
  blks := fun n b h1 h2 => by
    rcases e'.blks n b h1 h2 with ⟨m, h3, h4⟩ | h
    · exact e.blks m b h3 h4
    · exact .inr (Nat.le_trans e.size h)

theorem SimH.lt {g : G} {w : World} {H : Heap} {k : Nat} (hs : SimH g w H k) {n : Nat} (h : H.get n ≠ none) : n < k := by
  cases h' : H.get n with
  | none => exact absurd h' h
  | some o => exact (hs.obj n o h').1

/-- One block, new or owned, has a new content; all else stays. -/
theorem SimH.gen {g g' : G} {w w' : World} {H H' : Heap} {k k' : Nat} (hs : SimH g w H k) (n : Nat) (o' : AObj) (hk : k ≤ k') (hfz : g'.fz = g.fz) (hρ : ∀ m, m ≠ n → g'.ρ m = g.ρ m)
    (hH : ∀ m, m ≠ n → H'.get m = H.get m) (hHn : H'.get n = some o') (hn : n < k') (hc : ∀ o, H.get n = some o → Compat (g.ρ n) (g'.ρ n) o o') (hnew : H.get n = none → k ≤ n)
    (hos : w'.os = w.os) (htape : w'.tape = w.tape) (hout : w'.output = w.output) (hsize : w.heap.size ≤ w'.heap.size)
    (hw : ∀ b, b < w.heap.size → (H.get n ≠ none → (g.ρ n).blk ≠ some b) → w'.heap[b]? = w.heap[b]?)
    (hblk : ∀ b, (g'.ρ n).blk = some b → ((H.get n ≠ none ∧ (g.ρ n).blk = some b) ∨ w.heap.size ≤ b) ∧ b < w'.heap.size)
    (hobj : Keeps g H k g' H' k' → ORep g' H' k' n w' o') : SimH g' w' H' k' ∧ Evo g w H k g' w' H' k' := by
  have hfzlt : ∀ b o, g.fz b = some o → b < w.heap.size := fun b o h => by
    have := hs.fz b o h
    rcases Nat.lt_or_ge b w.heap.size with h' | h'
    · exact h'
    · rw [Array.getElem?_eq_none h'] at this; cases this
  have he : Evo g w H k g' w' H' k' :=
    { kle := hk, os := hos, tape := htape, output := hout, size := hsize
      fz := fun b o h => by rw [hfz]; exact h
      fzNew := fun b o h => .inl (by rw [hfz] at h; exact h)
      frame := fun b hb h => hw b hb (fun hh => h n hh)
      names := fun m hm h => by
        apply hρ
        rintro rfl
        exact absurd (hnew h) (by omega)
      dom := fun m hm h => by
        rw [hH m]
        · exact h
        · rintro rfl
          exact absurd (hnew h) (by omega)
      compat := fun m o o2 hm h h' => by
        by_cases e : m = n
        · subst e
          rw [hHn] at h'; cases h'
          exact hc o h
        · rw [hH m e, h] at h'; cases h'
          rw [hρ m e]
          exact Compat.refl _ _
      blks := fun m b h h' => by
        by_cases e : m = n
        · subst e
          rcases (hblk b h').1 with h3 | h3
          · exact .inl ⟨m, h3.1, h3.2⟩
          · exact .inr h3
        · rw [hH m e] at h; rw [hρ m e] at h'
          exact .inl ⟨m, h, h'⟩ }
  refine ⟨⟨?_, ?_, ?_⟩, he⟩
  · intro m o hm
    by_cases e : m = n
    · subst e
      rw [hHn] at hm; cases hm
      refine ⟨hn, hobj he.keeps, fun b hb => ⟨?_, (hblk b hb).2⟩⟩
      rw [hfz]
      rcases (hblk b hb).1 with ⟨h3, h4⟩ | h3
      · cases h5 : H.get m with
        | none => exact absurd h5 h3
        | some o => exact ((hs.obj m o h5).2.2 b h4).1
      · cases h5 : g.fz b with
        | none => rfl
        | some o => exact absurd (hfzlt b o h5) (by omega)
    · rw [hH m e] at hm
      obtain ⟨h1, h2, h3⟩ := hs.obj m o hm
      refine ⟨by omega, ORep.keeps he.keeps (hρ m e) (fun b hb => ?_) h2, fun b hb => ?_⟩
      · apply hw b (h3 b hb).2
        intro hh hb'
        exact e (hs.inj m n b (by rw [hm]; simp) hh hb hb')
      · rw [hρ m e] at hb
        rw [hfz]
        exact ⟨(h3 b hb).1, Nat.lt_of_lt_of_le (h3 b hb).2 hsize⟩
  · intro m m' b h1 h2 h3 h4
    have key : ∀ m, m ≠ n → H'.get m ≠ none → (g'.ρ m).blk = some b → (g'.ρ n).blk = some b → False := by
      intro m e hm hb hb'
      rw [hH m e] at hm
      rw [hρ m e] at hb
      rcases (hblk b hb').1 with ⟨h5, h6⟩ | h5
      · exact e (hs.inj m n b hm h5 hb h6)
      · cases h6 : H.get m with
        | none => exact hm h6
        | some o => have := ((hs.obj m o h6).2.2 b hb).2; omega
    by_cases e : m = n
    · subst e
      by_cases e' : m' = m
      · exact e'.symm
      · exact (key m' e' h2 h4 h3).elim
    · by_cases e' : m' = n
      · subst e'
        exact (key m e h1 h3 h4).elim
      · rw [hH m e] at h1; rw [hH m' e'] at h2; rw [hρ m e] at h3; rw [hρ m' e'] at h4
        exact hs.inj m m' b h1 h2 h3 h4
  · intro b o hb
    rw [hfz] at hb
    rw [← hs.fz b o hb]
    apply hw b (hfzlt b o hb)
    intro hh hb'
    cases h5 : H.get n with
    | none => exact hh h5
    | some o => rw [((hs.obj n o h5).2.2 b hb').1] at hb; cases hb

/-- A new block. -/
theorem SimH.new {g : G} {w : World} {H : Heap} {k : Nat} (hs : SimH g w H k) (ob : Obj) (o' : AObj) (l : Loc) (hl : l.blk = some w.heap.size ∨ l.blk = none)
    (hobj : ∀ g', g' = { g with ρ := fun m => if m = k then l else g.ρ m } → Keeps g H k g' ((k, o') :: H) (k + 1) → ORep g' ((k, o') :: H) (k + 1) k { w with heap := w.heap.push ob } o') :
    ∃ g', g'.ρ k = l ∧ SimH g' { w with heap := w.heap.push ob } ((k, o') :: H) (k + 1) ∧ Evo g w H k g' { w with heap := w.heap.push ob } ((k, o') :: H) (k + 1) := by
  have hk : H.get k = none := by
    cases h : H.get k with
    | none => rfl
    | some o => have := (hs.obj k o h).1; omega
  refine ⟨{ g with ρ := fun m => if m = k then l else g.ρ m }, by simp, ?_⟩
  refine SimH.gen hs k o' (by omega) rfl (fun m e => by simp [e]) (fun m e => by simp [Heap.get, Ne.symm e]) (by simp [Heap.get]) (by omega) (fun o h => by rw [hk] at h; cases h) (fun _ => Nat.le_refl _) rfl rfl rfl (by simp)
    (fun b hb _ => by simp [Array.getElem?_push, Nat.ne_of_lt hb]) (fun b hb => by
      simp only [if_true] at hb
      rcases hl with hl | hl
      · rw [hl] at hb; cases hb; exact ⟨.inr (Nat.le_refl _), by simp⟩
      · rw [hl] at hb; cases hb) (hobj _ rfl)

/-- Another content of an owned block, in its place. -/
theorem SimH.put {g : G} {w w' : World} {H : Heap} {k : Nat} (hs : SimH g w H k) {n b : Nat} {o o' : AObj} (hn : H.get n = some o) (hb : (g.ρ n).blk = some b) (hc : Compat (g.ρ n) (g.ρ n) o o')
    (hos : w'.os = w.os) (htape : w'.tape = w.tape) (hout : w'.output = w.output) (hsize : w'.heap.size = w.heap.size) (hw : ∀ b', b' ≠ b → w'.heap[b']? = w.heap[b']?)
    (hobj : Keeps g H k g (H.set n o') k → ORep g (H.set n o') k n w' o') : SimH g w' (H.set n o') k ∧ Evo g w H k g w' (H.set n o') k := by
  have hlt := (hs.obj n o hn).2.2 b hb
  refine SimH.gen hs n o' (Nat.le_refl _) rfl (fun _ _ => rfl) (fun m e => by simp [Heap.get_set, Ne.symm e]) (by simp [Heap.get_set, hn]) (hs.obj n o hn).1 (fun o2 h => by rw [hn] at h; cases h; exact hc) (fun h => by rw [hn] at h; cases h)
    hos htape hout (by omega) (fun b' _ h => hw b' (fun e => by subst e; exact h (by rw [hn]; simp) hb)) (fun b' h => by
      rw [hb] at h; cases h
      exact ⟨.inl ⟨by rw [hn]; simp, hb⟩, by rw [hsize]; exact hlt.2⟩) hobj

/-- What an operation came to. -/
def OpOK (g : G) (w : World) (H : Heap) (k : Nat) (r : Result Next) (v : AV) (H' : Heap) (k' : Nat) : Prop :=
  ∃ g' w' x, (r = .ok (.value x) w' ∨ (r = .ok .skip w' ∧ x = undef)) ∧ ARep g' H' k' v x ∧ SimH g' w' H' k' ∧ Evo g w H k g' w' H' k'

theorem OpOK.same {g : G} {w : World} {H : Heap} {k : Nat} {r : Result Next} {v : AV} {x : Value} (hs : SimH g w H k) (hr : r = .ok (.value x) w) (hv : ARep g H k v x) : OpOK g w H k r v H k :=
  ⟨g, w, x, .inl hr, hv, hs, Evo.refl⟩
end Go.Abs
