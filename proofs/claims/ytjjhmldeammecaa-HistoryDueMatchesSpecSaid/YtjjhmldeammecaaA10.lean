/-
  Abs, part 10: append, make, maps, lengths.
-/
import Derived.Test.YtjjhmldeammecaaA9
namespace Go.Abs
open Go

variable {P : Program}

theorem RowsAt.flat {cs : Array Value} : ∀ {off wd : Nat} {vals : List (List Value)}, RowsAt cs off wd vals → ∀ j x, vals.flatten[j]? = some x → cs[off + j]? = some x
  | off, wd, [], _, j, x, h => by simp at h
  | off, wd, r :: vals, hr, j, x, h => by
    obtain ⟨h1, h2⟩ := hr 0 r rfl
    rw [List.flatten_cons] at h
    by_cases hj : j < r.length
    · rw [List.getElem?_append_left hj] at h
      simpa using h2 j x h
    · rw [List.getElem?_append_right (by omega)] at h
      have := RowsAt.flat (cs := cs) (off := off + wd) (wd := wd) (vals := vals) (fun i r' h' => by
        have := hr (i + 1) r' (by simpa using h')
        simpa [Nat.add_mul, Nat.add_assoc, Nat.add_comm, Nat.add_left_comm] using this) _ _ h
      rw [show off + wd + (j - r.length) = off + j by omega] at this
      exact this

theorem RowsAt.length {cs : Array Value} : ∀ {off wd : Nat} {vals : List (List Value)}, RowsAt cs off wd vals → vals.flatten.length = vals.length * wd
  | off, wd, [], _ => by simp
  | off, wd, r :: vals, hr => by
    have h1 := (hr 0 r rfl).1
    have := RowsAt.length (cs := cs) (off := off + wd) (wd := wd) (vals := vals) (fun i r' h' => by
        have := hr (i + 1) r' (by simpa using h')
        simpa [Nat.add_mul, Nat.add_assoc, Nat.add_comm, Nat.add_left_comm] using this)
    simp [this, h1, Nat.add_mul, Nat.add_comm]

theorem len_flatten {wd : Nat} : ∀ {vals : List (List Value)}, (∀ r ∈ vals, r.length = wd) → vals.flatten.length = vals.length * wd
  | [], _ => by simp
  | r :: vals, h => by simp [len_flatten (vals := vals) (fun r' h' => h r' (by simp [h'])), h r (by simp), Nat.add_mul, Nat.add_comm]

/-- Rows laid flat into an array lie there as rows. -/
theorem RowsAt.ofFlat {cs : Array Value} : ∀ {off wd : Nat} {vals : List (List Value)}, (∀ r ∈ vals, r.length = wd) → (∀ j x, vals.flatten[j]? = some x → cs[off + j]? = some x) → RowsAt cs off wd vals
  | off, wd, [], _, _ => fun i r h => by simp at h
  | off, wd, r :: vals, hw, hf => by
    have h0 := hw r (by simp)
    have ih := RowsAt.ofFlat (cs := cs) (off := off + wd) (wd := wd) (vals := vals) (fun r' h' => hw r' (by simp [h'])) (fun j x h => by
      have := hf (wd + j) x (by rw [List.flatten_cons, List.getElem?_append_right (by omega)]; rw [show wd + j - r.length = j by omega]; exact h)
      rwa [Nat.add_assoc])
    intro i r' h
    cases i with
    | zero =>
      simp at h; subst h
      exact ⟨h0, fun j x hj => by
        have hlt : j < r.length := by
          rcases Nat.lt_or_ge j r.length with h | h
          · exact h
          · rw [List.getElem?_eq_none h] at hj; cases hj
        have := hf j x (by rw [List.flatten_cons, List.getElem?_append_left hlt]; exact hj)
        simpa using this⟩
    | succ i =>
      obtain ⟨a, b⟩ := ih i r' (by simpa using h)
      exact ⟨a, fun j x hj => by
        have := b j x hj
        rw [show off + (i + 1) * wd + j = off + wd + i * wd + j by rw [Nat.add_mul]; omega]
        exact this⟩

theorem RowsAt.drop {cs : Array Value} {off wd : Nat} {vals : List (List Value)} (h : RowsAt cs off wd vals) (n : Nat) : RowsAt cs (off + n * wd) wd (vals.drop n) := by
  intro i r hr
  rw [List.getElem?_drop] at hr
  obtain ⟨a, b⟩ := h _ _ hr
  exact ⟨a, fun j x hj => by
    have := b j x hj
    rw [Nat.add_mul] at this
    rw [show off + n * wd + i * wd + j = off + (n * wd + i * wd) + j by omega]
    exact this⟩
theorem RowsAt.widths {cs : Array Value} {off wd : Nat} {vals : List (List Value)} (h : RowsAt cs off wd vals) : ∀ r ∈ vals, r.length = wd := by
  intro r hr
  obtain ⟨i, hi⟩ := List.getElem?_of_mem hr
  exact (h i r hi).1
theorem widths_of {fz : Nat → Option Obj} {wd : Nat} : ∀ {rows : List (List PV)} {vals : List (List Value)}, PRepLL fz rows vals → (∀ r ∈ rows, r.length = wd) → ∀ r ∈ vals, r.length = wd
  | [], _, h, _, r, hr => by simp only [PRepLL] at h; subst h; cases hr
  | x :: xs, _, h, hw, r, hr => by
    simp only [PRepLL] at h
    obtain ⟨v, s, rfl, h1, h2⟩ := h
    cases hr with
    | head => rw [h1.length]; exact hw x (by simp)
    | tail _ hr => exact widths_of h2 (fun r' h' => hw r' (by simp [h'])) r hr
theorem singles_flat {fz : Nat → Option Obj} : ∀ {rows : List (List PV)} {vals : List (List Value)}, PRepLL fz rows vals → (∀ r ∈ rows, r.all PV.single = true) → ∀ v ∈ vals.flatten, v.oneCell' = true
  | [], _, h, _, v, hv => by simp only [PRepLL] at h; subst h; cases hv
  | x :: xs, _, h, hw, v, hv => by
    simp only [PRepLL] at h
    obtain ⟨a, s, rfl, h1, h2⟩ := h
    rw [List.flatten_cons, List.mem_append] at hv
    rcases hv with hv | hv
    · exact singles_rep h1 (hw x (by simp)) v hv
    · exact singles_flat h2 (fun r' h' => hw r' (by simp [h'])) v hv

/-- The cells of a slice that is read. -/
theorem rowsOf_ok {g : G} {w : World} {H : Heap} {k : Nat} (hs : SimH g w H k) {x : AV} {v : Value} {rows : List (List PV)} (h : ARep g H k x v) (hr : rowsOf H x = some rows) {wd : Nat} (hw : ∀ r ∈ rows, r.length = wd) :
    ∃ vals ba cap, PRepLL g.fz rows vals ∧ (∀ r ∈ vals, r.length = wd) ∧ v = .slice ba rows.length cap ∧ rows.length ≤ top ∧
      (rows = [] ∨ ∃ b off, ba = some ⟨b, off, none⟩ ∧ ∀ j u, vals.flatten[j]? = some u → w.cell? ((⟨b, off, none⟩ : Addr).add j) = some u) := by
  unfold rowsOf at hr
  split at hr
  · cases hr
    simp only [ARep, PRep] at h
    obtain ⟨hl, ⟨rfl, ba, rfl⟩ | ⟨b, off, cap, wd', cs, t, fr, vals, rfl, hc, hf, hv, hat⟩⟩ := h
    · exact ⟨[], ba, 0, by simp [PRepLL], by simp, rfl, by simp [top], .inl rfl⟩
    · refine ⟨vals, _, cap, hv, widths_of hv hw, rfl, hl, .inr ⟨b, off, rfl, fun j u hj => ?_⟩⟩
      rw [add_none]
      simp [World.cell?, hs.fz b _ hf, hat.flat j u hj]
  · cases hr
    have := rep_c h
    subst this
    exact ⟨[], none, 0, by simp [PRepLL], by simp, rfl, by simp [top], .inl rfl⟩
  · rename_i n off len
    split at hr
    · rename_i rows' hrows
      split at hr
      · rename_i hup
        cases hr
        simp only [ARep] at h
        obtain ⟨hle, hos⟩ := h.2.2 rows' hrows
        obtain ⟨ad, cap, rfl, hlc, hcap⟩ := hos hup
        obtain ⟨_, ho', _⟩ := hs.obj n _ hrows
        simp only [ORep] at ho'
        obtain ⟨o1, o2, o3, o4, o6, o5⟩ := ho'
        have hlen : (rows'.drop off).length = len := by simp; omega
        rcases hcap with rfl | ⟨b, hb, hdrop, hocap, rfl⟩
        · have : rows'.drop off = [] := List.eq_nil_of_length_eq_zero (by omega)
          rw [this]
          exact ⟨[], ad, 0, by simp [PRepLL], by simp, by simp [← hlen, this], by simp [top], .inl rfl⟩
        · obtain ⟨cs, t, vals, hw', hcap', hvals, hat, hsz⟩ := o5 b hb
          have hv2 := hvals.drop (off - (g.ρ n).drop)
          rw [List.drop_drop, show (g.ρ n).drop + (off - (g.ρ n).drop) = off by omega] at hv2
          refine ⟨_, _, cap, hv2, widths_of hv2 hw, by rw [hlen], by simp only [List.length_drop]; unfold lim at o1; unfold top; omega, .inr ⟨b, _, rfl, fun j u hj => ?_⟩⟩
          rw [add_none]
          have := (hat.drop (off - (g.ρ n).drop)).flat j u hj
          simp [World.cell?, hw', this]
      · cases hr
    · cases hr
  · cases hr

theorem run_first {w : World} {rows : List (List PV)} {vals : List (List Value)} {ba : Option Addr} {cap wd : Nat} (hl : vals.length = rows.length) (hw : ∀ r ∈ vals, r.length = wd)
    (h : rows = [] ∨ ∃ b off, ba = some ⟨b, off, none⟩ ∧ ∀ j u, vals.flatten[j]? = some u → w.cell? ((⟨b, off, none⟩ : Addr).add j) = some u) (len : Nat) :
    (Builtin.firstCells wd rows.length (.slice ba len cap)).run P w = .ok vals.flatten.toArray w := by
  rcases h with rfl | ⟨b, off, rfl, h⟩
  · have : vals = [] := List.eq_nil_of_length_eq_zero (by simpa using hl)
    subst this
    cases ba <;> simp [Builtin.firstCells, loadCells, loadCellsFrom]
  · exact run_firstCells_some (P := P) w wd rows.length _ len cap vals.flatten (by rw [len_flatten hw, hl]) h

theorem prepLL_len {fz : Nat → Option Obj} {rows : List (List PV)} {vals : List (List Value)} (h : PRepLL fz rows vals) : vals.length = rows.length := h.length

theorem run_app {w : World} {e t u ty : TypeId} {i : TypeInfo} {z : Value} {wd bytes : Nat} (ht : P.underlying t = some (.slice e)) {e' : TypeId} (hu : P.underlying u = some (.slice e')) (hi : P.info? e = some i) (hsz : i.size = wd) (hby : i.bytes = bytes) (hz : i.zero = some z)
    {olds news : List (List Value)} {ba : Option Addr} {bb : Option Addr} {sLen sCap m c : Nat}
    (hold : ∀ w', (∀ a, w'.cell? a = w.cell? a) → (Builtin.firstCells wd sLen (.slice ba sLen sCap)).run P w' = .ok olds.flatten.toArray w')
    (hnew : ∀ w', (∀ a, w'.cell? a = w.cell? a) → (Builtin.firstCells wd m (.slice bb m c)).run P w' = .ok news.flatten.toArray w')
    (hneed : sCap < sLen + m) (hb : (sLen + m) * bytes ≤ lim) (hl : sLen + m ≤ 2 * lim) :
    (Builtin.append_ #[t, u] ty #[.slice ba sLen sCap, .slice bb m c]).run P w =
      .ok (.slice (some ⟨w.heap.size, 0, none⟩) (sLen + m) (grownCap w (sLen + m) sCap e))
        (w.drew.alloc (.cells (olds.flatten.toArray ++ news.flatten.toArray ++ Builtin.zeroCells z.cells (grownCap w (sLen + m) sCap e - (sLen + m))) e)) := by
  subst hsz hby
  have hn : ¬ (sLen + m ≤ sCap) := by omega
  have h63' : ¬ (9223372036854775807 < ((sLen : Int) + (m : Int))) := by unfold lim at hl; omega
  have hfit := growslice_fits (bytes := i.bytes) hneed (by unfold lim at hb; exact hb)
  have h48' : ¬ (281474976710656 < Builtin.nextslicecap (sLen + m) sCap * i.bytes) := by omega
  have h1 := hold w.drew (fun _ => rfl)
  have h2 := hnew w.drew (fun _ => rfl)
  simp [Builtin.append_, run_underlying ht, run_underlying hu, sizeOf, typeInfo, zeroValue, hi, hz, Builtin.lenOf, hn, h63', h48', Question.forced, h1, h2, newRow, grownCap]
  congr 2
  apply Array.ext'
  simp [List.append_assoc]

theorem grown_facts (w : World) (need old : Nat) (e : TypeId) : need ≤ grownCap w need old e := grownCap_ge w need old e

/-- Old rows, new rows and room, in a new block. -/
theorem RowsAt.grown {olds news : List (List Value)} {z : Array Value} {wd n : Nat} (ho : ∀ r ∈ olds, r.length = wd) (hn : ∀ r ∈ news, r.length = wd) :
    RowsAt (olds.flatten.toArray ++ news.flatten.toArray ++ Builtin.zeroCells z n) 0 wd (olds ++ news) := by
  refine RowsAt.ofFlat (fun r hr => ?_) (fun j x hj => ?_)
  · rcases List.mem_append.1 hr with h | h
    · exact ho r h
    · exact hn r h
  · rw [List.flatten_append] at hj
    have hlt : j < (olds.flatten ++ news.flatten).length := by
      rcases Nat.lt_or_ge j (olds.flatten ++ news.flatten).length with h | h
      · exact h
      · rw [List.getElem?_eq_none h] at hj; cases hj
    rw [Nat.zero_add, Array.getElem?_append_left (by simpa using hlt)]
    simpa using hj

theorem da_size (w : World) (ob : Obj) : (w.drew.alloc ob).heap.size = w.heap.size + 1 := by
  show (w.heap.push ob).size = _
  simp
theorem da_new (w : World) (ob : Obj) : (w.drew.alloc ob).heap[w.heap.size]? = some ob := by
  show (w.heap.push ob)[w.heap.size]? = _
  simp
theorem da_old (w : World) (ob : Obj) {b : Nat} (h : b < w.heap.size) : (w.drew.alloc ob).heap[b]? = w.heap[b]? := by
  show (w.heap.push ob)[b]? = _
  simp [Array.getElem?_push, Nat.ne_of_lt h]

theorem s_append (args : Array Operand) (argTypes : Array TypeId) : Sound P (.call { callee := .builtin .append, args := args, argTypes := argTypes }) := by
  intro oo ho g w H k env a op v H' k' hs he hl hv
  simp only [lowOp, lowBuiltin] at hl
  split at hl
  · rename_i _ _ s x t u hargs hty hty1
    split at hl
    · rename_i e e' ht hu
      simp only [Option.bind_eq_bind, Option.bind_eq_some_iff, Option.map_eq_some_iff, Option.pure_def, Option.some.injEq] at hl
      obtain ⟨wd, hwd, bytes, ⟨i, hi, rfl⟩, zs, hz, s', h1, x', h2, rfl⟩ := hl
      obtain ⟨i', z, hi', hz', hr⟩ := zeroT_rep (fz := g.fz) hz
      rw [hi] at hi'; cases hi'
      have hisz : i.size = wd := by simpa [sizeT, hi] using hwd
      have r1 := lowX_rep he h1
      have r2 := lowX_rep he h2
      have hargs' : args = #[s, x] := by apply Array.ext'; simpa using hargs
      have hty' : ∃ rest, argTypes = (t :: u :: rest).toArray := by
        rcases argTypes with ⟨l⟩
        cases l with
        | nil => simp at hty
        | cons p l => cases l with
          | nil => simp at hty1
          | cons q l => simp at hty hty1; subst hty hty1; exact ⟨l, rfl⟩
      obtain ⟨rest, hty'⟩ := hty'
      have hexec : ∀ vs vx, a.eval s = vs → a.eval x = vx → (execOp a.eval oo).run P w = ((Builtin.append_ #[t, u] oo.type #[vs, vx]).run P w).andThen fun v w' => .ok (.value v) w' := by
        intro vs vx e1 e2
        subst e1 e2 hargs'
        simp only [execOp, ho, resolve, Sem.run_bind, Sem.run_pure, Result.andThen_ok, invoke, builtin, hty']
        simp [Builtin.append_]
      simp only [aop] at hv
      split at hv
      · rename_i new hnew
        split at hv
        · rename_i hc
          obtain ⟨hzl, hc⟩ := hc
          have hzs : z.cells.size = wd := by have := hr.length; simp only [Array.length_toList] at this; omega
          obtain ⟨nv, bb, c, n1, n2, hx, n4, n5⟩ := rowsOf_ok hs r2 hnew (fun r hr => (hc r hr).1)
          have n6 := singles_flat n1 (fun r hr => (hc r hr).2)
          have hfirst : ∀ w', (∀ a, w'.cell? a = w.cell? a) → (Builtin.firstCells wd new.length (.slice bb new.length c)).run P w' = .ok nv.flatten.toArray w' := by
            intro w' hw'
            refine run_first n1.length n2 ?_ _
            rcases n5 with h | ⟨b, off, h3, h4⟩
            · exact .inl h
            · exact .inr ⟨b, off, h3, fun j u hj => by rw [hw']; exact h4 j u hj⟩
          split at hv
          · -- to nil
            rename_i hm
            rw [hm] at r1
            have hsv := rep_c r1
            split at hv
            · rename_i hb
              simp only [Option.some.injEq, Prod.mk.injEq] at hv
              obtain ⟨rfl, rfl, rfl⟩ := hv
              by_cases h0 : new.length = 0
              · have hnil : new = [] := List.eq_nil_of_length_eq_zero h0
                subst hnil
                have hnv : nv = [] := List.eq_nil_of_length_eq_zero (by simpa using n1.length)
                subst hnv
                have hrun : (execOp a.eval oo).run P w = .ok (.value (.slice none 0 0)) w := by
                  rw [hexec _ _ hsv hx]
                  have := hfirst w (fun _ => rfl)
                  simp [Builtin.append_, run_underlying ht, run_underlying hu, sizeOf, typeInfo, hi, Builtin.lenOf]
                  simp at this
                  simp [hisz, this]
                refine ⟨{ g with ρ := fun m => if m = k then ⟨none, 0, 0, 0, wd⟩ else g.ρ m }, w, _, .inl hrun, ?_, ?_⟩
                · simp only [ARep]
                  refine ⟨by simp, rfl, fun rows' h => ?_⟩
                  simp [Heap.get] at h; subst h
                  exact ⟨by simp, fun _ => ⟨none, 0, rfl, by simp, .inl rfl⟩⟩
                · refine SimH.gen hs k (.slice []) (by omega) rfl (fun m e => by simp [e]) (fun m e => by simp [Heap.get, Ne.symm e]) (by simp [Heap.get]) (by omega) (fun o h => ?_) (fun _ => Nat.le_refl _) rfl rfl rfl (Nat.le_refl _)
                    (fun b hb _ => rfl) (fun b hb => by simp at hb) (fun hk => by simp [ORep, lim])
                  have := (hs.obj k o h).1; omega
              · have hrun := run_app (P := P) (w := w) (ty := oo.type) (olds := []) (news := nv) (ba := none) (bb := bb) (sLen := 0) (sCap := 0) (m := new.length) (c := c) ht hu hi hisz rfl hz'
                  (fun w' _ => by simp [Builtin.firstCells]) hfirst (by omega) (by simpa using hb.1) (by omega)
                simp only [Nat.zero_add] at hrun
                have hrun' := hexec _ _ hsv hx
                rw [hrun] at hrun'
                have hge := grown_facts w new.length 0 e
                have hs' : SimH g w.drew H k := ⟨fun n o h => by
                    obtain ⟨a1, a2, a3⟩ := hs.obj n o h
                    exact ⟨a1, ORep.keeps (Keeps.refl g H k) rfl (fun _ _ => rfl) a2, a3⟩, hs.inj, hs.fz⟩
                have hrun'' : (execOp a.eval oo).run P w = .ok (.value (.slice (some ⟨w.drew.heap.size, 0, none⟩) new.length (grownCap w new.length 0 e))) { w.drew with heap := w.drew.heap.push (.cells (([] : List (List Value)).flatten.toArray ++ nv.flatten.toArray ++ Builtin.zeroCells z.cells (grownCap w new.length 0 e - new.length)) e) } := hrun'
                obtain ⟨g', w', y, b1, b2, b3, b4⟩ := OpOK.new hs' (.cells (([] : List (List Value)).flatten.toArray ++ nv.flatten.toArray ++ Builtin.zeroCells z.cells (grownCap w new.length 0 e - new.length)) e) (.slice new) (newLoc new w.heap.size (grownCap w new.length 0 e) wd) (newLoc_blk _ _ _ _) (.os k 0 new.length) _ hrun''
                  (fun g' h1 h2 hk => rowsRep_new (cs := ([] : List (List Value)).flatten.toArray ++ nv.flatten.toArray ++ Builtin.zeroCells z.cells (grownCap w new.length 0 e - new.length)) (vals := nv) h1 hb.2 (fun r hr => (hc r hr).1) hge (PRepLL.mono hk.fz _ _ n1) (by simpa using RowsAt.grown (olds := []) (news := nv) (z := z.cells) (n := grownCap w new.length 0 e - new.length) (by simp) n2)
                    (by simp only [Array.size_append, List.size_toArray, size_zeroCells, hzs, len_flatten n2, n1.length, List.flatten_nil, List.length_nil, Nat.zero_add, ← Nat.add_mul]; exact Nat.mul_le_mul_right _ (by omega)))
                  (fun g' h1 => osRep_new (by omega) h1 (by simp [Heap.get]) rfl hge (fun h => absurd (by rw [h]; rfl) h0))
                exact ⟨g', w', y, b1, b2, b3, { b4 with }⟩
            · cases hv
          · -- to a slice of our own
            rename_i n off len hm
            split at hv
            · rename_i rows hrows
              split at hv
              · rename_i hcc
                obtain ⟨hup, hwid, hbound, hlim⟩ := hcc
                simp only [Option.some.injEq, Prod.mk.injEq] at hv
                obtain ⟨rfl, rfl, rfl⟩ := hv
                rw [hm] at r1
                have hrs : rowsOf H (.os n off len) = some (rows.drop off) := by simp [rowsOf, hrows, hup]
                obtain ⟨ov, oba, oc, p1, p2, p3, p4, p5⟩ := rowsOf_ok hs r1 hrs (fun r hr => hwid r (List.mem_of_mem_drop hr))
                have hlen : (rows.drop off).length = len := by simp; omega
                simp only [ARep] at r1
                obtain ⟨hnk, hone, hos⟩ := r1
                obtain ⟨hle, hos⟩ := hos rows hrows
                obtain ⟨ad, cap, hsv, hlc, hcap⟩ := hos hup
                obtain ⟨_, ho', hblk'⟩ := hs.obj n _ hrows
                simp only [ORep] at ho'
                obtain ⟨o1, o2, o3, o4, o6, o5⟩ := ho'
                have hHn : (H.set n (.slice (rows ++ new))).get n = some (.slice (rows ++ new)) := by simp [Heap.get_set, hrows]
                have hHm : ∀ m, m ≠ n → (H.set n (.slice (rows ++ new))).get m = H.get m := fun m e => by simp [Heap.get_set, Ne.symm e]
                have hwid' : ∀ r ∈ rows ++ new, r.length = wd := fun r hr => by
                  rcases List.mem_append.1 hr with h | h
                  · exact hwid r h
                  · exact (hc r h).1
                by_cases hroom : len + new.length ≤ cap
                · -- in its place
                  rcases hcap with hcap | ⟨b, hb, hdrop, hocap, rfl⟩
                  · -- nothing to append to nothing
                    have hn0 : new.length = 0 := by omega
                    have hnil : new = [] := List.eq_nil_of_length_eq_zero hn0
                    subst hnil
                    have hnv : nv = [] := List.eq_nil_of_length_eq_zero (by simpa using n1.length)
                    subst hnv
                    have hrun : (execOp a.eval oo).run P w = .ok (.value (.slice ad len cap)) w := by
                      rw [hexec _ _ hsv hx]
                      have := hfirst w (fun _ => rfl)
                      simp [Builtin.append_, run_underlying ht, run_underlying hu, sizeOf, typeInfo, hi, Builtin.lenOf, hlc]
                      simp at this
                      cases ad <;> simp [hisz, this, storeCells]
                    have hgen := SimH.gen (g' := g) (w' := w) hs n (.slice (rows ++ [])) (Nat.le_refl _) rfl (fun _ _ => rfl) hHm hHn hnk (fun o h => by rw [hrows] at h; cases h; exact .inl ⟨rfl, by simp⟩) (fun h => by rw [hrows] at h; cases h) rfl rfl rfl (Nat.le_refl _)
                      (fun _ _ _ => rfl) (fun b hb => ⟨.inl ⟨by rw [hrows]; simp, hb⟩, (hblk' b hb).2⟩) (fun hk => ORep.keeps hk rfl (fun _ _ => rfl) (by rw [List.append_nil]; simp only [ORep]; exact ⟨o1, o2, o3, o4, o6, o5⟩))
                    refine ⟨g, w, _, .inl hrun, ?_, hgen⟩
                    simp only [ARep]
                    refine ⟨hnk, rfl, fun rows' h => ?_⟩
                    rw [hHn] at h; cases h
                    exact ⟨by simp; omega, fun _ => ⟨ad, cap, rfl, hlc, .inl hcap⟩⟩
                  · obtain ⟨cs, t', vals, hw', hcap', hvals, hat, hsz⟩ := o5 b hb
                    have hwd' : (g.ρ n).w = wd := by
                      cases hrw : rows with
                      | nil => rw [o6 hrw] at hb; cases hb
                      | cons r rs => rw [← o4 r (by rw [hrw]; simp)]; exact hwid r (by rw [hrw]; simp)
                    rw [hwd'] at hat hsz hsv
                    have hvl : vals.length = rows.length - (g.ρ n).drop := by rw [hvals.length]; simp
                    have hfl : nv.flatten.length = new.length * wd := by rw [len_flatten n2, n1.length]
                    have hpos : (g.ρ n).base + (off - (g.ρ n).drop) * wd + len * wd = (g.ρ n).base + (rows.length - (g.ρ n).drop) * wd := by
                      rw [Nat.add_assoc, ← Nat.add_mul]; congr 2; omega
                    have hfit : (g.ρ n).base + (rows.length - (g.ρ n).drop) * wd + nv.flatten.length ≤ cs.size := by
                      rw [hfl, Nat.add_assoc, ← Nat.add_mul]
                      refine Nat.le_trans ?_ hsz
                      exact Nat.add_le_add_left (Nat.mul_le_mul_right _ (by omega)) _
                    have hst := run_storeCells_at P b ((g.ρ n).base + (rows.length - (g.ρ n).drop) * wd) t' nv.flatten 0 cs w hw' (by simpa using hfit) n6
                    simp only [Nat.add_zero] at hst
                    have hrun : (execOp a.eval oo).run P w = .ok (.value (.slice (some ⟨b, (g.ρ n).base + (off - (g.ρ n).drop) * wd, none⟩) (len + new.length) cap))
                        (w.setRow b (cs.toList.take ((g.ρ n).base + (rows.length - (g.ρ n).drop) * wd) ++ nv.flatten ++ cs.toList.drop ((g.ρ n).base + (rows.length - (g.ρ n).drop) * wd + nv.flatten.length)).toArray) := by
                      rw [hexec _ _ hsv hx]
                      have hf := hfirst w (fun _ => rfl)
                      simp only [Builtin.append_, List.getElem?_toArray, List.getElem?_cons_zero, List.getElem?_cons_succ, Sem.run_bind, run_underlying ht, run_underlying hu, run_sizeT hwd, Result.andThen_ok, Builtin.lenOf, Sem.run_pure, Bool.false_eq_true, if_false, Sem.run_ite, if_pos hroom, Bool.not_false, if_true, hf, add_none, hpos, hst]
                    have hgen := SimH.put (w' := w.setRow b (cs.toList.take ((g.ρ n).base + (rows.length - (g.ρ n).drop) * wd) ++ nv.flatten ++ cs.toList.drop ((g.ρ n).base + (rows.length - (g.ρ n).drop) * wd + nv.flatten.length)).toArray)
                      hs (o' := .slice (rows ++ new)) hrows hb (by
                        simp only [Compat]
                        rcases Nat.eq_zero_or_pos new.length with h0 | h0
                        · exact .inl ⟨trivial, by simp [h0]⟩
                        · exact .inr (by simp; omega)) rfl rfl rfl (by simp) (fun b' hb' => setRow_other w b b' _ hb') (fun hk => by
                      simp only [ORep]
                      refine ⟨by simpa using hlim, by simp; omega, fun _ => by rw [hb]; simp, fun r hr => by rw [hwd']; exact hwid' r hr, fun h => ?_, fun b' hb' => ?_⟩
                      · exact o6 (List.append_eq_nil_iff.1 h).1
                      · rw [hb] at hb'; cases hb'
                        refine ⟨_, t', vals ++ nv, setRow_heap w b cs _ t' _ hw', by simp; omega, ?_, ?_, ?_⟩
                        · rw [List.drop_append_of_le_length (by omega)]
                          exact PRepLL.append (PRepLL.mono hk.fz _ _ hvals) (PRepLL.mono hk.fz _ _ n1)
                        · rw [hwd']
                          refine RowsAt.ofFlat (fun r hr => ?_) (fun j u hj => ?_)
                          · rcases List.mem_append.1 hr with h | h
                            · exact hat.widths r h
                            · exact n2 r h
                          · rw [List.flatten_append] at hj
                            rw [List.getElem?_toArray, seg_get _ _ _ _ (by simpa using hfit)]
                            have hvf := hat.length
                            rw [hvl] at hvf
                            by_cases hjl : j < vals.flatten.length
                            · rw [List.getElem?_append_left hjl] at hj
                              rw [if_neg (by omega)]
                              simpa using hat.flat j u hj
                            · rw [List.getElem?_append_right (by omega)] at hj
                              have hjl2 : j - vals.flatten.length < nv.flatten.length := by
                                rcases Nat.lt_or_ge (j - vals.flatten.length) nv.flatten.length with h | h
                                · exact h
                                · rw [List.getElem?_eq_none h] at hj; cases hj
                              rw [if_pos (by omega)]
                              rw [show (g.ρ n).base + j - ((g.ρ n).base + (rows.length - (g.ρ n).drop) * wd) = j - vals.flatten.length by omega]
                              exact hj
                        · rw [hwd']
                          simp only [List.size_toArray, List.length_append, List.length_take, List.length_drop, Array.length_toList]
                          omega)
                    refine ⟨g, _, _, .inl hrun, ?_, hgen⟩
                    simp only [ARep]
                    refine ⟨hnk, rfl, fun rows' h => ?_⟩
                    rw [hHn] at h; cases h
                    exact ⟨by simp; omega, fun _ => ⟨_, cap, rfl, hroom, .inr ⟨b, hb, hdrop, hocap, by rw [hwd']⟩⟩⟩
                · -- in a new block
                  have hrun := run_app (P := P) (w := w) (ty := oo.type) (olds := ov) (news := nv) (ba := ad) (bb := bb) (sLen := len) (sCap := cap) (m := new.length) (c := c) ht hu hi hisz rfl hz'
                    (fun w' hw' => by
                      rw [hsv] at p3
                      simp only [Value.slice.injEq] at p3
                      obtain ⟨rfl, _, rfl⟩ := p3
                      have := run_first (P := P) (w := w') (rows := rows.drop off) (ba := ad) (cap := cap) p1.length p2 (by
                        rcases p5 with h | ⟨b, off', h3, h4⟩
                        · exact .inl h
                        · exact .inr ⟨b, off', h3, fun j u hj => by rw [hw']; exact h4 j u hj⟩) len
                      rwa [hlen] at this) hfirst (by omega)
                    (Nat.le_trans (Nat.mul_le_mul_right _ (by omega)) hbound) (by omega)
                  have hrun' := hexec _ _ hsv hx
                  rw [hrun] at hrun'
                  have hge := grown_facts w (len + new.length) cap e
                  have hdropa : (rows ++ new).drop off = rows.drop off ++ new := List.drop_append_of_le_length (by omega)
                  have hgen := SimH.gen (g' := { g with ρ := fun m => if m = n then ⟨some w.heap.size, 0, off, off + grownCap w (len + new.length) cap e, wd⟩ else g.ρ m }) (w' := w.drew.alloc (.cells (ov.flatten.toArray ++ nv.flatten.toArray ++ Builtin.zeroCells z.cells (grownCap w (len + new.length) cap e - (len + new.length))) e)) hs n (.slice (rows ++ new))
                    (Nat.le_refl _) rfl (fun m e => by simp [e]) hHm hHn hnk (fun o h => by rw [hrows] at h; cases h; exact .inr (by simp; omega)) (fun h => by rw [hrows] at h; cases h) rfl rfl rfl (by rw [da_size]; omega)
                    (fun b hb _ => da_old _ _ hb) (fun b hb => by simp at hb; subst hb; exact ⟨.inr (Nat.le_refl _), by rw [da_size]; omega⟩)
                    (fun hk => by
                      simp only [ORep, if_true]
                      refine ⟨by simpa using hlim, by simp; omega, fun _ => by simp, hwid', fun h => ?_, fun b hb => ?_⟩
                      · have h0 : new.length = 0 := by rw [(List.append_eq_nil_iff.1 h).2]; rfl
                        omega
                      cases hb
                      refine ⟨_, e, ov ++ nv, da_new _ _, by simp; omega, ?_, RowsAt.grown p2 n2, ?_⟩
                      · rw [hdropa]; exact PRepLL.append (PRepLL.mono hk.fz _ _ p1) (PRepLL.mono hk.fz _ _ n1)
                      · have hsz1 : (ov.flatten.toArray ++ nv.flatten.toArray ++ Builtin.zeroCells z.cells (grownCap w (len + new.length) cap e - (len + new.length))).size = (len + new.length + (grownCap w (len + new.length) cap e - (len + new.length))) * wd := by
                          simp only [Array.size_append, List.size_toArray, size_zeroCells, hzs, len_flatten n2, len_flatten p2, n1.length, p1.length, hlen, ← Nat.add_mul]
                        rw [hsz1, Nat.zero_add]
                        exact Nat.mul_le_mul_right _ (by omega))
                  refine ⟨_, _, _, .inl hrun', ?_, hgen⟩
                  simp only [ARep]
                  refine ⟨hnk, rfl, fun rows' h => ?_⟩
                  rw [hHn] at h; cases h
                  refine ⟨by simp; omega, fun _ => ⟨_, _, rfl, hge, .inr ⟨w.heap.size, ?_⟩⟩⟩
                  simp
              · cases hv
            · cases hv
          · cases hv
        · cases hv
      · cases hv
    · cases hl
  · cases hl
end Go.Abs
