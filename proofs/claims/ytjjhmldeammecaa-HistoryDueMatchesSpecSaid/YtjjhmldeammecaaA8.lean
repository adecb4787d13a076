/-
  Abs, part 8: operations that make memory or write to it.
-/
import Derived.Test.YtjjhmldeammecaaA7
namespace Go.Abs
open Go

variable {P : Program}

theorem PRepL.append {fz : Nat → Option Obj} : ∀ {xs : List PV} {vs : List Value}, PRepL fz xs vs → ∀ {ys : List PV} {us : List Value}, PRepL fz ys us → PRepL fz (xs ++ ys) (vs ++ us)
  | [], _, h, _, _, h' => by simp only [PRepL] at h; simpa [h] using h'
  | x :: xs, _, h, ys, us, h' => by
    simp only [PRepL] at h
    obtain ⟨v, r, rfl, h1, h2⟩ := h
    simp only [List.cons_append, PRepL]
    exact ⟨v, _, rfl, h1, PRepL.append h2 h'⟩
theorem PRepLL.set {fz : Nat → Option Obj} : ∀ {xs : List (List PV)} {vs : List (List Value)}, PRepLL fz xs vs → ∀ {x : List PV} {v : List Value}, PRepL fz x v → ∀ n, PRepLL fz (xs.set n x) (vs.set n v)
  | [], _, h, _, _, _, n => by simp only [PRepLL] at h; simp [h, PRepLL]
  | x :: xs, _, h, y, u, hy, n => by
    simp only [PRepLL] at h
    obtain ⟨v, r, rfl, h1, h2⟩ := h
    cases n with
    | zero => simp only [List.set_cons_zero, PRepLL]; exact ⟨_, _, rfl, hy, h2⟩
    | succ n => simp only [List.set_cons_succ, PRepLL]; exact ⟨_, _, rfl, h1, PRepLL.set h2 hy n⟩
theorem PRepLL.replicate {fz : Nat → Option Obj} {x : List PV} {v : List Value} (h : PRepL fz x v) : ∀ n, PRepLL fz (List.replicate n x) (List.replicate n v)
  | 0 => by simp [PRepLL]
  | n + 1 => by simp only [List.replicate_succ, PRepLL]; exact ⟨_, _, rfl, h, PRepLL.replicate h n⟩

theorem OpOK.skip {g g' : G} {w w' : World} {H H' : Heap} {k k' : Nat} {r : Result Next} (hr : r = .ok .skip w') (h : SimH g' w' H' k' ∧ Evo g w H k g' w' H' k') : OpOK g w H k r .junk H' k' :=
  ⟨g', w', undef, .inr ⟨hr, rfl⟩, by simp [ARep], h.1, h.2⟩

theorem seg_get {α : Type} (l m : List α) (o i : Nat) (ho : o + m.length ≤ l.length) : (l.take o ++ m ++ l.drop (o + m.length))[i]? = if o ≤ i ∧ i < o + m.length then m[i - o]? else l[i]? := by
  rw [List.append_assoc]
  by_cases h1 : i < o
  · rw [List.getElem?_append_left (by simp; omega), List.getElem?_take, if_pos h1, if_neg (by omega)]
  · rw [List.getElem?_append_right (by simp; omega)]
    simp only [List.length_take, Nat.min_eq_left (by omega : o ≤ l.length)]
    by_cases h2 : i < o + m.length
    · rw [List.getElem?_append_left (by omega), if_pos (by omega)]
    · rw [List.getElem?_append_right (by omega), List.getElem?_drop, if_neg (by omega)]
      congr 1
      omega

/-- A piece of a row is written. -/
theorem RowsAt.write {cs : Array Value} {base wd : Nat} {vals : List (List Value)} {i0 j : Nat} {vr l : List Value} (h : RowsAt cs base wd vals) (hi : vals[i0]? = some vr) (hj : j + l.length ≤ vr.length)
    (hsz : base + i0 * wd + vr.length ≤ cs.size) :
    RowsAt (cs.toList.take (base + i0 * wd + j) ++ l ++ cs.toList.drop (base + i0 * wd + j + l.length)).toArray base wd (vals.set i0 (vr.take j ++ l ++ vr.drop (j + l.length))) := by
  intro i r hr
  have hvr := (h i0 vr hi).1
  rw [List.getElem?_set] at hr
  by_cases e : i0 = i
  · subst e
    have hlt : i0 < vals.length := by
      rcases Nat.lt_or_ge i0 vals.length with h' | h'
      · exact h'
      · rw [List.getElem?_eq_none h'] at hi; cases hi
    simp only [if_true, hlt, Option.some.injEq] at hr
    subst hr
    refine ⟨by simp; omega, fun jj x hx => ?_⟩
    rw [seg_get vr l j jj (by omega)] at hx
    rw [List.getElem?_toArray, seg_get _ l _ _ (by simp; omega)]
    split at hx
    · rename_i hc
      rw [if_pos (by omega)]
      rw [show base + i0 * wd + jj - (base + i0 * wd + j) = jj - j by omega]
      exact hx
    · rename_i hc
      rw [if_neg (by omega)]
      simpa using (h i0 vr hi).2 jj x hx
  · simp only [if_neg e] at hr
    obtain ⟨h1, h2⟩ := h i r hr
    refine ⟨h1, fun jj x hx => ?_⟩
    have hjj : jj < wd := by
      rcases Nat.lt_or_ge jj r.length with h' | h'
      · omega
      · rw [List.getElem?_eq_none h'] at hx; cases hx
    rw [List.getElem?_toArray, seg_get _ l _ _ (by simp; omega), if_neg]
    · simpa using h2 jj x hx
    · rcases Nat.lt_or_gt_of_ne e with h' | h'
      · have := Nat.mul_le_mul_right wd (Nat.succ_le_of_lt h')
        simp only [Nat.succ_eq_add_one, Nat.add_mul, Nat.one_mul] at this
        omega
      · have := Nat.mul_le_mul_right wd (Nat.succ_le_of_lt h')
        simp only [Nat.succ_eq_add_one, Nat.add_mul, Nat.one_mul] at this
        omega

theorem s_store (t : TypeId) (x y : Operand) : Sound P (.store t x y) := by
  intro oo ho g w H k env a op v H' k' hs he hl hv
  simp only [lowOp, Option.bind_eq_bind, Option.bind_eq_some_iff, Option.pure_def, Option.some.injEq] at hl
  obtain ⟨n, hn, x', h1, y', h2, rfl⟩ := hl
  have r1 := lowX_rep he h1
  have r2 := lowX_rep he h2
  simp only [aop] at hv
  split at hv
  · rename_i l hl
    obtain ⟨c1, c2⟩ := cells_rep r2 hl
    split at hv
    · rename_i hln
      have hsz : (a.eval y).cells.size = n := by have := c1.length; simp only [Array.length_toList] at this; omega
      split at hv
      · rename_i m off hm
        rw [hm] at r1
        split at hv
        · rename_i cs hcs
          split at hv
          · rename_i hfit
            simp only [Option.some.injEq, Prod.mk.injEq] at hv
            obtain ⟨rfl, rfl, rfl⟩ := hv
            simp only [ARep] at r1
            obtain ⟨b, hb, hx⟩ := r1.2.2 cs hcs
            obtain ⟨_, ho', _⟩ := hs.obj m _ hcs
            simp only [ORep] at ho'
            obtain ⟨b', vs, t', hb', hw, hr⟩ := ho'
            rw [hb] at hb'; cases hb'
            have hvl : vs.size = cs.length := by have := hr.length; simpa using this
            have hst := store_ok (P := P) (off := off) hw hn hsz (by omega) c2
            have hrun : (execOp a.eval oo).run P w = .ok .skip (w.setRow b (vs.toList.take off ++ (a.eval y).cells.toList ++ vs.toList.drop (off + n)).toArray) := by
              simp only [execOp, ho, hx, Instr.storeAt, Instr.sureAddr, Sem.run_bind, Sem.run_pure, Result.andThen_ok, hst]
            refine OpOK.skip hrun (SimH.put hs hcs hb rfl rfl rfl rfl (by simp) (fun b' hb' => setRow_other w b b' _ hb') fun hk => ?_)
            simp only [ORep]
            refine ⟨b, _, t', hb, setRow_heap w b vs _ t' _ hw, ?_⟩
            have hr' := ARepL.keeps hk _ _ hr
            have hc' := ARepL.keeps hk _ _ c1
            exact ((hr'.take off).append hc').append (hr'.drop (off + n))
          · cases hv
        · cases hv
      · rename_i m i j len hm
        rw [hm] at r1
        split at hv
        · rename_i rows ps hrows hps
          split at hv
          · rename_i hlen
            split at hv
            · rename_i r hri
              split at hv
              · rename_i hfit
                simp only [Option.some.injEq, Prod.mk.injEq] at hv
                obtain ⟨rfl, rfl, rfl⟩ := hv
                simp only [ARep] at r1
                obtain ⟨hle, hup⟩ := r1.2.2 rows hrows
                obtain ⟨hi, hd, b, hb, hx⟩ := hup hlen
                obtain ⟨_, ho', _⟩ := hs.obj m _ hrows
                simp only [ORep] at ho'
                obtain ⟨o1, o2, o3, o4, o6, o5⟩ := ho'
                obtain ⟨cs, t', vals, hw, hcap, hvals, hat, hsize⟩ := o5 b hb
                have hri' : (rows.drop (g.ρ m).drop)[i - (g.ρ m).drop]? = some r := by rw [List.getElem?_drop, show (g.ρ m).drop + (i - (g.ρ m).drop) = i by omega]; exact hri
                obtain ⟨vr, hv1, hv2⟩ := PRepLL.get hvals hri'
                have hvr := (hat _ _ hv1).1
                have hrl : r.length = (g.ρ m).w := o4 r (List.mem_of_getElem? hri)
                have hroom : (g.ρ m).base + (i - (g.ρ m).drop) * (g.ρ m).w + (g.ρ m).w ≤ cs.size := by
                  refine Nat.le_trans ?_ hsize
                  have : (i - (g.ρ m).drop + 1) * (g.ρ m).w ≤ ((g.ρ m).cap - (g.ρ m).drop) * (g.ρ m).w := Nat.mul_le_mul_right _ (by omega)
                  rw [Nat.add_mul, Nat.one_mul] at this
                  omega
                have hst := store_ok (P := P) (off := (g.ρ m).base + (i - (g.ρ m).drop) * (g.ρ m).w + j) hw hn hsz (by omega) c2
                have hvl : (a.eval y).cells.toList.length = n := by simpa using hsz
                have hlp := allP_some hps
                subst hlp
                have c3 := ARepL.ofP.1 c1
                have hrun : (execOp a.eval oo).run P w = .ok .skip (w.setRow b (cs.toList.take ((g.ρ m).base + (i - (g.ρ m).drop) * (g.ρ m).w + j) ++ (a.eval y).cells.toList ++ cs.toList.drop ((g.ρ m).base + (i - (g.ρ m).drop) * (g.ρ m).w + j + n)).toArray) := by
                  simp only [execOp, ho, hx, Instr.storeAt, Instr.sureAddr, Sem.run_bind, Sem.run_pure, Result.andThen_ok, hst]
                refine OpOK.skip hrun (SimH.put hs hrows hb (by simp [Compat]) rfl rfl rfl (by simp) (fun b' hb' => setRow_other w b b' _ hb') fun hk => ?_)
                simp only [ORep]
                refine ⟨by simpa using o1, by simpa using o2, by simpa using o3, ?_, fun h0 => o6 (by simpa using h0), fun b' hb' => ?_⟩
                · intro r' hr'
                  rcases List.mem_or_eq_of_mem_set hr' with h | rfl
                  · exact o4 r' h
                  · simp only [List.length_append, List.length_take, List.length_drop]
                    simp only [List.length_map] at hln
                    omega
                · rw [hb] at hb'; cases hb'
                  refine ⟨_, t', vals.set (i - (g.ρ m).drop) (vr.take j ++ (a.eval y).cells.toList ++ vr.drop (j + n)), setRow_heap w b cs _ t' _ hw, by simpa using hcap, ?_, ?_, ?_⟩
                  · rw [List.drop_set, if_neg (by omega)]
                    have hz := PRepLL.set (PRepLL.mono hk.fz _ _ hvals) (((PRepL.mono hk.fz _ _ hv2).take j |>.append (PRepL.mono hk.fz _ _ c3)).append ((PRepL.mono hk.fz _ _ hv2).drop (j + n))) (i - (g.ρ m).drop)
                    exact hz
                  · rw [← hvl]
                    exact RowsAt.write hat hv1 (by rw [hvr]; omega) (by rw [hvr]; omega)
                  · simp only [List.size_toArray, List.length_append, List.length_take, List.length_drop, Array.length_toList]
                    omega
              · cases hv
            · cases hv
          · cases hv
        · cases hv
      · cases hv
    · cases hv
  · cases hv
end Go.Abs
