/-
  Abs,part 18:regions whose order is open,in the world. Abs,part 19:the slice nil taken for an owned one;weakening;lists. Abs,part 20:the same rules in a form that is quick to walk with. (and more of this kind).
-/
import Derived.Test.YtiohnbmhmhljbaaGreatDoorM2
import Derived.ChangeStays
import Derived.ChangeSame
import Derived.OpenShut
import Derived.WideShapes
namespace Go.Abs
open Go
variable {P:Program}
theorem ZgC {ops:Array Oper} {ls:List LOp} (h:okDraw P ops ls=true):P.follows .mixedOrders=true ∧
  (∀i o,ops[i]? =some o→∀e∈o.after,Region.binds .any e=true→e.on<i) ∧
  (∀i j a b,i<ops.size→j<i→ls[j]? =some a→ls[i]? =some b→((masks ops.toList #[]).getD i 0).testBit j=true∨a.apart b=true):=by
 simp only[okDraw,Bool.and_eq_true,List.all_eq_true,List.mem_range] at h
 obtain⟨h1,h2⟩:=h
 refine⟨h1,fun i o ho e he hb=>?_,fun i j a b hi hj ha hb=>?_⟩
 ·have:=(h2 i (Array.getElem?_eq_some_iff.1 ho).1).1
  rw[ho] at this
  simp only[Array.all_eq_true_iff_forall_mem,Bool.or_eq_true,Bool.not_eq_true',decide_eq_true_eq] at this
  rcases this e he with h | h
  ·rw[hb] at h;cases h
  ·exact h
 ·have:=(h2 i hi).2 j hj
  rw[ha,hb] at this
  simpa using this
def DownC (ops:Array Oper) (listed:Array Bool):Prop:=∀i o,ops[i]? =some o→listed.getD i false=true→∀e∈o.after,Region.binds .any e=true→listed.getD e.on false=true
theorem Zgo {ops:Array Oper} {listed:Array Bool} (hd:DownC ops listed) (hlt:∀i o,ops[i]? =some o→∀e∈o.after,Region.binds .any e=true→e.on<i) :
  ∀(i:Nat) (o:Oper),ops[i]? =some o→(∀e∈o.after,Region.binds .any e=true→listed.getD e.on false=true)→∀j,((masks ops.toList #[]).getD i 0).testBit j=true→listed.getD j false=true:=by
 intro i
 induction i using Nat.strongRecOn with
 | _ i ih =>
  intro o ho hp j hj
  obtain⟨e,h1,h2,h3⟩:=(masks_ok ops.toList #[]).2 i o (by simpa using ho) j (by simpa using hj)
  have hl:=hp e h1 h2
  rcases h3 with rfl | h3
  ·exact hl
  ·have hlt':=hlt i o ho e h1 h2
   have hsz:e.on<ops.size:=Nat.lt_trans hlt' (Array.getElem?_eq_some_iff.1 ho).1
   exact ih e.on hlt' ops[e.on] (by simp[hsz]) (fun e' h' hb'=>hd e.on ops[e.on] (by simp[hsz]) hl e' h' hb') j h3
theorem stepS_ok {nt:Nat} {ops:Array Oper} (hall:∀o∈ops.toList,o.dst.all (· <nt)=true) {R:Exit→Act→World→Prop} {i:Nat} {o:Oper} {l:LOp} (ho:ops[i]? =some o) (hl:lowOper P nt ops o=some l)
  {g:G} {w:World} {st:St} {a:Act} (h1:a.tmps.size=nt) (h3:Sim g w st a.tmps) {v:AV} {H:Heap} {k:Nat} (hv:stepS P l st v H k) (rest:List Nat)
  (cont:∀x g' w',ARep g' H k v x→SimH g' w' H k→Evo g w st.H st.k g' w' H k→wpOps P ops R rest (a.put o.dst x) w'):wpOps P ops R (i :: rest) a w:=by
 obtain⟨p1,p2,p3,p4⟩:=Zbs hl
 obtain⟨_,hv⟩:=hv
 simp only[wpOps,ho]
 have cont':∀v' x H' k' g' w',(v'=v∧H'=H∧k'=k)→ARep g' H' k' v' x→SimH g' w' H' k'→Evo g w st.H st.k g' w' H' k'→wpOps P ops R rest (a.put o.dst x) w':=by
  rintro v' x H' k' g' w' ⟨rfl,rfl,rfl⟩ q1 q2 q3
  exact cont x g' w' q1 q2 q3
 rcases p4 with ⟨q1,q2⟩ | ⟨j,b,d,q1,q2,q3⟩
 ·rw[q2] at hv
  have hw:Region.wanted o (yielded ops a.tmps)=true:=by unfold Region.wanted;rw[q1]
  rw[hw]
  exact .inl (vOp_ok p1 h3 hv _ _ cont')
 ·rw[q3] at hv
  simp only at hv
  have hdlt:d<nt:=by
   cases hj:ops[j]? with
   | none=>simp[hj] at q2
   | some oj =>
    simp only[hj,Option.bind_some] at q2
    have:=hall oj (List.mem_of_getElem? (by simpa using hj))
    simpa [q2] using this
  split at hv
  ·rename_i x hx
   have hy:=yielded_ok h3 h1 q2 hdlt hx
   by_cases e:x=b
   ·have hw:Region.wanted o (yielded ops a.tmps)=true:=by unfold Region.wanted;rw[q1];simp[hy,e]
    rw[hw]
    exact .inl (vOp_ok p1 h3 (hv.1 e) _ _ cont')
   ·have hw:Region.wanted o (yielded ops a.tmps)=false:=by unfold Region.wanted;rw[q1];simp[hy,e]
    rw[hw]
    obtain⟨rfl,rfl,rfl⟩:=hv.2 e
    exact cont undef g w (by simp[ARep,ARepL,undef]) h3.h Evo.refl
  ·rename_i l' hx
   have hy:=yielded_tup h3 h1 q2 hdlt hx
   have hw:Region.wanted o (yielded ops a.tmps)=false:=by unfold Region.wanted;rw[q1];simp[hy]
   rw[hw]
   obtain⟨rfl,rfl,rfl⟩:=hv
   exact cont undef g w (by simp[ARep,ARepL,undef]) h3.h Evo.refl
  ·exact hv.elim
theorem mapM_get {α β:Type} {f:α→Option β}:∀ {l:List α} {ys:List β},l.mapM f=some ys→∀(i:Nat) (x:α),l[i]? =some x→∃y,ys[i]? =some y∧f x=some y
 | [],_,_,i,x,hx=>by simp at hx
 | a :: l,ys,h,i,x,hx=>by
  simp only[List.mapM_cons,Option.bind_eq_bind,Option.bind_eq_some_iff,Option.pure_def,Option.some.injEq] at h
  obtain⟨y,h1,zs,h2,rfl⟩:=h
  cases i with
  | zero=>simp at hx;subst hx;exact⟨y,rfl,h1⟩
  | succ i=>exact mapM_get h2 i x (by simpa using hx)
def remOf (n:Nat) (listed:Array Bool):List Nat:=(List.range n).filter fun i=> !listed.getD i true
theorem ZeN (n:Nat) (listed:Array Bool):(remOf n listed).Pairwise (· < ·):=List.Pairwise.filter _ List.pairwise_lt_range
theorem Zek {n i:Nat} {listed:Array Bool}:i∈remOf n listed↔i<n∧listed.getD i true=false:=by
 simp[remOf,List.mem_filter]
theorem draw_go {nt:Nat} {ops:Array Oper} {ls:List LOp} (hls:ops.toList.mapM (lowOper P nt ops)=some ls) (hok:okDraw P ops ls=true) {Q:St→Prop} (hQ:∀s s',St.Same s s'→Q s→Q s') {R:Exit→Act→World→Prop} (g0:G) (w0:World) (H0:Heap) (k0:Nat)
    (hR:∀g w st a,Q st→a.tmps.size=nt→a.defers= []→Sim g w st a.tmps→Evo g0 w0 H0 k0 g w st.H st.k→R .normal a w) :
    ∀(fuel t:Nat) (listed:Array Bool) (g:G) (w:World) (st:St) (a:Act),listed.size=ops.size→(remOf ops.size listed).length≤fuel→DownC ops listed→a.tmps.size=nt→a.defers= []→Sim g w st a.tmps→Evo g0 w0 H0 k0 g w st.H st.k →
      vS P ((remOf ops.size listed).filterMap (ls[·]?)) st Q→wpOps P ops R (Region.linearise.go .any ops fuel t listed []) a w:=by
  obtain⟨_,hback,hpair⟩:=ZgC hok
  have hall:=ZdT hls
  intro fuel
  induction fuel with
  | zero =>
    intro t listed g w st a hsz hle hd h1 h2 h3 h4 hv
    have e:remOf ops.size listed= []:=List.eq_nil_of_length_eq_zero (by omega)
    rw[e] at hv
    simp only[Region.linearise.go,List.reverse_nil,wpOps]
    exact hR g w st a hv h1 h2 h3 h4
  | succ fuel ih =>
    intro t listed g w st a hsz hle hd h1 h2 h3 h4 hv
    simp only[Region.linearise.go]
    change wpOps P ops R (match (Region.ready .any ops listed)[t % (Region.ready .any ops listed).length]? with
      | some i=>Region.linearise.go .any ops fuel (t / (Region.ready .any ops listed).length) (listed.setIfInBounds i true) [i]
      | none=> [].reverse) a w
    cases hi:(Region.ready .any ops listed)[t % (Region.ready .any ops listed).length]? with
    | none =>
      have hnil:Region.ready .any ops listed= []:=by
        cases hr:Region.ready .any ops listed with
        | nil=>rfl
        | cons x xs =>
          rw[hr] at hi
          have hlt:t % (x :: xs).length<(x :: xs).length:=Nat.mod_lt _ (by simp)
          simp at hi
          simp at hlt
          omega
      have e:remOf ops.size listed= []:=by
        cases hr:remOf ops.size listed with
        | nil=>rfl
        | cons x xs =>
          exfalso
          have hx:=Zek.1 (show x∈remOf ops.size listed by rw[hr];simp)
          have hs:=ZeN ops.size listed
          rw[hr,List.pairwise_cons] at hs
          have:x∈Region.ready .any ops listed:=mem_ready.2 ⟨hx.2,ops[x],by simp[hx.1],fun e he hb=>by
            have hlt:=hback x ops[x] (by simp[hx.1]) e he hb
            cases hl:listed.getD e.on true with
            | true =>
              have hlt2:e.on<listed.size:=by rw[hsz];omega
              simp[Array.getD_eq_getD_getElem?,hlt2] at hl ⊢
              exact hl
            | false =>
              have hmem:e.on∈remOf ops.size listed:=Zek.2 ⟨by omega,hl⟩
              rw[hr] at hmem
              cases hmem with
              | head=>exact absurd hlt (Nat.lt_irrefl _)
              | tail _ hm=>exact absurd (hs.1 _ hm) (by omega)⟩
          rw[hnil] at this
          cases this
      rw[e] at hv
      simp only[List.reverse_nil,wpOps]
      exact hR g w st a hv h1 h2 h3 h4
    | some i =>
      simp only[]
      rw[linearise_go_acc,List.reverse_singleton,List.singleton_append]
      obtain⟨hun,o,ho,hpre⟩:=mem_ready.1 (List.mem_of_getElem? hi)
      have hin:i<ops.size:=(Array.getElem?_eq_some_iff.1 ho).1
      have hmem:i∈remOf ops.size listed:=Zek.2 ⟨hin,hun⟩
      obtain⟨l1,l2,hsplit⟩:=List.append_of_mem hmem
      have hs:=ZeN ops.size listed
      rw[hsplit,List.pairwise_append,List.pairwise_cons] at hs
      obtain⟨hs1,⟨hs2,hs3⟩,hs4⟩:=hs
      have hrem:remOf ops.size (listed.setIfInBounds i true)=l1++l2:=by
        have e1:remOf ops.size (listed.setIfInBounds i true)=(remOf ops.size listed).filter (· != i):=by
          simp only[remOf,List.filter_filter]
          apply List.filter_congr
          intro j hj
          by_cases hji:j=i
          · subst hji
            have:j<listed.size:=by rw[hsz];exact hin
            simp[this]
          · rw[getD_set_ne true (Ne.symm hji)]
            simp[hji]
        rw[e1,hsplit,List.filter_append,List.filter_cons_of_neg (by simp)]
        rw[List.filter_eq_self.2 (fun x hx=>by have:=hs4 x hx i (by simp);simp;omega),List.filter_eq_self.2 (fun x hx=>by have:=hs2 x hx;simp;omega)]
      obtain⟨l,hl1,hl2⟩:=mapM_get hls i o (by simpa using ho)
      rw[hsplit,List.filterMap_append,List.filterMap_cons_some (by exact hl1)] at hv
      have hap:∀x∈l1.filterMap (ls[·]?),x.apart l=true:=by
        intro x hx
        obtain⟨j,hj1,hj2⟩:=List.mem_filterMap.1 hx
        have hjlt:j<i:=hs4 j hj1 i (by simp)
        rcases hpair i j x l hin hjlt hj2 hl1 with hb | hb
        · exfalso
          have hlisted:=Zgo hd hback i o ho hpre j hb
          have hjun:=(Zek.1 (show j∈remOf ops.size listed by rw[hsplit];simp[hj1])).2
          have hlt2:j<listed.size:=by rw[hsz];omega
          simp[Array.getD_eq_getD_getElem?,hlt2] at hlisted hjun
          rw[hlisted] at hjun;cases hjun
        · exact hb
      obtain⟨v,H,k,hst,hv'⟩:=vS_front hQ hap hv
      refine stepS_ok hall ho hl2 h1 h3 hst _ fun x g' w' q1 q2 q3=>?_
      have hput:=env_put (H0:=H) (k0:=k) h1 (fun t=>ARep.keeps q3.keeps _ _ (h3.env t)) (dst:=l.dst) (by rw[(Zbs hl2).2.1];exact (Zbs hl2).2.2.1) q1
      have hdst:=(Zbs hl2).2.1
      refine ih _ _ g' w' (St.put ⟨st.env,H,k⟩ l.dst v) _ (by simp[hsz]) ?_ ?_ (by rw[put_size];exact h1) (by rw[Zfv];exact h2) ⟨?_,?_⟩ ?_ ?_
      · rw[hrem]
        rw[hsplit] at hle
        simp at hle ⊢
        omega
      · intro j oj hoj hlj e he hb
        by_cases hji:j=i
        · subst hji
          rw[ho] at hoj;cases hoj
          exact getD_set_true (hpre e he hb)
        · rw[getD_set_ne false (Ne.symm hji)] at hlj
          exact getD_set_true (hd j oj hoj hlj e he hb)
      · rw[St.put_H,St.put_k,←hdst];exact hput
      · rw[St.put_H,St.put_k];exact q2
      · rw[St.put_H,St.put_k];exact h4.trans q3
      · rw[hrem,List.filterMap_append];exact hv'
theorem draw_goS {nt:Nat} {ops:Array Oper} {ls:List LOp} (hls:ops.toList.mapM (lowOper P nt ops)=some ls) (hback:∀i o,ops[i]? =some o→∀e∈o.after,Region.binds .any e=true→e.on<i) {sf:St} {kk:Nat} (hpair:∀i j a b,i<ops.size→j<i→ls[j]? =some a→ls[i]? =some b→((masks ops.toList #[]).getD i 0).testBit j=true∨Comm P sf kk a b) {Q:St→Prop} (hQ:∀s s',St.Same s s'→Q s→Q s') {R:Exit→Act→World→Prop} (g0:G) (w0:World) (H0:Heap) (k0:Nat)
    (hR:∀g w st a,Q st→a.tmps.size=nt→a.defers= []→Sim g w st a.tmps→Evo g0 w0 H0 k0 g w st.H st.k→R .normal a w) :
    ∀(fuel t:Nat) (listed:Array Bool) (g:G) (w:World) (st:St) (a:Act),listed.size=ops.size→(remOf ops.size listed).length≤fuel→DownC ops listed→a.tmps.size=nt→a.defers= []→Sim g w st a.tmps→Evo g0 w0 H0 k0 g w st.H st.k →
      vSE P sf kk ((remOf ops.size listed).filterMap (ls[·]?)) st Q→wpOps P ops R (Region.linearise.go .any ops fuel t listed []) a w:=by
  have hall:=ZdT hls
  intro fuel
  induction fuel with
  | zero =>
    intro t listed g w st a hsz hle hd h1 h2 h3 h4 hv
    have e:remOf ops.size listed= []:=List.eq_nil_of_length_eq_zero (by omega)
    rw[e] at hv
    simp only[Region.linearise.go,List.reverse_nil,wpOps]
    exact hR g w st a hv.2 h1 h2 h3 h4
  | succ fuel ih =>
    intro t listed g w st a hsz hle hd h1 h2 h3 h4 hv
    simp only[Region.linearise.go]
    change wpOps P ops R (match (Region.ready .any ops listed)[t % (Region.ready .any ops listed).length]? with
      | some i=>Region.linearise.go .any ops fuel (t / (Region.ready .any ops listed).length) (listed.setIfInBounds i true) [i]
      | none=> [].reverse) a w
    cases hi:(Region.ready .any ops listed)[t % (Region.ready .any ops listed).length]? with
    | none =>
      have hnil:Region.ready .any ops listed= []:=by
        cases hr:Region.ready .any ops listed with
        | nil=>rfl
        | cons x xs =>
          rw[hr] at hi
          have hlt:t % (x :: xs).length<(x :: xs).length:=Nat.mod_lt _ (by simp)
          simp at hi
          simp at hlt
          omega
      have e:remOf ops.size listed= []:=by
        cases hr:remOf ops.size listed with
        | nil=>rfl
        | cons x xs =>
          exfalso
          have hx:=Zek.1 (show x∈remOf ops.size listed by rw[hr];simp)
          have hs:=ZeN ops.size listed
          rw[hr,List.pairwise_cons] at hs
          have:x∈Region.ready .any ops listed:=mem_ready.2 ⟨hx.2,ops[x],by simp[hx.1],fun e he hb=>by
            have hlt:=hback x ops[x] (by simp[hx.1]) e he hb
            cases hl:listed.getD e.on true with
            | true =>
              have hlt2:e.on<listed.size:=by rw[hsz];omega
              simp[Array.getD_eq_getD_getElem?,hlt2] at hl ⊢
              exact hl
            | false =>
              have hmem:e.on∈remOf ops.size listed:=Zek.2 ⟨by omega,hl⟩
              rw[hr] at hmem
              cases hmem with
              | head=>exact absurd hlt (Nat.lt_irrefl _)
              | tail _ hm=>exact absurd (hs.1 _ hm) (by omega)⟩
          rw[hnil] at this
          cases this
      rw[e] at hv
      simp only[List.reverse_nil,wpOps]
      exact hR g w st a hv.2 h1 h2 h3 h4
    | some i =>
      simp only[]
      rw[linearise_go_acc,List.reverse_singleton,List.singleton_append]
      obtain⟨hun,o,ho,hpre⟩:=mem_ready.1 (List.mem_of_getElem? hi)
      have hin:i<ops.size:=(Array.getElem?_eq_some_iff.1 ho).1
      have hmem:i∈remOf ops.size listed:=Zek.2 ⟨hin,hun⟩
      obtain⟨l1,l2,hsplit⟩:=List.append_of_mem hmem
      have hs:=ZeN ops.size listed
      rw[hsplit,List.pairwise_append,List.pairwise_cons] at hs
      obtain⟨hs1,⟨hs2,hs3⟩,hs4⟩:=hs
      have hrem:remOf ops.size (listed.setIfInBounds i true)=l1++l2:=by
        have e1:remOf ops.size (listed.setIfInBounds i true)=(remOf ops.size listed).filter (· != i):=by
          simp only[remOf,List.filter_filter]
          apply List.filter_congr
          intro j hj
          by_cases hji:j=i
          · subst hji
            have:j<listed.size:=by rw[hsz];exact hin
            simp[this]
          · rw[getD_set_ne true (Ne.symm hji)]
            simp[hji]
        rw[e1,hsplit,List.filter_append,List.filter_cons_of_neg (by simp)]
        rw[List.filter_eq_self.2 (fun x hx=>by have:=hs4 x hx i (by simp);simp;omega),List.filter_eq_self.2 (fun x hx=>by have:=hs2 x hx;simp;omega)]
      obtain⟨l,hl1,hl2⟩:=mapM_get hls i o (by simpa using ho)
      rw[hsplit,List.filterMap_append,List.filterMap_cons_some (by exact hl1)] at hv
      have hap:∀x∈l1.filterMap (ls[·]?),Comm P sf kk x l:=by
        intro x hx
        obtain⟨j,hj1,hj2⟩:=List.mem_filterMap.1 hx
        have hjlt:j<i:=hs4 j hj1 i (by simp)
        rcases hpair i j x l hin hjlt hj2 hl1 with hb | hb
        · exfalso
          have hlisted:=Zgo hd hback i o ho hpre j hb
          have hjun:=(Zek.1 (show j∈remOf ops.size listed by rw[hsplit];simp[hj1])).2
          have hlt2:j<listed.size:=by rw[hsz];omega
          simp[Array.getD_eq_getD_getElem?,hlt2] at hlisted hjun
          rw[hlisted] at hjun;cases hjun
        · exact hb
      obtain⟨_,_,v,H,k,hst,_,hv'⟩:=vSE_front hQ hap hv
      refine stepS_ok hall ho hl2 h1 h3 hst _ fun x g' w' q1 q2 q3=>?_
      have hput:=env_put (H0:=H) (k0:=k) h1 (fun t=>ARep.keeps q3.keeps _ _ (h3.env t)) (dst:=l.dst) (by rw[(Zbs hl2).2.1];exact (Zbs hl2).2.2.1) q1
      have hdst:=(Zbs hl2).2.1
      refine ih _ _ g' w' (St.put ⟨st.env,H,k⟩ l.dst v) _ (by simp[hsz]) ?_ ?_ (by rw[put_size];exact h1) (by rw[Zfv];exact h2) ⟨?_,?_⟩ ?_ ?_
      · rw[hrem]
        rw[hsplit] at hle
        simp at hle ⊢
        omega
      · intro j oj hoj hlj e he hb
        by_cases hji:j=i
        · subst hji
          rw[ho] at hoj;cases hoj
          exact getD_set_true (hpre e he hb)
        · rw[getD_set_ne false (Ne.symm hji)] at hlj
          exact getD_set_true (hd j oj hoj hlj e he hb)
      · rw[St.put_H,St.put_k,←hdst];exact hput
      · rw[St.put_H,St.put_k];exact q2
      · rw[St.put_H,St.put_k];exact h4.trans q3
      · rw[hrem,List.filterMap_append];exact hv'
theorem ZcH {α:Type} (l:List α):∀(n m:Nat),l.length≤n+m→(List.range' m n).filterMap (l[·]?)=l.drop m
 | 0,m,h=>by simp;omega
 | n+1,m,h=>by
  rw[List.range'_succ,List.filterMap_cons]
  cases hm:l[m]? with
  | none =>
   simp only[]
   rw[ZcH l n (m+1) (by omega)]
   have:l.length≤m:=by simpa using hm
   rw[List.drop_eq_nil_of_le (by omega),List.drop_eq_nil_of_le this]
  | some x =>
   simp only[]
   rw[ZcH l n (m+1) (by omega)]
   obtain⟨hlt,rfl⟩:=List.getElem?_eq_some_iff.1 hm
   exact (List.drop_eq_getElem_cons hlt).symm
theorem mapM_len {α β:Type} {f:α→Option β}:∀ {l:List α} {ys:List β},l.mapM f=some ys→ys.length=l.length
 | [],ys,h=>by simp at h;subst h;rfl
 | a :: l,ys,h=>by
  simp only[List.mapM_cons,Option.bind_eq_bind,Option.bind_eq_some_iff,Option.pure_def,Option.some.injEq] at h
  obtain⟨y,h1,zs,h2,rfl⟩:=h
  simp[mapM_len h2]
theorem St.Same.symm {s s':St} (h:St.Same s s'):St.Same s' s:=⟨fun t=>(h.env t).symm,h.H.symm,h.k.symm⟩
theorem St.Same.trans {s s' s'':St} (h:St.Same s s') (h':St.Same s' s''):St.Same s s'':=⟨fun t=>(h.env t).trans (h'.env t),h.H.trans h'.H,h.k.trans h'.k⟩
theorem Sim.same {g:G} {w:World} {s s':St} {tm:Array Value} (h:St.Same s s') (hs:Sim g w s tm):Sim g w s' tm:=by
 obtain⟨h1,h2⟩:=hs
 refine⟨fun t=>?_,?_⟩
 ·rw[←h.env t,←h.H,←h.k];exact h1 t
 ·rw[←h.H,←h.k];exact h2
theorem aw_draw {nt:Nat} {ls:List LOp} {Q:RExit→St→Prop} {st:St} (h:vS P ls st (Q .normal)):AWr P nt (.region true ls) Q st:=by
 intro c hc g w a h1 h2 h3
 obtain⟨id,ops,rfl,hl,hok⟩:=ZgG hc
 have hok:=hok rfl
 have hm:=(ZgC hok).1
 refine wp_region_draw fun t=>?_
 simp only[Region.schedule,hm,Bool.true_or,if_true,Region.linearise]
 have hev:Evo g w st.H st.k g {w with drawn:=w.drawn+1} st.H st.k :=
  ⟨Nat.le_refl _,rfl,rfl,rfl,Nat.le_refl _,fun _ _ h=>h,fun _ _ h=> .inl h,fun _ _ _=>rfl,fun _ _ _=>rfl,fun _ _ h=>h,fun n o o' _ h h'=>by rw[h] at h';cases h';exact Compat.refl _ _,fun n b h h'=> .inl ⟨n,h,h'⟩⟩
 have hsim:SimH g {w with drawn:=w.drawn+1} st.H st.k:=by
  refine⟨fun n o h=>?_,h3.h.inj,h3.h.fz⟩
  obtain⟨q1,q2,q3⟩:=h3.h.obj n o h
  refine⟨q1,?_,q3⟩
  cases o<;>simpa only[ORep] using q2
 have hrem:remOf ops.size (Array.replicate ops.size false)=List.range ops.size:=by
  apply List.filter_eq_self.2
  intro i hi
  simp only[List.mem_range] at hi
  simp[hi]
 have hlen:ls.length=ops.size:=by
  have:=mapM_len hl
  simpa using this
 refine draw_go (P:=P) hl hok (Q:=fun s'=>∃s,St.Same s s'∧Q .normal s) (fun s s' e ⟨s0,e0,h0⟩=>⟨s0,e0.trans e,h0⟩) g w st.H st.k (fun g' w' st' a' ⟨s,e,q1⟩ q2 q3 q4 q5=>⟨.normal,s,g',trivial,q1,q2,q3,q4.same e.symm,by rw[e.H,e.k];exact q5⟩) ops.size t _ g _ st a (by simp) (by rw[hrem];simp) ?_ h1 h2 ⟨h3.env,hsim⟩ hev ?_
 ·intro i o ho hli
  simp only[Array.getD_eq_getD_getElem?] at hli
  rcases Nat.lt_or_ge i ops.size with h | h
  ·simp[h] at hli
  ·simp[Nat.not_lt.2 h] at hli
 ·rw[hrem,List.range_eq_range',ZcH ls ops.size 0 (by omega)]
  exact vS_mono (fun s hs=>⟨s,⟨fun _=>rfl,rfl,rfl⟩,hs⟩) (by simpa using h)
theorem aw_soft {nt:Nat} {ls:List LOp} {Q:RExit→St→Prop} {st:St} {ps:List (Nat × Nat)} (h:vS P ls st (fun s=>(∀p∈ps,∀a b,ls[p.1]? =some a→ls[p.2]? =some b→SoftOK P s.ev st.k a b)∧Q .normal s)):AWr P nt (.soft ps ls) Q st:=by
 intro c hc g w a h1 h2 h3
 obtain⟨id,ops,rfl,hl,hok,rfl⟩:=lower_soft hc
 simp only[okSoft,Bool.and_eq_true,List.all_eq_true] at hok
 obtain⟨⟨⟨hm,hst⟩,hbk⟩,hsp⟩:=hok
 obtain⟨sf,⟨hsf,_⟩,_,hE⟩:=vS_E (k0:=st.k) hst (Nat.le_refl _) h
 have hback:∀i o,ops[i]? =some o→∀e∈o.after,Region.binds .any e=true→e.on<i:=fun i o ho e he hb=>by
  have:=hbk i (List.mem_range.2 (Array.getElem?_eq_some_iff.1 ho).1)
  rw[ho] at this
  simp only[Array.all_eq_true_iff_forall_mem,Bool.or_eq_true,Bool.not_eq_true',decide_eq_true_eq] at this
  rcases this e he with h | h
  ·rw[hb] at h;cases h
  ·exact h
 have hpair:∀i j a b,i<ops.size→j<i→ls[j]? =some a→ls[i]? =some b→((masks ops.toList #[]).getD i 0).testBit j=true∨Comm P sf st.k a b:=fun i j a b hi hj ha hb=>by
  by_cases h1:((masks ops.toList #[]).getD i 0).testBit j=true
  ·exact .inl h1
  by_cases h2:a.apart b=true
  ·exact .inr (.inl h2)
  have hmem:(j,i)∈softPairs ops ls:=by
   simp only[softPairs,List.mem_flatMap,List.mem_range,List.mem_filterMap]
   refine⟨i,hi,j,hj,?_⟩
   rw[ha,hb,if_neg]
   simp only[Bool.or_eq_true,not_or]
   exact⟨h1,h2⟩
  have h3:=hsp (j,i) hmem
  simp only[ha,hb,LOp.soft,Bool.and_eq_true,Option.isNone_iff_eq_none] at h3
  exact .inr (.inr ⟨h3.1.1.1,h3.1.1.2,h3.1.2,hsf (j,i) hmem a b ha hb⟩)
 refine wp_region_draw fun t=>?_
 simp only[Region.schedule,hm,Bool.true_or,if_true,Region.linearise]
 have hev:Evo g w st.H st.k g {w with drawn:=w.drawn+1} st.H st.k :=
  ⟨Nat.le_refl _,rfl,rfl,rfl,Nat.le_refl _,fun _ _ h=>h,fun _ _ h=> .inl h,fun _ _ _=>rfl,fun _ _ _=>rfl,fun _ _ h=>h,fun n o o' _ h h'=>by rw[h] at h';cases h';exact Compat.refl _ _,fun n b h h'=> .inl ⟨n,h,h'⟩⟩
 have hsim:SimH g {w with drawn:=w.drawn+1} st.H st.k:=by
  refine⟨fun n o h=>?_,h3.h.inj,h3.h.fz⟩
  obtain⟨q1,q2,q3⟩:=h3.h.obj n o h
  refine⟨q1,?_,q3⟩
  cases o<;>simpa only[ORep] using q2
 have hrem:remOf ops.size (Array.replicate ops.size false)=List.range ops.size:=by
  apply List.filter_eq_self.2
  intro i hi
  simp only[List.mem_range] at hi
  simp[hi]
 have hlen:ls.length=ops.size:=by
  have:=mapM_len hl
  simpa using this
 refine draw_goS (P:=P) hl hback hpair (Q:=fun s'=>∃s,St.Same s s'∧Q .normal s) (fun s s' e ⟨s0,e0,h0⟩=>⟨s0,e0.trans e,h0⟩) g w st.H st.k (fun g' w' st' a' ⟨s,e,q1⟩ q2 q3 q4 q5=>⟨.normal,s,g',trivial,q1,q2,q3,q4.same e.symm,by rw[e.H,e.k];exact q5⟩) ops.size t _ g _ st a (by simp) (by rw[hrem];simp) ?_ h1 h2 ⟨h3.env,hsim⟩ hev ?_
 ·intro i o ho hli
  simp only[Array.getD_eq_getD_getElem?] at hli
  rcases Nat.lt_or_ge i ops.size with h | h
  ·simp[h] at hli
  ·simp[Nat.not_lt.2 h] at hli
 ·rw[hrem,List.range_eq_range',ZcH ls ops.size 0 (by omega)]
  have hE':=vSE_mono (Q':=fun s'=>∃s,St.Same s s'∧Q .normal s) (fun s hs=>⟨s,⟨fun _=>rfl,rfl,rfl⟩,hs.2⟩) hE
  simpa using hE'
def vDop (P:Program) (op:ROp) (st:St) (K:AV→Heap→Nat→Prop):Prop :=
 match op with
 | .call f args=>∃v,ACalls P f (args.map st.ev) st.H st.k (fun v' H' k'=>v'=v∧H'=st.H∧k'=st.k)∧K v st.H st.k
 | .callv x args=>match st.ev x with
  | .fn (.func f) first cap=>enters P f=true∧∃v,ACalls P f (first++args.map st.ev++cap) st.H st.k (fun v' H' k'=>v'=v∧H'=st.H∧k'=st.k)∧K v st.H st.k
  | _=>False
 | op=>match aop op st.ev st.H st.k with
  | some (v,H,k)=>K v H k
  | none=>False
def vD (P:Program):List LOp→St→(St→Prop)→Prop
 | [],st,Q=>Q st
 | o :: r,st,Q=>match o.g with
  | none=>vDop P o.op st fun v H k=>vD P r (St.put ⟨st.env,H,k⟩ o.dst v) Q
  | some (d,b)=>match st.env.get d with
   | .p (.c (.bool x))=>(x=b→vDop P o.op st fun v H k=>vD P r (St.put ⟨st.env,H,k⟩ o.dst v) Q)∧(x≠b→vD P r (st.put o.dst (.tup [])) Q)
   | .tup _=>vD P r (st.put o.dst (.tup [])) Q
   | _=>False
theorem vDop_ok {op:ROp} {st:St} {K:AV→Heap→Nat→Prop} (h:vDop P op st K):∃v H k,vOp P op st (fun v' H' k'=>v'=v∧H'=H∧k'=k)∧(op.moves=false→H=st.H∧k=st.k)∧K v H k:=by
 cases op
 case call f args =>
  obtain⟨v,h1,h2⟩:=h
  exact⟨v,st.H,st.k,h1,fun _=>⟨rfl,rfl⟩,h2⟩
 case callv x args =>
  simp only[vDop] at h
  split at h
  ·rename_i f first cap e
   obtain⟨h0,v,h1,h2⟩:=h
   exact⟨v,st.H,st.k,by simp only[vOp,e];exact⟨h0,h1⟩,fun _=>⟨rfl,rfl⟩,h2⟩
  ·exact h.elim
 case snil neg x=>simp[vDop,aop] at h
 all_goals
  simp only[vDop] at h
  split at h
  ·rename_i v H k e
   exact⟨v,H,k,by simp only[vOp,e];exact⟨trivial,trivial,trivial⟩,fun hm=>aop_still hm e,h⟩
  ·exact h.elim
theorem vD_vS {Q:St→Prop}:∀ {l:List LOp} {st:St},vD P l st Q→vS P l st Q
 | [],_,h=>h
 | o :: r,st,h=>by
  simp only[vD] at h
  cases hg:o.g with
  | none =>
   rw[hg] at h
   obtain⟨v,H,k,h1,h2,h3⟩:=vDop_ok h
   exact⟨v,H,k,⟨h2,by rw[hg];exact h1⟩,vD_vS h3⟩
  | some db =>
   obtain⟨d,b⟩:=db
   rw[hg] at h
   simp only at h
   split at h
   ·rename_i x hx
    by_cases e:x=b
    ·obtain⟨v,H,k,h1,h2,h3⟩:=vDop_ok (h.1 e)
     exact⟨v,H,k,⟨h2,by rw[hg];simp only[hx];exact⟨fun _=>h1,fun n=>absurd e n⟩⟩,vD_vS h3⟩
    ·exact⟨.tup [],st.H,st.k,⟨fun _=>⟨rfl,rfl⟩,by rw[hg];simp only[hx];exact⟨fun n=>absurd n e,fun _=>⟨trivial,trivial,trivial⟩⟩⟩,vD_vS (h.2 e)⟩
   ·rename_i l hx
    exact⟨.tup [],st.H,st.k,⟨fun _=>⟨rfl,rfl⟩,by rw[hg];simp only[hx];exact⟨trivial,trivial,trivial⟩⟩,vD_vS h⟩
   ·exact h.elim
theorem aw_d {nt:Nat} {ls:List LOp} {Q:RExit→St→Prop} {st:St} (h:vD P ls st (Q .normal)):AWr P nt (.region true ls) Q st:=aw_draw (vD_vS h)
theorem aw_sd {nt:Nat} {ls:List LOp} {y:RCode} {Q:RExit→St→Prop} {st:St} (h:vD P ls st (fun s=>AWr P nt y Q s)):AWr P nt (.seq (.region true ls) y) Q st:=ZgA (aw_d h)
end Go.Abs
namespace Go.Abs
open Go
variable {P:Program}
theorem own_new {g:G} {w:World} {H:Heap} {k:Nat} (hs:SimH g w H k):∃g',g'.fz=g.fz∧SimH g' w ((k,.slice []) :: H) (k+1)∧Evo g w H k g' w ((k,.slice []) :: H) (k+1)∧ARep g' ((k,.slice []) :: H) (k+1) (.os k 0 0) (.slice none 0 0):=by
 have hk:H.get k=none:=by
  cases h:H.get k with
  | none=>rfl
  | some o=>have:=(hs.obj k o h).1;omega
 have h:=SimH.gen (g':= {g with ρ:=fun m=>if m=k then ⟨none,0,0,0,0,[]⟩ else g.ρ m}) (w':=w) hs k (.slice []) (k':=k+1) (H':=(k,.slice []) :: H) (by omega) rfl (fun m e=>by simp[e]) (fun m e=>by simp[Heap.get,Ne.symm e]) (by simp[Heap.get]) (by omega)
  (fun o h=>by rw[hk] at h;cases h) (fun _=>Nat.le_refl _) rfl rfl rfl (Nat.le_refl _) (fun b hb _=>rfl) (fun b hb=>by simp[Loc.has] at hb) (fun _=>by simp[ORep,lim])
 refine⟨{g with ρ:=fun m=>if m=k then ⟨none,0,0,0,0,[]⟩ else g.ρ m},rfl,h.1,h.2,?_⟩
 simp only[ARep]
 refine⟨by omega,rfl,fun rows hr=>?_⟩
 simp only[Heap.get,if_true,Option.some.injEq,AObj.slice.injEq] at hr
 subst hr
 exact⟨by simp,fun _=>⟨none,0,rfl,Nat.le_refl _,.inl rfl⟩⟩
theorem Upd.ownTmp (k0:Nat) {s:St} (t:Nat) (h:s.env.get t= .p (.c (.slice none 0 0))):Upd k0 s ⟨(t,.os s.k 0 0) :: s.env,(s.k,.slice []) :: s.H,s.k+1⟩:=by
 intro g w tm hs
 obtain⟨g',h1,h2,h3,h4⟩:=own_new hs.h
 refine⟨g',⟨fun u=>?_,h2⟩,fun g0 w0 H0 e=>e.trans h3⟩
 show ARep g' _ _ (Env.get ((t,.os s.k 0 0) :: s.env) u) _
 simp only[Env.get]
 split
 ·rename_i e
  subst e
  have:=hs.env t
  rw[h] at this
  rw[Zdm this]
  exact h4
 ·exact ARep.keeps h3.keeps _ _ (hs.env u)
theorem ARepL.setIdx {g:G} {H:Heap} {k:Nat}:∀ {cs:List AV} {vs:List Value} {i:Nat} {x y:AV},ARepL g H k cs vs→cs[i]? =some x→(∀v,ARep g H k x v→ARep g H k y v)→ARepL g H k (cs.set i y) vs
 | [],_,i,_,_,_,h,_=>by simp at h
 | c :: cs,vs,i,x,y,hl,h,hxy=>by
  simp only[ARepL] at hl
  obtain⟨v,r,rfl,h1,h2⟩:=hl
  cases i with
  | zero =>
   simp at h;subst h
   simp only[List.set_cons_zero,ARepL]
   exact⟨v,r,rfl,hxy v h1,h2⟩
  | succ i =>
   simp only[List.set_cons_succ,ARepL]
   exact⟨v,r,rfl,h1,h2.setIdx (by simpa using h) hxy⟩
theorem cell_word {g:G} {w:World} {H:Heap} {k n i:Nat} {cs:List AV} {x y:AV} (hs:SimH g w H k) (hn:H.get n=some (.cells cs)) (hi:cs[i]? =some x) (hxy:∀H',(∀m o,m≠n→H'.get m=some o→H.get m=some o)→(∀m cs,H'.get m=some (.cells cs)→∃cs',H.get m=some (.cells cs'))→(∀m r,H'.get m=some (.slice r)→H.get m=some (.slice r))→(∀m r,H'.get m=some (.map r)→H.get m=some (.map r))→∀v,ARep g H' k x v→ARep g H' k y v) :
  SimH g w (H.set n (.cells (cs.set i y))) k∧Evo g w H k g w (H.set n (.cells (cs.set i y))) k:=by
 obtain⟨h1,h2,h3⟩:=hs.obj n _ hn
 simp only[ORep] at h2
 obtain⟨b,vs,t,q1,q2,q3⟩:=h2
 refine SimH.put hs hn q1 (by simp[Compat]) rfl rfl rfl rfl (fun _ _=>rfl) fun hk=>?_
 simp only[ORep]
 refine⟨b,vs,t,q1,q2,?_⟩
 have hg:∀m,(H.set n (.cells (cs.set i y))).get m=if n=m∧H.get n≠none then some (.cells (cs.set i y)) else H.get m:=fun m=>Heap.get_set H n m _
 refine (ARepL.keeps hk _ _ q3).setIdx hi (hxy _ (fun m o e h=>?_) (fun m cs' h=>?_) (fun m r h=>?_) (fun m r h=>?_))
 ·rw[hg,if_neg (fun h=>e h.1.symm)] at h;exact h
 ·rw[hg] at h
  split at h
  ·rename_i e;exact⟨cs,e.1▸hn⟩
  ·exact⟨cs',h⟩
 ·rw[hg] at h
  split at h
  ·cases h
  ·exact h
 ·rw[hg] at h
  split at h
  ·cases h
  ·exact h
theorem Upd.ownCell (k0:Nat) {s:St} (n i:Nat) {cs:List AV} (hn:s.H.get n=some (.cells cs)) (hi:cs[i]? =some (.p (.c (.slice none 0 0)))) :
    Upd k0 s ⟨s.env,(s.k,.slice []) :: s.H.set n (.cells (cs.set i (.os s.k 0 0))),s.k+1⟩:=by
  intro g w tm hs
  obtain⟨g',h1,h2,h3,h4⟩:=own_new hs.h
  have hne:s.k≠n:=by
    have:=(hs.h.obj n _ hn).1
    omega
  have hn':Heap.get ((s.k,.slice []) :: s.H) n=some (.cells cs):=by simp only[Heap.get,if_neg hne];exact hn
  obtain⟨q1,q2⟩:=cell_word (y:= .os s.k 0 0) h2 hn' hi (fun H' _ _ hsl _ v hv=>by
    rw[Zdm hv]
    simp only[ARep] at h4 ⊢
    refine⟨h4.1,h4.2.1,fun rows hr=>h4.2.2 rows (hsl _ _ hr)⟩)
  have e:Heap.set ((s.k,AObj.slice []) :: s.H) n (.cells (cs.set i (.os s.k 0 0)))=(s.k,.slice []) :: s.H.set n (.cells (cs.set i (.os s.k 0 0))):=by
    simp[Heap.set,hne]
  rw[e] at q1 q2
  exact⟨g',⟨fun u=>ARep.keeps (h3.trans q2).keeps _ _ (hs.env u),q1⟩,fun g0 w0 H0 e=>e.trans (h3.trans q2)⟩
mutual
def nzP:PV→PV
 | .c v=>match v with
  | .slice none 0 0=> .sl []
  | v=> .c v
 | .agg cs=> .agg (nzPs cs)
 | .sl rows=> .sl (nzPss rows)
 | .ptr cells=> .ptr (nzPs cells)
 | .mp es=> .mp (nzPm es)
def nzPs:List PV→List PV
 | []=> []
 | x :: xs=>nzP x :: nzPs xs
def nzPss:List (List PV)→List (List PV)
 | []=> []
 | x :: xs=>nzPs x :: nzPss xs
def nzPm:List (PV × PV)→List (PV × PV)
 | []=> []
 | (x,y) :: xs=>(nzP x,nzP y) :: nzPm xs
end
theorem ZgB:∀(l:List (List PV)),(nzPss l).length=l.length
 | []=>rfl
 | _ :: l=>by simp[nzPss,ZgB l]
mutual
theorem nzP_rep {fz:Nat→Option Obj}:∀(x:PV) (v:Value),PRep fz x v→PRep fz (nzP x) v
 | .c u,v,h=>by
  simp only[PRep] at h;subst h
  simp only[nzP]
  split
  ·simp[PRep,top]
  ·simp[PRep]
 | .agg cs,v,h=>by
  simp only[PRep,nzP] at *
  obtain⟨vs,e,hl⟩:=h
  exact⟨vs,e,nzPs_rep cs _ hl⟩
 | .sl rows,v,h=>by
  simp only[PRep,nzP] at *
  rw[ZgB]
  obtain⟨h0,h⟩:=h
  refine⟨h0,?_⟩
  rcases h with ⟨rfl,h⟩ | ⟨b,off,cap,w,cs,t,fr,vals,e,hc,hf,hr,ha⟩
  ·exact .inl ⟨by simp[nzPss],h⟩
  ·exact .inr ⟨b,off,cap,w,cs,t,fr,vals,e,hc,hf,nzPss_rep rows _ hr,ha⟩
 | .ptr cells,v,h=>by
  simp only[PRep,nzP] at *
  obtain⟨b,off,cs,t,fr,vals,e,hf,hr,ha⟩:=h
  exact⟨b,off,cs,t,fr,vals,e,hf,nzPs_rep cells _ hr,ha⟩
 | .mp es,v,h=>by
  simp only[PRep,nzP] at *
  obtain⟨b,ms,c,e,hf,hr⟩:=h
  exact⟨b,ms,c,e,hf,nzPm_rep es _ hr⟩
theorem nzPs_rep {fz:Nat→Option Obj}:∀(x:List PV) (v:List Value),PRepL fz x v→PRepL fz (nzPs x) v
 | [],_,h=>by simp only[PRepL,nzPs] at *;exact h
 | x :: xs,v,h=>by
  simp only[PRepL,nzPs] at *
  obtain⟨a,r,e,h1,h2⟩:=h
  exact⟨a,r,e,nzP_rep x a h1,nzPs_rep xs r h2⟩
theorem nzPss_rep {fz:Nat→Option Obj}:∀(x:List (List PV)) (v:List (List Value)),PRepLL fz x v→PRepLL fz (nzPss x) v
 | [],_,h=>by simp only[PRepLL,nzPss] at *;exact h
 | x :: xs,v,h=>by
  simp only[PRepLL,nzPss] at *
  obtain⟨a,r,e,h1,h2⟩:=h
  exact⟨a,r,e,nzPs_rep x a h1,nzPss_rep xs r h2⟩
theorem nzPm_rep {fz:Nat→Option Obj}:∀(x:List (PV × PV)) (v:List (Value × Value)),PRepM fz x v→PRepM fz (nzPm x) v
 | [],_,h=>by simp only[PRepM,nzPm] at *;exact h
 | (x,y) :: xs,v,h=>by
  simp only[PRepM,nzPm] at *
  obtain⟨a,b,r,e,h1,h2,h3⟩:=h
  exact⟨a,b,r,e,nzP_rep x a h1,nzP_rep y b h2,nzPm_rep xs r h3⟩
end
def nzA:AV→AV
 | .p x=> .p (nzP x)
 | .tup l=> .tup (l.map fun | .p x=> .p (nzP x) | y=>y)
 | x=>x
theorem nzA_rep {g:G} {H:Heap} {k:Nat}:∀(x:AV) (v:Value),ARep g H k x v→ARep g H k (nzA x) v:=by
 intro x v h
 cases x<;>simp only[nzA]<;>try exact h
 ·simp only[ARep] at *;exact nzP_rep _ _ h
 ·rename_i cs
  simp only[ARep] at *
  obtain⟨vs,e,hl⟩:=h
  refine⟨vs,e,?_⟩
  clear e
  generalize vs.toList=l at hl
  induction cs generalizing l with
  | nil=>exact hl
  | cons c cs ih =>
   simp only[List.map_cons,ARepL] at *
   obtain⟨a,r,e,h1,h2⟩:=hl
   refine⟨a,r,e,?_,ih _ h2⟩
   cases c<;>simp only[]<;>try exact h1
   simp only[ARep] at *;exact nzP_rep _ _ h1
def FinZ (n:Nat) (rs:List RRes) (s:St) (r:AV):Prop :=
 match resv rs s with
 | some r'=>nzA (frzN n s.H r')=r∧ZaH 0 (frzN n s.H r')
 | none=>False
theorem apureZ (n:Nat) {f:FuncId} {rf:RFun} (hl:lowF P f=some rf) {xs:List AV} {r:AV} (hn:xs.length=rf.np)
  (h:AWr P rf.nt rf.code (fun e s=>match e with | .exit _=>False | _=>FinZ n rf.res s r) ⟨ZaG 0 xs,[],0⟩):APure P f xs r:=by
 have key:∀s,FinZ n rf.res s r→Fin rf.res s 0 (fun r' H' k'=>r'=r∧H'= []∧k'=0):=by
  intro s h
  unfold FinZ at h
  unfold Fin
  cases hr:resv rf.res s with
  | none=>rw[hr] at h;exact h.elim
  | some r' =>
   rw[hr] at h
   obtain⟨h1,h2⟩:=h
   subst h1
   refine⟨_,[],0,fun g w v hs hv=>?_,rfl,rfl,rfl⟩
   obtain⟨g',q1,q2,q3⟩:=frzN_upd 0 n h2 g w v hs hv
   exact⟨g',q1,nzA_rep _ _ q2,q3⟩
 refine afun hl hn (Zd5 h ?_)
 intro e s hs
 cases e with
 | exit id=>exact hs
 | normal=>exact key s hs
 | ret=>exact key s hs
theorem nzL_rep {g:G} {H:Heap} {k:Nat}:∀(x:List AV) (v:List Value),ARepL g H k x v→ARepL g H k (x.map nzA) v
 | [],_,h=>h
 | x :: xs,v,h=>by
  simp only[List.map_cons,ARepL] at *
  obtain⟨a,r,e,h1,h2⟩:=h
  exact⟨a,r,e,nzA_rep x a h1,nzL_rep xs r h2⟩
theorem APure.nz {f:FuncId} {xs ys:List AV} {r:AV} (hc:APure P f xs r) (h:ys.map nzA=xs):APure P f ys r:=by
 subst h
 intro g w args hs ha
 exact hc g w args hs (nzL_rep _ _ ha)
structure IsQ (Q Q0:RExit→St→Prop):Prop where
 eq:Q=Q0
theorem IsQ.go {Q Q0:RExit→St→Prop} {e:RExit} {s:St} (h:IsQ Q Q0) (h':Q0 e s):Q e s:=by rw[h.eq];exact h'
theorem de {p:Prop} [Decidable p]:((decide p=true)=p)∧((decide p=false)=¬p):=⟨decide_eq_true_eq,propext decide_eq_false_iff_not⟩
theorem qg {Q Q0:RExit→St→Prop} {e:RExit} {s:St} (h':Q0 e s) (h:IsQ Q Q0:=by assumption):Q e s:=h.go h'
theorem vOps_nil {st:St} {Q:St→Prop}:vOps P [] st Q=Q st:=(rfl)
theorem vOps_none {dst:Option Nat} {op:ROp} {r:List LOp} {st:St} {Q:St→Prop}:vOps P (⟨dst,none,op⟩ :: r) st Q=vOp P op st fun v H k=>vOps P r (St.put ⟨st.env,H,k⟩ dst v) Q:=(rfl)
theorem vOps_on {dst:Option Nat} {d:Nat} {b:Bool} {op:ROp} {r:List LOp} {st:St} {Q:St→Prop} (h:st.env.get d= .p (.c (.bool b))):vOps P (⟨dst,some (d,b),op⟩ :: r) st Q=vOp P op st fun v H k=>vOps P r (St.put ⟨st.env,H,k⟩ dst v) Q:=by
 simp[vOps,h]
theorem vOps_offt {dst:Option Nat} {d:Nat} {op:ROp} {r:List LOp} {st:St} {Q:St→Prop} (h:st.env.get d= .p (.c (.bool false))):vOps P (⟨dst,some (d,true),op⟩ :: r) st Q=vOps P r (st.put dst (.tup [])) Q:=by
 simp[vOps,h]
theorem vOps_offf {dst:Option Nat} {d:Nat} {op:ROp} {r:List LOp} {st:St} {Q:St→Prop} (h:st.env.get d= .p (.c (.bool true))):vOps P (⟨dst,some (d,false),op⟩ :: r) st Q=vOps P r (st.put dst (.tup [])) Q:=by
 simp[vOps,h]
theorem vOps_un {dst:Option Nat} {d:Nat} {b:Bool} {op:ROp} {r:List LOp} {st:St} {Q:St→Prop} (h:st.env.get d= .tup []):vOps P (⟨dst,some (d,b),op⟩ :: r) st Q=vOps P r (st.put dst (.tup [])) Q:=by
 simp[vOps,h]
theorem vD_un {dst:Option Nat} {d:Nat} {b:Bool} {op:ROp} {r:List LOp} {st:St} {Q:St→Prop} (h:st.env.get d= .tup []):vD P (⟨dst,some (d,b),op⟩ :: r) st Q=vD P r (st.put dst (.tup [])) Q:=by
 simp[vD,h]
theorem Zap {dst:Option Nat} {d:Nat} {b x:Bool} {op:ROp} {r:List LOp} {st:St} {Q:St→Prop} (_h:st.env.get d= .p (.c (.bool x))) (h1:x=true→vOps P (⟨dst,some (d,b),op⟩ :: r) st Q) (h2:x=false→vOps P (⟨dst,some (d,b),op⟩ :: r) st Q):vOps P (⟨dst,some (d,b),op⟩ :: r) st Q:=by
 cases x
 ·exact h2 rfl
 ·exact h1 rfl
theorem vD_nil {st:St} {Q:St→Prop}:vD P [] st Q=Q st:=(rfl)
theorem vD_none {dst:Option Nat} {op:ROp} {r:List LOp} {st:St} {Q:St→Prop}:vD P (⟨dst,none,op⟩ :: r) st Q=vDop P op st fun v H k=>vD P r (St.put ⟨st.env,H,k⟩ dst v) Q:=(rfl)
theorem vD_on {dst:Option Nat} {d:Nat} {b:Bool} {op:ROp} {r:List LOp} {st:St} {Q:St→Prop} (h:st.env.get d= .p (.c (.bool b))):vD P (⟨dst,some (d,b),op⟩ :: r) st Q=vDop P op st fun v H k=>vD P r (St.put ⟨st.env,H,k⟩ dst v) Q:=by
 simp[vD,h]
theorem vD_offt {dst:Option Nat} {d:Nat} {op:ROp} {r:List LOp} {st:St} {Q:St→Prop} (h:st.env.get d= .p (.c (.bool false))):vD P (⟨dst,some (d,true),op⟩ :: r) st Q=vD P r (st.put dst (.tup [])) Q:=by
 simp[vD,h]
theorem vD_offf {dst:Option Nat} {d:Nat} {op:ROp} {r:List LOp} {st:St} {Q:St→Prop} (h:st.env.get d= .p (.c (.bool true))):vD P (⟨dst,some (d,false),op⟩ :: r) st Q=vD P r (st.put dst (.tup [])) Q:=by
 simp[vD,h]
theorem ZaI {dst:Option Nat} {d:Nat} {b x:Bool} {op:ROp} {r:List LOp} {st:St} {Q:St→Prop} (_h:st.env.get d= .p (.c (.bool x))) (h1:x=true→vD P (⟨dst,some (d,b),op⟩ :: r) st Q) (h2:x=false→vD P (⟨dst,some (d,b),op⟩ :: r) st Q):vD P (⟨dst,some (d,b),op⟩ :: r) st Q:=by
 cases x
 ·exact h2 rfl
 ·exact h1 rfl
structure IsK (K K0:St→Prop):Prop where
 eq:K=K0
theorem IsK.go {K K0:St→Prop} {s:St} (h:IsK K K0) (h':K0 s):K s:=by rw[h.eq];exact h'
theorem kg {K K0:St→Prop} {s:St} (h:IsK K K0) (h':K0 s):K s:=h.go h'
theorem Zaf {nt:Nat} {ls:List LOp} {y:RCode} {Q:RExit→St→Prop} {st:St} (h:∀K,IsK K (fun s=>AWr P nt y Q s)→vOps P ls st K):AWr P nt (.seq (.region false ls) y) Q st :=
 aw_sr (h _ ⟨rfl⟩)
theorem ZaS {nt:Nat} {ls:List LOp} {y:RCode} {Q:RExit→St→Prop} {st:St} (h:∀K,IsK K (fun s=>AWr P nt y Q s)→vD P ls st K):AWr P nt (.seq (.region true ls) y) Q st :=
 aw_sd (h _ ⟨rfl⟩)
theorem Zah {nt:Nat} {x y:RCode} {Q:RExit→St→Prop} {st:St} (h:∀Q',IsQ Q' (fun e s=>match e with | .normal=>AWr P nt y Q s | e=>Q e s)→AWr P nt x Q' st):AWr P nt (.seq x y) Q st :=
 ZgA (h _ ⟨rfl⟩)
theorem Zai {nt:Nat} {id:Nat} {x:RCode} {Q:RExit→St→Prop} {st:St} (h:∀Q',IsQ Q' (fun e s=>match e with | .exit id'=>if id'=id then Q .normal s else Q (.exit id') s | e=>Q e s)→AWr P nt x Q' st):AWr P nt (.block id x) Q st :=
 aw_block (h _ ⟨rfl⟩)
theorem Zbb {nt:Nat} {rc:RCode} {Q:RExit→St→Prop} {st:St} {φ:Prop} (t:Nat) {x:PV} (he:st.env.get t= .p x) (hφ:∀fz v,PRep fz x v→φ) (h:φ→AWr P nt rc Q st):AWr P nt rc Q st:=by
 intro c hc g w a h1 h2 h3
 have:=h3.env t
 rw[he] at this
 exact h (hφ g.fz _ this) c hc g w a h1 h2 h3
theorem ZbU {fz:Nat→Option Obj} {rows:List (List PV)} {v:Value} (h:PRep fz (.sl rows) v):rows.length≤top:=by
 simp only[PRep] at h;exact h.1
theorem ZaB {α:Type} {l:List α} {i:Nat} {x:α} (h:l[i]? =some x):i<l.length:=(List.getElem?_eq_some_iff.1 h).1
end Go.Abs
namespace Go.Abs
open Go
variable {P:Program}
def Env.at3:Env→Nat→AV
 | [],_=> .junk
 | (k,x) :: E,n=>match Nat.beq k n with | true=>x | false=>Env.at3 E n
theorem Env.get3:∀(E:Env) (n:Nat),Env.get E n=Env.at3 E n:=by
 intro E n
 induction E with
 | nil=>rfl
 | cons a E ih =>
  obtain⟨k,x⟩:=a
  simp only[Env.get,Env.at3]
  by_cases h:k=n
  ·subst h;simp
  ·have:Nat.beq k n=false:=by simp only[←Bool.not_eq_true,Nat.beq_eq];exact h
   simp[h,this,ih]
def Heap.at3:Heap→Nat→Option AObj
 | [],_=>none
 | (k,x) :: E,n=>match Nat.beq k n with | true=>some x | false=>Heap.at3 E n
theorem Heap.get3:∀(E:Heap) (n:Nat),Heap.get E n=Heap.at3 E n:=by
 intro E n
 induction E with
 | nil=>rfl
 | cons a E ih =>
  obtain⟨k,x⟩:=a
  simp only[Heap.get,Heap.at3]
  by_cases h:k=n
  ·subst h;simp
  ·have:Nat.beq k n=false:=by simp only[←Bool.not_eq_true,Nat.beq_eq];exact h
   simp[h,this,ih]
def Heap.set3:Heap→Nat→AObj→Heap
 | [],_,_=> []
 | (k,o) :: H,n,x=>match Nat.beq k n with | true=>(k,x) :: H | false=>(k,o) :: Heap.set3 H n x
theorem Heap.put3:∀(E:Heap) (n:Nat) (x:AObj),Heap.set E n x=Heap.set3 E n x:=by
 intro E n y
 induction E with
 | nil=>rfl
 | cons a E ih =>
  obtain⟨k,x⟩:=a
  simp only[Heap.set,Heap.set3]
  by_cases h:k=n
  ·subst h;simp
  ·have:Nat.beq k n=false:=by simp only[←Bool.not_eq_true,Nat.beq_eq];exact h
   simp[h,this,ih]
def runK (r:Option (AV × Heap × Nat)) (K:AV→Heap→Nat→Prop):Prop:=match r with | some (v,H,k)=>K v H k | none=>False
theorem runK_some {v:AV} {H:Heap} {k:Nat} {K:AV→Heap→Nat→Prop}:runK (some (v,H,k)) K=K v H k:=(rfl)
def goK (r:Option AV) (H:Heap) (k:Nat) (K:AV→Heap→Nat→Prop):Prop:=match r with | some v=>K v H k | none=>False
theorem goK_some {v:AV} {H:Heap} {k:Nat} {K:AV→Heap→Nat→Prop}:goK (some v) H k K=K v H k:=(rfl)
def ibinA (op:BinOp) (q:IntKind):AV→AV→Option AV
 | .p (.c (.int q1 a)),.p (.c (.int q2 b))=>if q1=q∧q2=q then (ibinV op q a b).map fun v=> .p (.c v) else none
 | _,_=>none
theorem run_goK {r:Option AV} {st:St} {K:AV→Heap→Nat→Prop}:(match r.map (fun v=>(v,st.H,st.k)) with | some (v,H,k)=>K v H k | none=>False)=goK r st.H st.k K:=by
 cases r<;>rfl
theorem aop_ibin {op:BinOp} {q:IntKind} {x y:RX} {ev:RX→AV} {H:Heap} {k:Nat}:aop (.ibin op q x y) ev H k=(ibinA op q (ev x) (ev y)).map fun v=>(v,H,k):=by
 simp only[aop]
 generalize ev x=u
 generalize ev y=v
 unfold ibinA
 split
 ·rename_i q1 a q2 b
  split
  ·simp only[*,and_self,if_true]
   cases ibinV op q a b<;>rfl
  ·simp only[*,if_false];rfl
 ·rename_i h
  split
  ·exact (h _ _ _ _ rfl rfl).elim
  ·rfl
theorem vOp_mv {x:RX} {st:St} {K:AV→Heap→Nat→Prop}:vOp P (.mv x) st K=K (st.ev x) st.H st.k:=(rfl)
theorem vDop_mv {x:RX} {st:St} {K:AV→Heap→Nat→Prop}:vDop P (.mv x) st K=K (st.ev x) st.H st.k:=(rfl)
theorem vOp_ibin {op:BinOp} {q:IntKind} {x y:RX} {st:St} {K:AV→Heap→Nat→Prop}:vOp P (.ibin op q x y) st K=goK (ibinA op q (st.ev x) (st.ev y)) st.H st.k K:=by
 simp only[vOp,aop_ibin];exact run_goK
theorem vDop_ibin {op:BinOp} {q:IntKind} {x y:RX} {st:St} {K:AV→Heap→Nat→Prop}:vDop P (.ibin op q x y) st K=goK (ibinA op q (st.ev x) (st.ev y)) st.H st.k K:=by
 simp only[vDop,aop_ibin];exact run_goK
theorem vOp_pick (c a b:RX) {st:St} {K:AV→Heap→Nat→Prop}:vOp P (.pick c a b) st K=runK (aop (.pick c a b) st.ev st.H st.k) K:=(rfl)
theorem vDop_pick (c a b:RX) {st:St} {K:AV→Heap→Nat→Prop}:vDop P (.pick c a b) st K=runK (aop (.pick c a b) st.ev st.H st.k) K:=(rfl)
theorem vOp_shift (op:BinOp) (q:IntKind) (x y:RX) {st:St} {K:AV→Heap→Nat→Prop}:vOp P (.shift op q x y) st K=runK (aop (.shift op q x y) st.ev st.H st.k) K:=(rfl)
theorem vDop_shift (op:BinOp) (q:IntKind) (x y:RX) {st:St} {K:AV→Heap→Nat→Prop}:vDop P (.shift op q x y) st K=runK (aop (.shift op q x y) st.ev st.H st.k) K:=(rfl)
theorem vOp_sbin (op:BinOp) (x y:RX) {st:St} {K:AV→Heap→Nat→Prop}:vOp P (.sbin op x y) st K=runK (aop (.sbin op x y) st.ev st.H st.k) K:=(rfl)
theorem vDop_sbin (op:BinOp) (x y:RX) {st:St} {K:AV→Heap→Nat→Prop}:vDop P (.sbin op x y) st K=runK (aop (.sbin op x y) st.ev st.H st.k) K:=(rfl)
theorem vOp_bbin (n:Bool) (x y:RX) {st:St} {K:AV→Heap→Nat→Prop}:vOp P (.bbin n x y) st K=runK (aop (.bbin n x y) st.ev st.H st.k) K:=(rfl)
theorem vDop_bbin (n:Bool) (x y:RX) {st:St} {K:AV→Heap→Nat→Prop}:vDop P (.bbin n x y) st K=runK (aop (.bbin n x y) st.ev st.H st.k) K:=(rfl)
theorem vOp_eqv (n:Bool) (ks:List FK) (x y:RX) {st:St} {K:AV→Heap→Nat→Prop}:vOp P (.eqv n ks x y) st K=runK (aop (.eqv n ks x y) st.ev st.H st.k) K:=(rfl)
theorem vDop_eqv (n:Bool) (ks:List FK) (x y:RX) {st:St} {K:AV→Heap→Nat→Prop}:vDop P (.eqv n ks x y) st K=runK (aop (.eqv n ks x y) st.ev st.H st.k) K:=(rfl)
theorem vOp_not (x:RX) {st:St} {K:AV→Heap→Nat→Prop}:vOp P (.not x) st K=runK (aop (.not x) st.ev st.H st.k) K:=(rfl)
theorem vDop_not (x:RX) {st:St} {K:AV→Heap→Nat→Prop}:vDop P (.not x) st K=runK (aop (.not x) st.ev st.H st.k) K:=(rfl)
theorem vOp_neg (q:IntKind) (x:RX) {st:St} {K:AV→Heap→Nat→Prop}:vOp P (.neg q x) st K=runK (aop (.neg q x) st.ev st.H st.k) K:=(rfl)
theorem vDop_neg (q:IntKind) (x:RX) {st:St} {K:AV→Heap→Nat→Prop}:vDop P (.neg q x) st K=runK (aop (.neg q x) st.ev st.H st.k) K:=(rfl)
theorem vOp_conv (q:IntKind) (x:RX) {st:St} {K:AV→Heap→Nat→Prop}:vOp P (.conv q x) st K=runK (aop (.conv q x) st.ev st.H st.k) K:=(rfl)
theorem vDop_conv (q:IntKind) (x:RX) {st:St} {K:AV→Heap→Nat→Prop}:vDop P (.conv q x) st K=runK (aop (.conv q x) st.ev st.H st.k) K:=(rfl)
theorem vOp_scv (x:RX) {st:St} {K:AV→Heap→Nat→Prop}:vOp P (.scv x) st K=runK (aop (.scv x) st.ev st.H st.k) K:=(rfl)
theorem vDop_scv (x:RX) {st:St} {K:AV→Heap→Nat→Prop}:vDop P (.scv x) st K=runK (aop (.scv x) st.ev st.H st.k) K:=(rfl)
theorem vOp_load (n:Nat) (g:Bool) (a:RX) {st:St} {K:AV→Heap→Nat→Prop}:vOp P (.load n g a) st K=runK (aop (.load n g a) st.ev st.H st.k) K:=(rfl)
theorem vDop_load (n:Nat) (g:Bool) (a:RX) {st:St} {K:AV→Heap→Nat→Prop}:vDop P (.load n g a) st K=runK (aop (.load n g a) st.ev st.H st.k) K:=(rfl)
theorem vOp_store (n:Nat) (a v:RX) {st:St} {K:AV→Heap→Nat→Prop}:vOp P (.store n a v) st K=runK (aop (.store n a v) st.ev st.H st.k) K:=(rfl)
theorem vDop_store (n:Nat) (a v:RX) {st:St} {K:AV→Heap→Nat→Prop}:vDop P (.store n a v) st K=runK (aop (.store n a v) st.ev st.H st.k) K:=(rfl)
theorem vOp_faddr (o:Nat) (x:RX) {st:St} {K:AV→Heap→Nat→Prop}:vOp P (.faddr o x) st K=runK (aop (.faddr o x) st.ev st.H st.k) K:=(rfl)
theorem vDop_faddr (o:Nat) (x:RX) {st:St} {K:AV→Heap→Nat→Prop}:vDop P (.faddr o x) st K=runK (aop (.faddr o x) st.ev st.H st.k) K:=(rfl)
theorem vOp_fld (o n:Nat) (g:Bool) (x:RX) {st:St} {K:AV→Heap→Nat→Prop}:vOp P (.fld o n g x) st K=runK (aop (.fld o n g x) st.ev st.H st.k) K:=(rfl)
theorem vDop_fld (o n:Nat) (g:Bool) (x:RX) {st:St} {K:AV→Heap→Nat→Prop}:vDop P (.fld o n g x) st K=runK (aop (.fld o n g x) st.ev st.H st.k) K:=(rfl)
theorem vOp_iaddr (w:Nat) (x i:RX) {st:St} {K:AV→Heap→Nat→Prop}:vOp P (.iaddr w x i) st K=runK (aop (.iaddr w x i) st.ev st.H st.k) K:=(rfl)
theorem vDop_iaddr (w:Nat) (x i:RX) {st:St} {K:AV→Heap→Nat→Prop}:vDop P (.iaddr w x i) st K=runK (aop (.iaddr w x i) st.ev st.H st.k) K:=(rfl)
theorem vOp_aaddr (l w:Nat) (x i:RX) {st:St} {K:AV→Heap→Nat→Prop}:vOp P (.aaddr l w x i) st K=runK (aop (.aaddr l w x i) st.ev st.H st.k) K:=(rfl)
theorem vDop_aaddr (l w:Nat) (x i:RX) {st:St} {K:AV→Heap→Nat→Prop}:vDop P (.aaddr l w x i) st K=runK (aop (.aaddr l w x i) st.ev st.H st.k) K:=(rfl)
theorem vOp_sidx (x i:RX) {st:St} {K:AV→Heap→Nat→Prop}:vOp P (.sidx x i) st K=runK (aop (.sidx x i) st.ev st.H st.k) K:=(rfl)
theorem vDop_sidx (x i:RX) {st:St} {K:AV→Heap→Nat→Prop}:vDop P (.sidx x i) st K=runK (aop (.sidx x i) st.ev st.H st.k) K:=(rfl)
theorem vOp_ssl (x:RX) (lo hi:Option RX) {st:St} {K:AV→Heap→Nat→Prop}:vOp P (.ssl x lo hi) st K=runK (aop (.ssl x lo hi) st.ev st.H st.k) K:=(rfl)
theorem vDop_ssl (x:RX) (lo hi:Option RX) {st:St} {K:AV→Heap→Nat→Prop}:vDop P (.ssl x lo hi) st K=runK (aop (.ssl x lo hi) st.ev st.H st.k) K:=(rfl)
theorem vOp_lsl (w:Nat) (x:RX) (lo hi:Option RX) {st:St} {K:AV→Heap→Nat→Prop}:vOp P (.lsl w x lo hi) st K=runK (aop (.lsl w x lo hi) st.ev st.H st.k) K:=(rfl)
theorem vDop_lsl (w:Nat) (x:RX) (lo hi:Option RX) {st:St} {K:AV→Heap→Nat→Prop}:vDop P (.lsl w x lo hi) st K=runK (aop (.lsl w x lo hi) st.ev st.H st.k) K:=(rfl)
theorem vOp_alloc (z:List PV) {st:St} {K:AV→Heap→Nat→Prop}:vOp P (.alloc z) st K=runK (aop (.alloc z) st.ev st.H st.k) K:=(rfl)
theorem vDop_alloc (z:List PV) {st:St} {K:AV→Heap→Nat→Prop}:vDop P (.alloc z) st K=runK (aop (.alloc z) st.ev st.H st.k) K:=(rfl)
theorem vOp_box (n:Nat) (v:RX) {st:St} {K:AV→Heap→Nat→Prop}:vOp P (.box n v) st K=runK (aop (.box n v) st.ev st.H st.k) K:=(rfl)
theorem vDop_box (n:Nat) (v:RX) {st:St} {K:AV→Heap→Nat→Prop}:vDop P (.box n v) st K=runK (aop (.box n v) st.ev st.H st.k) K:=(rfl)
theorem vOp_build (z:List PV) (ps:List (Nat × Nat × RX)) {st:St} {K:AV→Heap→Nat→Prop}:vOp P (.build z ps) st K=runK (aop (.build z ps) st.ev st.H st.k) K:=(rfl)
theorem vDop_build (z:List PV) (ps:List (Nat × Nat × RX)) {st:St} {K:AV→Heap→Nat→Prop}:vDop P (.build z ps) st K=runK (aop (.build z ps) st.ev st.H st.k) K:=(rfl)
theorem vOp_bslice (w:Nat) (z:List PV) (l:Nat) (ps:List (Nat × RX)) {st:St} {K:AV→Heap→Nat→Prop}:vOp P (.bslice w z l ps) st K=runK (aop (.bslice w z l ps) st.ev st.H st.k) K:=(rfl)
theorem vDop_bslice (w:Nat) (z:List PV) (l:Nat) (ps:List (Nat × RX)) {st:St} {K:AV→Heap→Nat→Prop}:vDop P (.bslice w z l ps) st K=runK (aop (.bslice w z l ps) st.ev st.H st.k) K:=(rfl)
theorem vOp_mslice (w b:Nat) (z:List PV) (l c:RX) {st:St} {K:AV→Heap→Nat→Prop}:vOp P (.mslice w b z l c) st K=runK (aop (.mslice w b z l c) st.ev st.H st.k) K:=(rfl)
theorem vDop_mslice (w b:Nat) (z:List PV) (l c:RX) {st:St} {K:AV→Heap→Nat→Prop}:vDop P (.mslice w b z l c) st K=runK (aop (.mslice w b z l c) st.ev st.H st.k) K:=(rfl)
theorem vOp_mmap {st:St} {K:AV→Heap→Nat→Prop}:vOp P (.mmap) st K=runK (aop (.mmap) st.ev st.H st.k) K:=(rfl)
theorem vDop_mmap {st:St} {K:AV→Heap→Nat→Prop}:vDop P (.mmap) st K=runK (aop (.mmap) st.ev st.H st.k) K:=(rfl)
theorem vOp_look (q:KQ) (z:PV) (ok:Bool) (m k:RX) {st:St} {K:AV→Heap→Nat→Prop}:vOp P (.look q z ok m k) st K=runK (aop (.look q z ok m k) st.ev st.H st.k) K:=(rfl)
theorem vDop_look (q:KQ) (z:PV) (ok:Bool) (m k:RX) {st:St} {K:AV→Heap→Nat→Prop}:vDop P (.look q z ok m k) st K=runK (aop (.look q z ok m k) st.ev st.H st.k) K:=(rfl)
theorem vOp_mupd (q:KQ) (m k v:RX) {st:St} {K:AV→Heap→Nat→Prop}:vOp P (.mupd q m k v) st K=runK (aop (.mupd q m k v) st.ev st.H st.k) K:=(rfl)
theorem vDop_mupd (q:KQ) (m k v:RX) {st:St} {K:AV→Heap→Nat→Prop}:vDop P (.mupd q m k v) st K=runK (aop (.mupd q m k v) st.ev st.H st.k) K:=(rfl)
theorem vOp_mlen (m:RX) {st:St} {K:AV→Heap→Nat→Prop}:vOp P (.mlen m) st K=runK (aop (.mlen m) st.ev st.H st.k) K:=(rfl)
theorem vDop_mlen (m:RX) {st:St} {K:AV→Heap→Nat→Prop}:vDop P (.mlen m) st K=runK (aop (.mlen m) st.ev st.H st.k) K:=(rfl)
theorem vOp_app (w b:Nat) (z:List PV) (s x:RX) {st:St} {K:AV→Heap→Nat→Prop}:vOp P (.app w b z s x) st K=runK (aop (.app w b z s x) st.ev st.H st.k) K:=(rfl)
theorem vDop_app (w b:Nat) (z:List PV) (s x:RX) {st:St} {K:AV→Heap→Nat→Prop}:vDop P (.app w b z s x) st K=runK (aop (.app w b z s x) st.ev st.H st.k) K:=(rfl)
theorem vOp_len (x:RX) {st:St} {K:AV→Heap→Nat→Prop}:vOp P (.len x) st K=runK (aop (.len x) st.ev st.H st.k) K:=(rfl)
theorem vDop_len (x:RX) {st:St} {K:AV→Heap→Nat→Prop}:vDop P (.len x) st K=runK (aop (.len x) st.ev st.H st.k) K:=(rfl)
theorem vOp_slen (x:RX) {st:St} {K:AV→Heap→Nat→Prop}:vOp P (.slen x) st K=runK (aop (.slen x) st.ev st.H st.k) K:=(rfl)
theorem vDop_slen (x:RX) {st:St} {K:AV→Heap→Nat→Prop}:vDop P (.slen x) st K=runK (aop (.slen x) st.ev st.H st.k) K:=(rfl)
theorem vOp_min (l:List RX) {st:St} {K:AV→Heap→Nat→Prop}:vOp P (.min l) st K=runK (aop (.min l) st.ev st.H st.k) K:=(rfl)
theorem vDop_min (l:List RX) {st:St} {K:AV→Heap→Nat→Prop}:vDop P (.min l) st K=runK (aop (.min l) st.ev st.H st.k) K:=(rfl)
theorem vOp_max (l:List RX) {st:St} {K:AV→Heap→Nat→Prop}:vOp P (.max l) st K=runK (aop (.max l) st.ev st.H st.k) K:=(rfl)
theorem vDop_max (l:List RX) {st:St} {K:AV→Heap→Nat→Prop}:vDop P (.max l) st K=runK (aop (.max l) st.ev st.H st.k) K:=(rfl)
theorem vOp_ext (i:Nat) (x:RX) {st:St} {K:AV→Heap→Nat→Prop}:vOp P (.ext i x) st K=runK (aop (.ext i x) st.ev st.H st.k) K:=(rfl)
theorem vDop_ext (i:Nat) (x:RX) {st:St} {K:AV→Heap→Nat→Prop}:vDop P (.ext i x) st K=runK (aop (.ext i x) st.ev st.H st.k) K:=(rfl)
theorem vOp_mkf (f:Fn) (a b:List RX) {st:St} {K:AV→Heap→Nat→Prop}:vOp P (.mkf f a b) st K=runK (aop (.mkf f a b) st.ev st.H st.k) K:=(rfl)
theorem vDop_mkf (f:Fn) (a b:List RX) {st:St} {K:AV→Heap→Nat→Prop}:vDop P (.mkf f a b) st K=runK (aop (.mkf f a b) st.ev st.H st.k) K:=(rfl)
theorem vOp_nilck (x:RX) {st:St} {K:AV→Heap→Nat→Prop}:vOp P (.nilck x) st K=runK (aop (.nilck x) st.ev st.H st.k) K:=(rfl)
theorem vOp_snil (n:Bool) (x:RX) {st:St} {K:AV→Heap→Nat→Prop}:vOp P (.snil n x) st K=(match rowsOf st.H (st.ev x) with | some rows=>∀b,(rows≠ []→b=false)→K (.p (.c (.bool (b != n)))) st.H st.k | none=>False):=(rfl)
theorem vDop_nilck (x:RX) {st:St} {K:AV→Heap→Nat→Prop}:vDop P (.nilck x) st K=runK (aop (.nilck x) st.ev st.H st.k) K:=(rfl)
theorem vOp_callx {f:FuncId} {args:List RX} {st:St} {K:AV→Heap→Nat→Prop}:vOp P (.call f args) st K=ACalls P f (args.map st.ev) st.H st.k K:=(rfl)
theorem vDop_callx {f:FuncId} {args:List RX} {st:St} {K:AV→Heap→Nat→Prop}:vDop P (.call f args) st K=(∃v,ACalls P f (args.map st.ev) st.H st.k (fun v' H' k'=>v'=v∧H'=st.H∧k'=st.k)∧K v st.H st.k):=(rfl)
def callV (P:Program) (x:AV) (args:List AV) (H:Heap) (k:Nat) (K:AV→Heap→Nat→Prop):Prop:=match x with
 | .fn (.func f) first cap=>enters P f=true∧ACalls P f (first++args++cap) H k K
 | _=>False
theorem callV_fn {f:FuncId} {first cap args:List AV} {H:Heap} {k:Nat} {K:AV→Heap→Nat→Prop}:callV P (.fn (.func f) first cap) args H k K=(enters P f=true∧ACalls P f (first++args++cap) H k K):=(rfl)
theorem vOp_callv {x:RX} {args:List RX} {st:St} {K:AV→Heap→Nat→Prop}:vOp P (.callv x args) st K=callV P (st.ev x) (args.map st.ev) st.H st.k K:=(rfl)
section
variable {q:IntKind} {a b:Int}
theorem ibinA_add:ibinA .add q (.p (.c (.int q a))) (.p (.c (.int q b)))=some (.p (.c (.int q (q.wrap (a+b))))):=by simp[ibinA,ibinV]
theorem ibinA_sub:ibinA .sub q (.p (.c (.int q a))) (.p (.c (.int q b)))=some (.p (.c (.int q (q.wrap (a - b))))):=by simp[ibinA,ibinV]
theorem ibinA_mul:ibinA .mul q (.p (.c (.int q a))) (.p (.c (.int q b)))=some (.p (.c (.int q (q.wrap (a*b))))):=by simp[ibinA,ibinV]
theorem ibinA_quo (h:b≠0):ibinA .quo q (.p (.c (.int q a))) (.p (.c (.int q b)))=some (.p (.c (.int q (q.wrap (a.tdiv b))))):=by simp[ibinA,ibinV,h]
theorem ibinA_rem (h:b≠0):ibinA .rem q (.p (.c (.int q a))) (.p (.c (.int q b)))=some (.p (.c (.int q (a.tmod b)))):=by simp[ibinA,ibinV,h]
theorem ibinA_eql:ibinA .eql q (.p (.c (.int q a))) (.p (.c (.int q b)))=some (.p (.c (.bool (a == b)))):=by simp[ibinA,ibinV]
theorem ibinA_neq:ibinA .neq q (.p (.c (.int q a))) (.p (.c (.int q b)))=some (.p (.c (.bool (a != b)))):=by simp[ibinA,ibinV]
theorem ibinA_lss:ibinA .lss q (.p (.c (.int q a))) (.p (.c (.int q b)))=some (.p (.c (.bool (decide (a<b))))):=by simp[ibinA,ibinV]
theorem ibinA_leq:ibinA .leq q (.p (.c (.int q a))) (.p (.c (.int q b)))=some (.p (.c (.bool (decide (a≤b))))):=by simp[ibinA,ibinV]
theorem ibinA_gtr:ibinA .gtr q (.p (.c (.int q a))) (.p (.c (.int q b)))=some (.p (.c (.bool (decide (a>b))))):=by simp[ibinA,ibinV]
theorem ibinA_geq:ibinA .geq q (.p (.c (.int q a))) (.p (.c (.int q b)))=some (.p (.c (.bool (decide (a≥b))))):=by simp[ibinA,ibinV]
end
theorem E0:type_of% (And.intro @eq_self.{1} (And.intro @if_true.{1} (And.intro @if_false.{1} (And.intro @ite_true.{1} (And.intro @ite_false.{1} (And.intro @Nat.one_ne_zero (And.intro @Nat.zero_ne_one (And.intro @Nat.add_one_ne_zero (@Nat.succ_ne_self))))))))):=And.intro @eq_self.{1} (And.intro @if_true.{1} (And.intro @if_false.{1} (And.intro @ite_true.{1} (And.intro @ite_false.{1} (And.intro @Nat.one_ne_zero (And.intro @Nat.zero_ne_one (And.intro @Nat.add_one_ne_zero (@Nat.succ_ne_self))))))))
theorem keyOk_one (q:FK) (x:Value):keyOk (.one q) (.c x)=true:=rfl
theorem keyOk_many (qs:List FK) (as:List PV):keyOk (.many qs) (.agg as)=(as.length == qs.length):=rfl
attribute [go_sem] keyOk_one keyOk_many vOps_nil vOps_offf vD_none vOp_mv goK_some ibinA_quo ibinA_lss vOp_pick vOp_sbin vOp_eqv vOp_neg vOp_scv vOp_store vOp_fld vOp_aaddr vOp_ssl vOp_alloc vOp_build vOp_mslice vOp_look vOp_mlen vOp_len vOp_min vOp_ext vOp_nilck vOp_snil vOp_callv Heap.get3 vOps_none vOps_un vD_on vDop_mv ibinA_add ibinA_rem ibinA_leq vDop_pick vDop_sbin vDop_eqv vDop_neg vDop_scv vDop_store vDop_fld vDop_aaddr vDop_ssl vDop_alloc vDop_build vDop_mslice vDop_look vDop_mlen vDop_len vDop_min vDop_ext vDop_nilck callV_fn Heap.put3 vOps_on vD_un vD_offt vOp_ibin ibinA_sub ibinA_eql ibinA_gtr vOp_shift vOp_bbin vOp_not vOp_conv vOp_load vOp_faddr vOp_iaddr vOp_sidx vOp_lsl vOp_box vOp_bslice vOp_mmap vOp_mupd vOp_app vOp_slen vOp_max vOp_mkf vOp_callx runK_some vOps_offt vD_nil vD_offf vDop_ibin ibinA_mul ibinA_neq ibinA_geq vDop_shift vDop_bbin vDop_not vDop_conv vDop_load vDop_faddr vDop_iaddr vDop_sidx vDop_lsl vDop_box vDop_bslice vDop_mmap vDop_mupd vDop_app vDop_slen vDop_max vDop_mkf vDop_callx Env.get3 List.cons_append List.nil_append List.getElem?_cons_zero List.getElem?_cons_succ Option.bind_eq_bind Option.pure_def Option.getD_some Option.getD_none Option.isSome_some Option.isSome_none List.set_cons_zero List.set_cons_succ List.concat_eq_append List.drop_succ_cons List.drop_zero List.take_succ_cons List.take_zero List.take_nil List.drop_nil List.length_cons List.length_nil List.all_cons List.all_nil List.length_append List.append_nil List.length_replicate List.forall_mem_cons List.not_mem_nil aop St.ev St.put Env.at3 ZaG Heap.at3 Heap.set3 Heap.del List.map List.all List.take List.drop List.length List.append List.mapM_cons List.mapM_nil Option.bind_some Option.bind_none ibinV sbinV flatEq cellsEq mfind mput cut cutP AV.cells AV.ofCells allP PV.single flat live AV.shift aint aint64 bnd rowsOf fillA fillRows Option.map_some Option.map_none Option.bind Bool.and_true Bool.true_and Bool.and_self Bool.and_false Bool.false_and reduceCtorEq Bool.not_true Bool.not_false ne_eq not_true_eq_false not_false_eq_true forall_const and_true true_and and_self Bool.true_eq_false Bool.false_eq_true ite_true ite_false if_true if_false Nat.reduceAdd Nat.reduceLeDiff Nat.reduceEqDiff Nat.reduceMul Nat.reduceSub Int.reduceEq Int.reduceNe Nat.reduceLT Nat.zero_add Nat.add_zero Nat.succ_ne_zero Nat.le_refl Nat.zero_le Int.toNat_zero Int.toNat_natCast Int.natCast_nonneg Int.le_refl List.replicate List.set List.map_cons List.map_nil List.foldl_cons List.foldl_nil List.length_map beq_self_eq_true implies_true AV.p.injEq false_implies frzNL frzN frzL AV.frz Heap.frz AObj.frz isShut FinP FinZ resv res1 ZaH ZaC nzA nzP nzPs nzPss Nat.succ_ne_self eq_self Nat.one_ne_zero Nat.zero_ne_one Nat.add_one_ne_zero
end Go.Abs
namespace Go.Abs
open Go Go.ChangeShapes Go.WideShapes
section
variable {H:Type} {enc:TypeId × Value→H} {P:Program} {W:World}
def ShpAll (R:TypeId→List PV→Prop):List TypeId→List PV→Prop
 | [],pv=>pv= []
 | t :: ts,pv=>∃a b,pv=a++b∧R t a∧ShpAll R ts b
def Shp (P:Program):Nat→TypeId→List PV→Prop
 | 0,_,_=>False
 | n+1,t,pv=>match P.underlying t with
  | some .bool=>∃b,pv= [vb b]
  | some (.int k)=>∃z,(Lit.int k z).wf=true∧pv= [.c (.int k z)]
  | some .string=>∃s:ByteArray,s.size≤maxLen∧pv= [vs s]
  | some (.slice e)=>∃rows,pv= [.sl rows]∧rows.length≤top∧∀r∈rows,Shp P n e r
  | some (.struct fs)=>ShpAll (Shp P n) (fs.toList.map (·.type)) pv
  | _=>False
def plainB (P:Program) (L:List TypeId):Bool:=L.all fun t=>decide (t<P.types.size) && match P.underlying t with
 | some .bool | some (.int _) | some .string=>true
 | some (.slice e)=>L.contains e && decide (0<P.cellsOf e)
 | some (.struct fs)=>fs.toList.all fun f=>L.contains f.type
 | _=>false
def ofW (W:World):Nat→Option Obj:=fun b=>W.heap[b]?
theorem cell_heap {a:Addr} {v:Value} (h:W.cell? a=some v):∃c t fr,W.heap[a.block]? =some (.cells c t fr)∧a.spot=none∧c[a.off]? =some v:=by
 unfold World.cell? at h
 split at h
 ·rename_i c t fr hb
  cases hs:a.spot with
  | none=>rw[hs] at h;exact⟨c,t,fr,hb,rfl,by simpa using h⟩
  | some s=>rw[hs] at h;simp at h
 ·cases h
theorem Zga {α β:Type} {f:α→Option β}:∀ {l:List α} {r:List β},l.mapM f=some r→r.length=l.length∧∀(i:Nat) (x:α),l[i]? =some x→∃y,r[i]? =some y∧f x=some y
 | [],r,h=>by simp at h;subst h;simp
 | a :: l,r,h=>by
  rw[List.mapM_cons] at h
  simp only[Option.bind_eq_bind,Option.bind_eq_some_iff,Option.pure_def,Option.some.injEq] at h
  obtain⟨y,h1,ys,h2,rfl⟩:=h
  obtain⟨h3,h4⟩:=Zga h2
  refine⟨by simp[h3],fun i x hx=>?_⟩
  cases i with
  | zero=>simp at hx;subst hx;exact⟨y,rfl,h1⟩
  | succ i=>exact h4 i x (by simpa using hx)
theorem cells_heap {base:Nat} {a:Addr} {n:Nat} {cs:List Value} (h:W.cells? base a n=some cs) (hn:0<n) :
  ∃c t fr,W.heap[a.block]? =some (.cells c t fr)∧a.spot=none∧cs.length=n∧CellsAt c a.off cs:=by
 unfold World.cells? at h
 split at h
 ·obtain⟨hl,hg⟩:=Zga h
  obtain⟨y,_,h0⟩:=hg 0 0 (by simp[hn])
  obtain⟨c,t,fr,hb,hs,_⟩:=cell_heap h0
  simp only[Addr.add,if_true] at hb hs
  refine⟨c,t,fr,hb,hs,by simpa using hl,fun j x hj=>?_⟩
  have hjl:j<n:=by
   have:=(List.getElem?_eq_some_iff.1 hj).1
   simp at hl;omega
  obtain⟨y,hy,hc⟩:=hg j j (by simp[hjl])
  rw[hj] at hy;cases hy
  obtain⟨c',t',fr',hb',_,hv⟩:=cell_heap hc
  have e1:(a.add j).block=a.block:=by unfold Addr.add;split<;>rfl
  have e2:(a.add j).off=a.off+j:=by unfold Addr.add;split<;>simp_all
  rw[e1,hb] at hb'
  cases hb'
  rw[e2] at hv
  exact hv
 ·cases h
theorem rows_shp {sz:Nat} (hsz:0<sz) {a:Addr} {rd:List Value→Option (DataW H × List MemPlace)} {R:List PV→Prop} (hrd:∀cs x,rd cs=some x→∃pv,PRepL (ofW W) pv cs∧R pv) :
    ∀(n i0:Nat),(∀i,i<n→∃x,(W.cells? 0 (a.add ((i0+i)*sz)) sz).bind rd=some x) →
      ∃rows vals,PRepLL (ofW W) rows vals∧rows.length=n∧(∀r∈rows,R r)∧(0<n→∃c t fr,W.heap[a.block]? =some (.cells c t fr)∧(i0=0→a.spot=none)∧RowsAt c (a.off+i0*sz) sz vals)
  | 0,i0,_=>⟨[],[],by simp[PRepLL],rfl,by simp,fun h=>by omega⟩
  | n+1,i0,h=>by
    obtain⟨x,hx0⟩:=h 0 (by omega)
    simp only[Nat.add_zero,Option.bind_eq_some_iff] at hx0
    obtain⟨cs,hc,hx⟩:=hx0
    obtain⟨pv,p1,p2⟩:=hrd cs x hx
    obtain⟨rows,vals,q1,q2,q3,q4⟩:=rows_shp hsz hrd n (i0+1) (fun i hi=>by
      have:=h (i+1) (by omega)
      rwa [show i0+(i+1)=i0+1+i by omega] at this)
    obtain⟨c,t,fr,hb,hs,hl,hat⟩:=cells_heap hc hsz
    have e1:(a.add (i0*sz)).block=a.block:=by unfold Addr.add;split<;>rfl
    have e2:(a.add (i0*sz)).off=a.off+i0*sz:=by
      unfold Addr.add
      split
      · rename_i h0;rw[h0];rfl
      · rfl
    rw[e1] at hb
    rw[e2] at hat
    refine⟨pv :: rows,cs :: vals,?_,by simp[q2],?_,fun _=>⟨c,t,fr,hb,fun h0=>?_,?_⟩⟩
    · simp only[PRepLL];exact⟨cs,vals,rfl,p1,q1⟩
    · intro r hr
      cases hr with
      | head=>exact p2
      | tail _ hr=>exact q3 r hr
    · subst h0
      simpa [Addr.add] using hs
    · intro i r hr
      cases i with
      | zero =>
        simp at hr;subst hr
        exact⟨hl,fun j x hj=>by simpa using hat j x hj⟩
      | succ i =>
        have hr':vals[i]? =some r:=by simpa using hr
        have hpos:0<n:=by
          have:=(List.getElem?_eq_some_iff.1 hr').1
          have:=q1.length
          omega
        obtain⟨c',t',fr',hb',_,hat'⟩:=q4 hpos
        rw[hb] at hb';cases hb'
        have:=hat' i r hr'
        rw[show a.off+i0*sz+(i+1)*sz=a.off+(i0+1)*sz+i*sz by rw[Nat.add_mul,Nat.add_mul];omega]
        exact this
theorem fields_shp {rd:TypeId→List Value→Option (DataW H × List MemPlace)} {R:TypeId→List PV→Prop} {cs:List Value}:∀(fs:List Field) (base:Nat),
    (∀f∈fs,∀cs x,rd f.type cs=some x→∃pv,PRepL (ofW W) pv cs∧R f.type pv) →
    (∀(j:Nat) f,fs[j]? =some f→f.offset=base+((fs.take j).map fun f=>P.cellsOf f.type).sum) →
    (∀f∈fs,∃x,rd f.type ((cs.drop f.offset).take (P.cellsOf f.type))=some x)→base+(fs.map fun f=>P.cellsOf f.type).sum=cs.length →
    ∃pv,PRepL (ofW W) pv (cs.drop base)∧ShpAll R (fs.map (·.type)) pv
  | [],base,_,_,_,hl=>⟨[],by
      have:cs.drop base= []:=List.drop_eq_nil_of_le (by simp at hl;omega)
      rw[this];simp[PRepL],rfl⟩
  | f :: fs,base,hr,ho,h,hl=>by
    obtain⟨x,h1⟩:=h f (by simp)
    have h2:=fun g (hg:g∈fs)=>h g (List.mem_cons_of_mem _ hg)
    have ho0:f.offset=base:=by simpa using ho 0 f rfl
    obtain⟨pv,p1,p2⟩:=hr f (by simp) _ _ h1
    obtain⟨pv',q1,q2⟩:=fields_shp fs (base+P.cellsOf f.type) (fun g hg=>hr g (List.mem_cons_of_mem _ hg)) (fun j g hg=>by
      have:=ho (j+1) g (by simpa using hg)
      simp only[List.take_succ_cons,List.map_cons,List.sum_cons] at this
      omega) h2 (by simp only[List.map_cons,List.sum_cons] at hl;omega)
    refine⟨pv++pv',?_,pv,pv',rfl,p2,q2⟩
    rw[ho0] at p1
    have e:cs.drop base=(cs.drop base).take (P.cellsOf f.type)++cs.drop (base+P.cellsOf f.type):=by
      rw[←List.drop_drop,List.take_append_drop]
    rw[e]
    exact p1.append q1
theorem read_shp (K:Kids P (· <P.types.size)) {L:List TypeId} (hL:plainB P L=true) {sp:Nat→Bool} (hsp:∀b,sp b=true) {held:Bool}:∀(n:Nat) (t:TypeId) (cs:List Value) (x:DataW H × List MemPlace),t∈L →
    DataW.trod enc P W 0 sp held n t cs=some x→∃pv,PRepL (ofW W) pv cs∧Shp P n t pv
  | 0,_,_,_,_,h=>by simp[DataW.trod] at h
  | n+1,t,cs,x,ht,h=>by
    have hp:=List.all_eq_true.1 hL t ht
    simp only[Bool.and_eq_true,decide_eq_true_eq] at hp
    obtain⟨hlt,hp⟩:=hp
    have ih:=read_shp K hL hsp (held:=held) n
    simp only[Shp]
    split at hp
    · rename_i hu
      obtain⟨b,rfl,_⟩:=DataW.trod_bool hu h
      exact⟨[vb b],by simp[PRepL,PRep],b,rfl⟩
    · rename_i k hu
      obtain⟨z,rfl,_,hw⟩:=DataW.trod_int hu h
      exact⟨[.c (.int k z)],by simp[PRepL,PRep],z,hw,rfl⟩
    · rename_i hu
      obtain⟨s,rfl,_,hs⟩:=DataW.trod_string hu h
      exact⟨[vs s],by simp[PRepL,PRep],s,hs,rfl⟩
    · rename_i e hu
      simp only[Bool.and_eq_true,List.contains_eq_mem,decide_eq_true_eq] at hp
      obtain⟨he,hsz⟩:=hp
      rcases DataW.trod_slice hu h with ⟨rfl,_⟩ | ⟨a,len,cap,elems,rest,m,hm,rfl,_,_,hlc,hcm,hel,hels,hrest⟩
      · exact⟨[.sl []],by simp[PRepL,PRep,top],[],rfl,by simp[top],by simp⟩
      · cases hm
        obtain⟨rows,vals,q1,q2,q3,q4⟩:=rows_shp (R:=Shp P n e) hsz (fun cs x hx=>ih e cs x he hx) len 0 (fun i hi=>by
          rw[Nat.zero_add,hels i hi]
          exact⟨elems[i]'(by omega),by simp[hel,hi]⟩)
        refine⟨[.sl rows],?_,rows,rfl,by rw[q2];unfold maxLen at hcm;unfold top;omega,q3⟩
        simp only[PRepL,PRep]
        refine⟨_,[],rfl,⟨by rw[q2];unfold maxLen at hcm;unfold top;omega,?_⟩,rfl⟩
        rcases Nat.eq_zero_or_pos len with h0 | h0
        · subst h0
          have hr0:rows= []:=List.eq_nil_of_length_eq_zero q2
          subst hr0
          rcases Nat.eq_zero_or_pos cap with hc0 | hc0
          · subst hc0
            exact .inl ⟨rfl,_,rfl⟩
          · obtain⟨r1,r2⟩:=hrest.1 (hsp _)
            have h1:=r2 0 (by omega)
            rw[show rest[0]? =some (rest[0]'(by omega)) by simp[show 0<rest.length by omega]] at h1
            simp only[Option.bind_eq_some_iff,Nat.add_zero,Nat.zero_mul,Addr.add,if_true] at h1
            obtain⟨cs0,hc,_⟩:=h1
            obtain⟨c,t',fr,hb,hs,_,_⟩:=cells_heap hc hsz
            refine .inr ⟨a.block,a.off,cap,P.cellsOf e,c,t',fr,[],?_,by simp,hb,by simp[PRepLL],fun i r h=>by simp at h⟩
            cases a
            simp at hs
            simp[hs]
        · obtain⟨c,t',fr,hb,hs,hat⟩:=q4 h0
          refine .inr ⟨a.block,a.off,cap,P.cellsOf e,c,t',fr,vals,?_,by omega,hb,q1,by simpa using hat⟩
          rw[q2]
          cases a
          simp at hs
          simp[hs]
    · rename_i fs hu
      obtain⟨xs,m,hm,_,hl,hxl,hx⟩:=DataW.trod_struct hu h
      cases hm
      obtain⟨_,k2,k3⟩:=K.struct hlt hu
      have hp':=List.all_eq_true.1 hp
      obtain⟨pv,q1,q2⟩:=fields_shp (W:=W) (P:=P) (rd:=DataW.trod enc P W 0 sp held n) (R:=Shp P n) (cs:=cs) fs.toList 0
        (fun f hf cs x hx=>ih f.type cs x (by simpa using hp' f hf) hx)
        (fun j f hf=>by rw[Nat.zero_add];exact k3 j f hf)
        (fun f hf=>by
          obtain⟨i,hi,rfl⟩:=List.getElem_of_mem hf
          have hi':i<fs.size:=by simpa using hi
          have:=hx i fs[i] (by simp[hi'])
          simp only[Array.getElem_toList]
          rw[this]
          exact⟨xs[i]'(by omega),by simp[hxl,hi']⟩)
        (by rw[Nat.zero_add,hl,k2])
      exact⟨pv,by simpa using q1,q2⟩
    · cases hp
theorem rows_map {α β:Type} {f:α→β} {Q:α→Prop}:∀ {rows:List β},(∀r∈rows,∃z,Q z∧r=f z)→∃l:List α,rows=l.map f∧∀z∈l,Q z
  | [],_=>⟨[],rfl,by simp⟩
  | r :: rows,h=>by
    obtain⟨z,hz,rfl⟩:=h r (by simp)
    obtain⟨l,rfl,hl⟩:=rows_map fun r hr=>h r (List.mem_cons_of_mem _ hr)
    exact⟨z :: l,rfl,fun y hy=>by
      cases hy with
      | head=>exact hz
      | tail _ hy=>exact hl y hy⟩
theorem shp_int {n:Nat} {t:TypeId} {k:IntKind} {pv:List PV} (hu:P.underlying t=some (.int k)) (h:Shp P n t pv):∃z,(Lit.int k z).wf=true∧pv= [.c (.int k z)]:=by
 cases n with
 | zero=>exact h.elim
 | succ n=>simpa only[Shp,hu] using h
theorem shp_str {n:Nat} {t:TypeId} {pv:List PV} (hu:P.underlying t=some .string) (h:Shp P n t pv):∃s:ByteArray,s.size≤maxLen∧pv= [vs s]:=by
 cases n with
 | zero=>exact h.elim
 | succ n=>simpa only[Shp,hu] using h
theorem shp_slice {α:Type} {f:α→List PV} {Q:α→Prop} {n:Nat} {t e:TypeId} {pv:List PV} (hu:P.underlying t=some (.slice e)) (hr:∀n r,Shp P n e r→∃z,Q z∧r=f z) (h:Shp P n t pv):∃l:List α,pv= [.sl (l.map f)]∧l.length≤top∧∀z∈l,Q z:=by
 cases n with
 | zero=>exact h.elim
 | succ n =>
  simp only[Shp,hu] at h
  obtain⟨rows,rfl,hl,h⟩:=h
  obtain⟨l,rfl,hq⟩:=rows_map (f:=f) (Q:=Q) fun r hr'=>hr n r (h r hr')
  exact⟨l,rfl,by simpa using hl,hq⟩
theorem ZeO {n:Nat} {t:TypeId} {fs:Array Field} {pv:List PV} (hu:P.underlying t=some (.struct fs)) (h:Shp P n t pv):∃m,ShpAll (Shp P m) (fs.toList.map (·.type)) pv:=by
 cases n with
 | zero=>exact h.elim
 | succ n=>exact⟨n,by simpa only[Shp,hu] using h⟩
theorem arg_struct (K:Kids P (· <P.types.size)) {L:List TypeId} (hL:plainB P L=true) {t:TypeId} (ht:t∈L) {fs:Array Field} (hu:P.underlying t=some (.struct fs)) {base:Nat} {v:Value} {d:DataW H} {ps:List MemPlace}
  (hv:Value.okWide P W .any base t v) (h:DataW.Trod enc P W 0 (fun _=>true) true t v d ps):∃n pv,Shp P n t pv∧PRep (ofW W) (.agg pv) v:=by
 obtain⟨cs,rfl,_⟩:=okWide_struct hu hv
 obtain⟨n,hn⟩:=h
 obtain⟨pv,h1,h2⟩:=read_shp K hL (fun _=>rfl) n t cs.toList _ ht hn
 exact⟨n,pv,h2,by simp only[PRep];exact⟨cs,rfl,h1⟩⟩
def gOf (W:World):G:=⟨fun _=>⟨none,0,0,0,0,[]⟩,ofW W⟩
theorem simOf (W:World):SimH (gOf W) W [] 0:=⟨fun n o h=>by simp[Heap.get] at h,fun n m b h=>by simp[Heap.get] at h,fun b o h=>h⟩
def sizedB (P:Program) (L:List TypeId):Bool:=L.all fun t=>match P.underlying t with
 | some (.slice e)=>decide (0<P.cellsOf e)
 | _=>true
theorem Zgb {T:TypeId→Prop} (K:Kids P T) (hsz:∀ {t e:TypeId},T t→P.underlying t=some (.slice e)→0<P.cellsOf e) {W':World} {sp':Nat→Bool} (hfr:∀b,b<W.heap.size→W'.heap[b]? =W.heap[b]?) :
  ∀ {ts:List TypeId} {vs:List Value} {ds:List (DataW H)} {ps:List MemPlace},(∀t∈ts,T t)→DataW.TrodAll enc P W 0 (fun _=>true) true ts vs ds ps→(∀p∈ps,p.block<W.heap.size)→(∀p∈ps,sp' p.block=true) →
   DataW.TrodAll enc P W' 0 sp' true ts vs ds ps
 | [],vs,ds,ps,_,h,_,_=>by
  obtain⟨rfl,rfl,rfl⟩:=trodAll_nil h
  exact trodAll_mk0
 | t :: ts,vs,ds,ps,ht,h,hlt,hs=>by
  obtain⟨v,vs',d,ds',p,q,rfl,rfl,rfl,⟨n,hn⟩,h2⟩:=trodAll_cons h
  refine trodAll_cons_mk ⟨n,?_⟩ (Zgb K hsz hfr (fun u hu=>ht u (List.mem_cons_of_mem _ hu)) h2 (fun x hx=>hlt x (List.mem_append_right _ hx)) (fun x hx=>hs x (List.mem_append_right _ hx)))
  refine DataW.trod_stays K hsz (fun h=>by cases h) (ht t (by simp)) hn (fun x hx=>?_) (fun x hx=>hs x (List.mem_append_left _ hx))
  have hb:=hlt x (List.mem_append_left _ hx)
  cases x with
  | cell b off=>simp only[World.sameAt,World.cell?,hfr b hb]
  | map b=>simp only[World.sameAt,hfr b hb]
theorem ZgN {W':World} {may:MemPlace→Prop} (h1:W'.os=W.os) (h2:W'.output=W.output) (hfr:∀b,b<W.heap.size→W'.heap[b]? =W.heap[b]?):W.keptBut W' may:=by
 refine⟨h1,h2,fun i hi=>?_⟩
 rw[hfr i hi]
 cases h:W.heap[i]? with
 | none=>simp
 | some o=>cases o<;>simp
theorem law_post {f:FuncId} {F:Func} {s:ChangeSpec} {T:TypeId→Prop} (K:Kids P T) (hsz:∀ {t e:TypeId},T t→P.underlying t=some (.slice e)→0<P.cellsOf e) {args:Array Value} {ds gs:List (DataW H)} {before:List MemPlace}
  (hW:DataW.Whole enc P F.params.toList s.vars false W args.toList ds gs before) (hts:∀t∈F.params.toList,T t) (hv:s.vars= []) (hfn:s.fn H ds= {results:= [.lit (.bool true)],args:=ds})
  {rt:TypeId} (hr:F.resultTypes= #[rt]) (hrt:P.underlying rt=some .bool) {xs:List AV} (hx:ARepL (gOf W) [] 0 xs args.toList) (hc:APure P f xs (.p (vb true))) :
  Calls P f args W fun e W'=>∃v,e= .returned v∧s.post enc P F false true false false W args v W':=by
 refine (hc (gOf W) W args (simOf W) hx).mono ?_
 rintro e W' ⟨v,r,g',H',k',rfl,⟨rfl,rfl,rfl⟩,h1,h2,h3⟩
 have hv1:v= .bool true:=Zdm h1
 subst hv1
 have hfr:∀b,b<W.heap.size→W'.heap[b]? =W.heap[b]? :=fun b hb=>h3.frame b hb (fun n h=>absurd rfl h)
 have hlt:∀p∈before,p.block<W.heap.size:=fun p hp=>hW.lt p hp
 have hW':=hW
 obtain⟨p,q,hA,hV,rfl,hz,_⟩:=hW
 rw[hv] at hV
 obtain⟨rfl,rfl⟩:=trodVars_none hV
 simp only[List.append_nil] at *
 refine⟨.bool true,rfl,?_⟩
 have hargs:∀sp:Nat→Bool,(∀x∈p,sp x.block=true)→DataW.TrodAll enc P W' 0 sp true F.params.toList args.toList ds p:=fun sp hs=>Zgb K hsz hfr hts hA hlt hs
 have hres:∀(b:Nat) (sp:Nat→Bool) (hd:Bool),DataW.TrodAll enc P W' b sp hd F.resultTypes.toList ((Value.bool true).resultList F.resultTypes.size) [.lit (.bool true)] []:=by
  intro b sp hd
  rw[hr]
  exact trodAll_mk1 (⟨1,by simp[DataW.trod,Value.cells,hrt]⟩:DataW.Trod enc P W' b sp hd rt (.bool true) (.lit (.bool true)) [])
 have hold:∀x∈p,decide (x.block<W.heap.size)=true:=fun x hx=>by simpa using hlt x hx
 refine⟨ds,[],p,[],p,[],hW',?_,?_,?_,ZgN h3.os h3.output hfr,fun h=>by cases h⟩
 ·simp only[List.append_nil,hfn];exact hres _ _ _
 ·simp only[List.append_nil,hfn];exact hargs _ hold
 ·simp only[List.append_nil,hfn,hv];rfl
end
end Go.Abs
namespace Go.Abs
open Go
theorem Zae {α β:Type} {o:Option α} {k:α→Option β} {y:β} (h:o.bind k=some y):∃x,o=some x∧k x=some y:=Option.bind_eq_some_iff.1 h
abbrev w64 (z:Int):Int:=IntKind.i64.wrap z
def idx {α:Type} (l:List α) (i:Int):Option α:=if 0≤i then l[i.toNat]? else none
theorem idx_some {α:Type} {l:List α} {i:Int} {x:α} (h:idx l i=some x):0≤i∧l[i.toNat]? =some x:=by
 unfold idx at h;split at h
 ·exact⟨by assumption,h⟩
 ·cases h
theorem Zas {α:Type} (c:α→List PV) {l:List α} {i:Int} {x:α} (h:idx l i=some x):0≤i∧(l.map c)[i.toNat]? =some (c x)∧i.toNat<l.length:=by
 obtain⟨h1,h2⟩:=idx_some h
 exact⟨h1,by rw[List.getElem?_map,h2];rfl,(List.getElem?_eq_some_iff.1 h2).1⟩
def sidx (s:ByteArray) (i:Int):Option Int:=if 0≤i then (s[i.toNat]?).map (fun b=>(b.toNat:Int)) else none
theorem sidx_some {s:ByteArray} {i x:Int} (h:sidx s i=some x):0≤i∧∃b,s[i.toNat]? =some b∧x=(b.toNat:Int):=by
 unfold sidx at h;split at h
 ·obtain⟨b,h1,h2⟩:=Option.map_eq_some_iff.1 h
  exact⟨by assumption,b,h1,h2.symm⟩
 ·cases h
def lslice {α:Type} (l:List α) (lo hi:Int):Option (List α):=if 0≤lo∧lo≤hi∧hi≤l.length then some ((l.take hi.toNat).drop lo.toNat) else none
def app {α:Type} (b:Nat) (l m:List α):Option (List α):=if (l.length+m.length)*b≤lim∧l.length+m.length≤lim then some (l++m) else none
theorem ZcP {α:Type} {b:Nat} {l m x:List α} (h:app b l m=some x):((l.length+m.length)*b≤lim∧l.length+m.length≤lim)∧x=l++m:=by
 unfold app at h;split at h
 ·cases h;exact⟨by assumption,rfl⟩
 ·cases h
def mks {α:Type} (b:Nat) (n:Int) (z:α):Option (List α):=if 0≤n∧n*b≤lim∧n≤lim then some (List.replicate n.toNat z) else none
def nz (b:Int):Option Unit:=if b=0 then none else some ()
def sEq (a b:ByteArray):Bool:=a.toList == b.toList
def sLt (a b:ByteArray):Bool:=Op.bytesLess a.toList b.toList
theorem sEq_eq (a b:ByteArray):(a.toList == b.toList)=sEq a b:=rfl
theorem sLt_eq (a b:ByteArray):Op.bytesLess a.toList b.toList=sLt a b:=rfl
theorem sBeq (a b:ByteArray):(a == b)=sEq a b:=by
 have h1:=ba_beq a b
 have h2:(a.toList == b.toList)=true↔a=b:=by
  rw[beq_iff_eq]
  constructor
  ·intro h
   have:a.data.toList=b.data.toList:=by simpa [ByteArray.toList_eq] using h
   cases a;cases b;simp_all
  ·rintro rfl;rfl
 unfold sEq
 cases h3:(a == b)<;>cases h4:(a.toList == b.toList)<;>simp_all
inductive Ex (σ τ ρ:Type) where
 | next (s:σ)
 | brk (t:τ)
 | ret (r:ρ)
def seqK {τ ρ:Type} (o:Option (Sum τ ρ)) (k:τ→Option ρ):Option ρ:=o.bind fun | .inl t=>k t | .inr x=>some x
theorem seqK_some {τ ρ:Type} {o:Option (Sum τ ρ)} {k:τ→Option ρ} {x:ρ} (h:seqK o k=some x):∃y,o=some y∧(∀t,y= .inl t→k t=some x)∧∀x',y= .inr x'→x'=x:=by
 obtain⟨y,h1,h2⟩:=Zae h
 refine⟨y,h1,?_,?_⟩
 ·rintro t rfl;exact h2
 ·rintro x' rfl;exact Option.some.inj h2
def forN {σ τ ρ:Type} (body:Nat→σ→Option (Ex σ τ ρ)) (fin:σ→τ):Nat→Nat→σ→Option (Sum τ ρ)
 | 0,_,s=>some (.inl (fin s))
 | n+1,i,s=>(body i s).bind fun | .next s'=>forN body fin n (i+1) s' | .brk t=>some (.inl t) | .ret r=>some (.inr r)
def forL {α σ τ ρ:Type} (l:List α) (body:Nat→α→σ→Option (Ex σ τ ρ)) (fin:σ→τ) (s:σ):Option (Sum τ ρ) :=
 forN (fun i s=>(l[i]?).bind fun x=>body i x s) fin l.length 0 s
def forI {σ τ ρ:Type} (n:Int) (body:Nat→σ→Option (Ex σ τ ρ)) (fin:σ→τ) (s:σ):Option (Sum τ ρ) :=
 if n≤top then forN body fin n.toNat 0 s else none
def itW {σ τ ρ:Type} (body:σ→Option (Ex σ τ ρ)):Nat→σ→Option (Sum τ ρ)
 | 0,_=>none
 | n+1,s=>(body s).bind fun | .next s'=>itW body n s' | .brk t=>some (.inl t) | .ret r=>some (.inr r)
theorem itW_more {σ τ ρ:Type} {body:σ→Option (Ex σ τ ρ)}:∀ {n:Nat} {s:σ} {y:Sum τ ρ},itW body n s=some y→∀m,n≤m→itW body m s=some y
 | 0,_,_,h,_,_=>by cases h
 | n+1,s,y,h,m,hm=>by
  obtain⟨m,rfl⟩:∃k,m=k+1:=⟨m - 1,by omega⟩
  obtain⟨z,h1,h2⟩:=Zae h
  simp only[itW,h1,Option.bind_some]
  cases z with
  | next s'=>exact itW_more h2 m (by omega)
  | brk t=>exact h2
  | ret r=>exact h2
open Classical in
noncomputable def loopW {σ τ ρ:Type} (body:σ→Option (Ex σ τ ρ)) (s:σ):Option (Sum τ ρ) :=
 if h:∃n y,itW body n s=some y then some (Classical.choose (Classical.choose_spec h)) else none
theorem loopW_it {σ τ ρ:Type} {body:σ→Option (Ex σ τ ρ)} {s:σ} {y:Sum τ ρ}:loopW body s=some y↔∃n,itW body n s=some y:=by
 unfold loopW
 constructor
 ·intro h
  split at h
  ·rename_i hx
   exact⟨_,by rw[←Option.some.inj h];exact Classical.choose_spec (Classical.choose_spec hx)⟩
  ·cases h
 ·rintro⟨n,h⟩
  have hx:∃n y,itW body n s=some y:=⟨n,y,h⟩
  rw[dif_pos hx]
  have h2:=Classical.choose_spec (Classical.choose_spec hx)
  have h3:=itW_more h (max n (Classical.choose hx)) (Nat.le_max_left _ _)
  rw[itW_more h2 (max n (Classical.choose hx)) (Nat.le_max_right _ _)] at h3
  exact h3
theorem Zd9 {σ τ ρ:Type} (body:σ→Option (Ex σ τ ρ)) (s:σ):loopW body s=(body s).bind fun | .next s'=>loopW body s' | .brk t=>some (.inl t) | .ret r=>some (.inr r):=by
 apply Option.ext
 intro y
 rw[loopW_it,Option.bind_eq_some_iff]
 constructor
 ·rintro⟨n,h⟩
  cases n with
  | zero=>cases h
  | succ n =>
   obtain⟨z,h1,h2⟩:=Zae h
   refine⟨z,h1,?_⟩
   cases z with
   | next s'=>exact loopW_it.2 ⟨n,h2⟩
   | brk t=>exact h2
   | ret r=>exact h2
 ·rintro⟨z,h1,h2⟩
  cases z with
  | next s' =>
   obtain⟨n,h⟩:=loopW_it.1 h2
   exact⟨n+1,by simp only[itW,h1,Option.bind_some];exact h⟩
  | brk t=>exact⟨1,by simp only[itW,h1,Option.bind_some];exact h2⟩
  | ret r=>exact⟨1,by simp only[itW,h1,Option.bind_some];exact h2⟩
variable {P:Program}
theorem aw_postU {nt:Nat} {rc:RCode} {Q:RExit→St→Prop} {st:St} {τ:Type} (E:τ→St) (J:τ→Prop)
  (h:AWr P nt rc (fun e s=>match e with | .normal=>∃t,J t∧Upd st.k s (E t) | e=>Q e s) st) (hq:∀t,J t→Q .normal (E t)):AWr P nt rc Q st:=by
 intro c hc g w a h1 h2 h3
 refine wp_mono (h c hc g w a h1 h2 h3) fun e a' w' ⟨e',st',g',r1,r2,r3,r4,r5,r6⟩=>?_
 cases e' with
 | normal =>
  obtain⟨t,hj,hu⟩:=r2
  obtain⟨g'',s',e''⟩:=hu g' w' a'.tmps r5
  exact⟨.normal,E t,g'',r1,hq t hj,r3,r4,s',e'' g w st.H r6⟩
 | exit id=>exact⟨.exit id,st',g',r1,r2,r3,r4,r5,r6⟩
 | ret=>exact⟨.ret,st',g',r1,r2,r3,r4,r5,r6⟩
theorem ZbC {τ ρ:Type} {nt:Nat} {x y:RCode} {Q:RExit→St→Prop} {st:St} {o:Option (Sum τ ρ)} {k:τ→Option ρ} {r:ρ} (hF:seqK o k=some r) (E:τ→St)
  (h1:∀z,o=some z→(∀r',z= .inr r'→r'=r)→∀Q',IsQ Q' (fun e s=>match e with | .normal=>∃t,z= .inl t∧Upd st.k s (E t) | e=>Q e s)→AWr P nt x Q' st)
  (h2:∀t,k t=some r→AWr P nt y Q (E t)):AWr P nt (.seq x y) Q st:=by
 obtain⟨z,ho,hl,hr⟩:=seqK_some hF
 refine ZgA (aw_postU E (fun t=>z= .inl t) ?_ (fun t ht=>h2 t (hl t ht)))
 refine Zd5 (h1 z ho hr _ ⟨rfl⟩) ?_
 intro e s h
 cases e<;>exact h
theorem Zaz {τ ρ:Type} {nt:Nat} {x:RCode} {Q:RExit→St→Prop} {st:St} {o:Option (Sum τ ρ)} {k:τ→Option ρ} {r:ρ} (hF:seqK o k=some r) (E:τ→St)
  (h1:∀z,o=some z→(∀r',z= .inr r'→r'=r)→∀Q',IsQ Q' (fun e s=>match e with | .normal=>∃t,z= .inl t∧Upd st.k s (E t) | e=>Q e s)→AWr P nt x Q' st)
  (h2:∀t,k t=some r→Q .normal (E t)):AWr P nt x Q st:=by
 obtain⟨z,ho,hl,hr⟩:=seqK_some hF
 refine aw_postU E (fun t=>z= .inl t) ?_ (fun t ht=>h2 t (hl t ht))
 refine Zd5 (h1 z ho hr _ ⟨rfl⟩) ?_
 intro e s h
 cases e<;>exact h
theorem aw_forN {σ τ ρ:Type} {nt:Nat} {x:RCode} {Q:RExit→St→Prop} {st:St} {body:Nat→σ→Option (Ex σ τ ρ)} {fin:σ→τ} {n:Nat} {s0:σ} {y:Sum τ ρ}
    (hy:forN body fin n 0 s0=some y) (S:Nat→σ→St) (h0:Upd st.k st (S 0 s0))
    (hend:∀s,y= .inl (fin s)→∀Q',IsQ Q' (fun e s=>match e with | .normal=>False | e=>Q e s)→AWr P nt x Q' (S n s))
    (h:∀i s z,i<n→body i s=some z→(∀t,z= .brk t→y= .inl t)→(∀r,z= .ret r→y= .inr r) →
      ∀Q',IsQ Q' (fun e s1=>match e with | .normal=>∃s',z= .next s'∧Upd (S i s).k s1 (S (i+1) s') | e=>Q e s1)→AWr P nt x Q' (S i s)):AWr P nt (.loop x) Q st:=by
  refine aw_loopS (ι:=Nat × σ) (fun p=>S p.1 p.2) (fun p=>n+1 - p.1) (fun p=>p.1≤n∧forN body fin (n - p.1) p.1 p.2=some y) (0,s0) ⟨Nat.zero_le _,hy⟩ h0 ?_
  rintro⟨i,s⟩ ⟨hi,hs⟩
  dsimp only at hi hs ⊢
  by_cases hlt:i<n
  · rw[show n - i=(n - (i+1))+1 by omega] at hs
    obtain⟨z,hz,hs⟩:=Zae hs
    refine Zd5 (h i s z hlt hz ?_ ?_ _ ⟨rfl⟩) ?_
    · rintro t rfl;exact (Option.some.inj hs).symm
    · rintro t rfl;exact (Option.some.inj hs).symm
    · intro e s1 h
      cases e with
      | normal =>
        obtain⟨s',rfl,hu⟩:=h
        exact⟨(i+1,s'),⟨hlt,hs⟩,by dsimp only;omega,hu⟩
      | exit id=>exact h
      | ret=>exact h
  · obtain rfl:i=n:=by omega
    rw[Nat.sub_self] at hs
    refine Zd5 (hend s (Option.some.inj hs).symm _ ⟨rfl⟩) ?_
    intro e s1 h
    cases e with
    | normal=>exact h.elim
    | exit id=>exact h
    | ret=>exact h
theorem Zbe {α σ τ ρ:Type} {nt:Nat} {x:RCode} {Q:RExit→St→Prop} {st:St} {l:List α} {body:Nat→α→σ→Option (Ex σ τ ρ)} {fin:σ→τ} {s0:σ} {y:Sum τ ρ}
    (hy:forL l body fin s0=some y) (S:Nat→σ→St) (h0:Upd st.k st (S 0 s0))
    (hend:∀s,y= .inl (fin s)→∀Q',IsQ Q' (fun e s=>match e with | .normal=>False | e=>Q e s)→AWr P nt x Q' (S l.length s))
    (h:∀i x' s z,i<l.length→l[i]? =some x'→body i x' s=some z→(∀t,z= .brk t→y= .inl t)→(∀r,z= .ret r→y= .inr r) →
      ∀Q',IsQ Q' (fun e s1=>match e with | .normal=>∃s',z= .next s'∧Upd (S i s).k s1 (S (i+1) s') | e=>Q e s1)→AWr P nt x Q' (S i s)):AWr P nt (.loop x) Q st :=
  aw_forN hy S h0 hend fun i s z hi hz hb hr Q' hQ=>by
    obtain⟨x',h1,h2⟩:=Zae hz
    exact h i x' s z hi h1 h2 hb hr Q' hQ
theorem ZaM {σ τ ρ:Type} {nt:Nat} {x:RCode} {Q:RExit→St→Prop} {st:St} {body:σ→Option (Ex σ τ ρ)} {s0:σ} {y:Sum τ ρ}
    (hy:loopW body s0=some y) (S:σ→St) (h0:Upd st.k st (S s0))
    (h:∀s z,body s=some z→(∀t,z= .brk t→y= .inl t)→(∀r,z= .ret r→y= .inr r) →
      ∀Q',IsQ Q' (fun e s1=>match e with | .normal=>∃s',z= .next s'∧Upd (S s).k s1 (S s') | e=>Q e s1)→AWr P nt x Q' (S s)):AWr P nt (.loop x) Q st:=by
  obtain⟨n,hn⟩:=loopW_it.1 hy
  refine aw_loopS (ι:=Nat × σ) (fun p=>S p.2) (fun p=>p.1) (fun p=>itW body p.1 p.2=some y) (n,s0) hn h0 ?_
  rintro⟨n,s⟩ hs
  dsimp only at hs ⊢
  cases n with
  | zero=>cases hs
  | succ n =>
    obtain⟨z,hz,hs⟩:=Zae hs
    refine Zd5 (h s z hz ?_ ?_ _ ⟨rfl⟩) ?_
    · rintro t rfl;exact (Option.some.inj hs).symm
    · rintro t rfl;exact (Option.some.inj hs).symm
    · intro e s1 h
      cases e with
      | normal =>
        obtain⟨s',rfl,hu⟩:=h
        exact⟨(n,s'),hs,by dsimp only;omega,hu⟩
      | exit id=>exact h
      | ret=>exact h
theorem aw_postE {nt:Nat} {rc:RCode} {Q:RExit→St→Prop} {st:St} (E:St) (h:AWr P nt rc (fun e s=>match e with | .normal=>Upd st.k s E | e=>Q e s) st) (hq:Q .normal E):AWr P nt rc Q st:=by
 refine aw_postU (τ:=Unit) (fun _=>E) (fun _=>True) (Zd5 h ?_) fun _ _=>hq
 intro e s h
 cases e with
 | normal=>exact⟨(),trivial,h⟩
 | exit id=>exact h
 | ret=>exact h
theorem Zbj {nt:Nat} {ls:List LOp} {y:RCode} {Q:RExit→St→Prop} {st:St} (E:St) (h1:∀K,IsK K (fun s=>Upd st.k s E)→vOps P ls st K) (h2:AWr P nt y Q E):AWr P nt (.seq (.region false ls) y) Q st :=
 ZgA (aw_postE E (Zaj (h1 _ ⟨rfl⟩)) h2)
theorem aw_sdJ {nt:Nat} {ls:List LOp} {y:RCode} {Q:RExit→St→Prop} {st:St} (E:St) (h1:∀K,IsK K (fun s=>Upd st.k s E)→vD P ls st K) (h2:AWr P nt y Q E):AWr P nt (.seq (.region true ls) y) Q st :=
 ZgA (aw_postE E (aw_d (h1 _ ⟨rfl⟩)) h2)
def gAnd (g:Bool) (o:Option Bool):Option Bool:=if g=true then o else some false
def gOr (g:Bool) (o:Option Bool):Option Bool:=if g=true then some true else o
theorem if_t {α:Type} {c:Bool} {x y:Option α} {r:α} (hc:c=true) (h:(if c=true then x else y)=some r):x=some r:=by rwa [if_pos hc] at h
theorem if_f {α:Type} {c:Bool} {x y:Option α} {r:α} (hc:c=false) (h:(if c=true then x else y)=some r):y=some r:=by rwa [if_neg (by simp[hc])] at h
theorem ci {P:Program} {nt:Nat} {z:RX} {x y:RCode} {Q:RExit→St→Prop} {st:St} {t:Bool} {α:Type} {u v:Option α} {r:α} (hF:(if t=true then u else v)=some r) (h1:t=true→u=some r→AWr P nt x Q st) (h2:t=false→v=some r→AWr P nt y Q st) (hz:st.ev z= .p (.c (.bool t)):=by rfl):AWr P nt (.cond z x y) Q st:=Zay hz (fun h=>h1 h (if_t h hF)) (fun h=>h2 h (if_f h hF))
def mget {κ β:Type} (eq:κ→κ→Bool) (k:κ):List (κ × β)→Option β
 | []=>none
 | e :: r=>if eq k e.1=true then some e.2 else mget eq k r
def mset {κ β:Type} (eq:κ→κ→Bool) (k:κ) (v:β):List (κ × β)→List (κ × β)
 | []=> [(k,v)]
 | e :: r=>if eq k e.1=true then (k,v) :: r else e :: mset eq k v r
theorem Zel {κ β:Type} {q:KQ} {ek:κ→PV} {ev:β→PV} {eq:κ→κ→Bool} (h:∀a b,keyEq q (ek a) (ek b)=some (eq a b)) (k:κ):∀(m:List (κ × β)),
  mfind q (ek k) (m.map fun e=>(ek e.1,ev e.2))=some ((mget eq k m).map ev)
 | []=>rfl
 | e :: m=>by
  simp only[List.map_cons,mfind,h,mget]
  cases eq k e.1 with
  | true=>rfl
  | false=>simp only[Zel h k m];rfl
theorem ZeR {κ β:Type} {q:KQ} {ek:κ→PV} {ev:β→PV} {eq:κ→κ→Bool} (h:∀a b,keyEq q (ek a) (ek b)=some (eq a b)) (k:κ) (v:β):∀(m:List (κ × β)),
  mput q (ek k) (ev v) (m.map fun e=>(ek e.1,ev e.2))=some ((mset eq k v m).map fun e=>(ek e.1,ev e.2))
 | []=>rfl
 | e :: m=>by
  simp only[List.map_cons,mput,h,mset]
  cases eq k e.1 with
  | true=>rfl
  | false=>simp only[ZeR h k v m,Option.map_some];rfl
def iEq (a b:Int):Bool:=a == b
end Go.Abs
namespace Go.Abs
open Go
structure Str where
 b:ByteArray
 h:b.size≤top
theorem Str.ext' {x y:Str} (h:x.b=y.b):x=y:=by cases x;cases y;simp_all
instance:DecidableEq Str:=fun x y=>decidable_of_iff (x.b=y.b) ⟨Str.ext',fun h=>by rw[h]⟩
abbrev Str.lit (a:List UInt8) (h:a.length≤top):Str:=⟨⟨a.toArray⟩,h⟩
theorem sEq_iff {x y:Str}:sEq x.b y.b=true↔x=y:=by
 rw[←sBeq,ba_beq]
 exact⟨Str.ext',fun h=>by rw[h]⟩
theorem Zd3 (x y:Str):sEq x.b y.b=decide (x=y):=by
 by_cases h:x=y
 ·rw[sEq_iff.2 h];simp[h]
 ·have:sEq x.b y.b=false:=by rw[←Bool.not_eq_true,sEq_iff];exact h
  rw[this];simp[h]
def cI (x:Int):List PV:= [vi x]
def cK (k:IntKind) (x:Int):List PV:= [.c (.int k x)]
def cB (x:Bool):List PV:= [vb x]
def cS (x:Str):List PV:= [vs x.b]
def cL {α:Type} (f:α→List PV) (l:List α):List PV:= [.sl (l.map f)]
def pI (x:Int):PV:=vi x
def pK (k:IntKind) (x:Int):PV:= .c (.int k x)
def pB (x:Bool):PV:=vb x
def pS (x:Str):PV:=vs x.b
def pA {α:Type} (f:α→List PV) (x:α):PV:= .agg (f x)
def pL {α:Type} (f:α→List PV) (l:List α):PV:= .sl (l.map f)
def kS (x:Str):PV:= .c (.string x.b)
def kI (x:Int):PV:= .c (.int .i64 x)
def kK (k:IntKind) (x:Int):PV:= .c (.int k x)
def kB (x:Bool):PV:= .c (.bool x)
def kEqS (x y:Str):Bool:=sEq x.b y.b
def kEqI (x y:Int):Bool:=x == y
def kEqB (x y:Bool):Bool:=x == y
def cM {κ β:Type} (f:κ→PV) (g:β→PV) (e:κ × β):PV × PV:=(f e.1,g e.2)
theorem flatS (x y:Str):keyEq (.one .str) (kS x) (kS y)=some (kEqS x y):=by simp[keyEq,flatEq,kS,kEqS,sBeq]
theorem flatI (x y:Int):keyEq (.one .int) (kI x) (kI y)=some (kEqI x y):=by simp[keyEq,flatEq,kI,kEqI]
section
variable {β:Type} {g:β→PV}
theorem findS (k:Str) (m:List (Str × β)):mfind (.one .str) (.c (.string k.b)) (m.map (cM kS g))=some ((mget kEqS k m).map g):=Zel (ek:=kS) flatS k m
theorem findI (k:Int) (m:List (Int × β)):mfind (.one .int) (.c (.int .i64 k)) (m.map (cM kI g))=some ((mget kEqI k m).map g):=Zel (ek:=kI) flatI k m
theorem putS (k:Str) (v:β) (m:List (Str × β)):mput (.one .str) (.c (.string k.b)) (g v) (m.map (cM kS g))=some ((mset kEqS k v m).map (cM kS g)):=ZeR (ek:=kS) flatS k v m
theorem putI (k:Int) (v:β) (m:List (Int × β)):mput (.one .int) (.c (.int .i64 k)) (g v) (m.map (cM kI g))=some ((mset kEqI k v m).map (cM kI g)):=ZeR (ek:=kI) flatI k v m
end
section
variable {κ:Type} {f:κ→PV}
theorem putSB (k:Str) (v:Bool) (m:List (Str × Bool)):mput (.one .str) (.c (.string k.b)) (.c (.bool v)) (m.map (cM kS pB))=some ((mset kEqS k v m).map (cM kS pB)):=putS (g:=pB) k v m
theorem putSI (k:Str) (v:Int) (m:List (Str × Int)):mput (.one .str) (.c (.string k.b)) (.c (.int .i64 v)) (m.map (cM kS pI))=some ((mset kEqS k v m).map (cM kS pI)):=putS (g:=pI) k v m
theorem putSS (k:Str) (v:Str) (m:List (Str × Str)):mput (.one .str) (.c (.string k.b)) (.c (.string v.b)) (m.map (cM kS pS))=some ((mset kEqS k v m).map (cM kS pS)):=putS (g:=pS) k v m
theorem putIB (k:Int) (v:Bool) (m:List (Int × Bool)):mput (.one .int) (.c (.int .i64 k)) (.c (.bool v)) (m.map (cM kI pB))=some ((mset kEqI k v m).map (cM kI pB)):=putI (g:=pB) k v m
theorem getD_map {α:Type} (h:α→PV) (o:Option α) (z:α):(o.map h).getD (h z)=h (o.getD z):=by cases o<;>rfl
theorem getDB (o:Option Bool) (z:Bool):(o.map pB).getD (.c (.bool z))= .c (.bool (o.getD z)):=getD_map pB o z
theorem getDI (o:Option Int) (z:Int):(o.map pI).getD (.c (.int .i64 z))= .c (.int .i64 (o.getD z)):=getD_map pI o z
end
theorem isSome_map {α β:Type} (f:α→β) (o:Option α):(o.map f).isSome=o.isSome:=by cases o<;>rfl
structure Wide {α:Type} (n:Nat) (c:α→List PV):Prop where
 len:∀x,(c x).length=n
 one:∀x,(c x).all PV.single=true
 nz:∀x,nzPs (c x)=c x
theorem Wide.rows {α:Type} {n:Nat} {c:α→List PV} (h:Wide n c) (l:List α):(∀r∈l.map c,r.length=n∧r.all PV.single=true)=True:=by
 apply eq_true
 intro r hr
 obtain⟨x,_,rfl⟩:=List.mem_map.1 hr
 exact⟨h.len x,h.one x⟩
theorem Wide.rowl {α:Type} {n:Nat} {c:α→List PV} (h:Wide n c) (l:List α):(∀r∈l.map c,r.length=n)=True:=by
 apply eq_true
 intro r hr
 obtain⟨x,_,rfl⟩:=List.mem_map.1 hr
 exact h.len x
theorem Wide.nzs {α:Type} {n:Nat} {c:α→List PV} (h:Wide n c):∀(l:List α),nzPss (l.map c)=l.map c
 | []=>rfl
 | x :: l=>by simp only[List.map_cons,nzPss,h.nz x,h.nzs l]
theorem wI:Wide 1 cI:=⟨fun _=>rfl,fun _=>rfl,fun _=>rfl⟩
theorem wB:Wide 1 cB:=⟨fun _=>rfl,fun _=>rfl,fun _=>rfl⟩
theorem wS:Wide 1 cS:=⟨fun _=>rfl,fun _=>rfl,fun _=>rfl⟩
theorem rI (l:List Int):(∀r∈l.map cI,r.length=1∧r.all PV.single=true)=True:=wI.rows l
theorem rB (l:List Bool):(∀r∈l.map cB,r.length=1∧r.all PV.single=true)=True:=wB.rows l
theorem rS (l:List Str):(∀r∈l.map cS,r.length=1∧r.all PV.single=true)=True:=wS.rows l
theorem rI1 (l:List Int):(∀r∈l.map cI,r.length=1)=True:=wI.rowl l
theorem rB1 (l:List Bool):(∀r∈l.map cB,r.length=1)=True:=wB.rowl l
theorem rS1 (l:List Str):(∀r∈l.map cS,r.length=1)=True:=wS.rowl l
theorem nI (l:List Int):nzPss (l.map cI)=l.map cI:=wI.nzs l
theorem nB (l:List Bool):nzPss (l.map cB)=l.map cB:=wB.nzs l
theorem nS (l:List Str):nzPss (l.map cS)=l.map cS:=wS.nzs l
theorem nzM {κ β:Type} {f:κ→PV} {g:β→PV} (hf:∀k,nzP (f k)=f k) (hg:∀v,nzP (g v)=g v):∀(m:List (κ × β)),nzPm (m.map (cM f g))=m.map (cM f g)
 | []=>rfl
 | e :: m=>by simp only[List.map_cons,nzPm,cM,hf,hg,nzM hf hg m]
theorem nkS (k:Str):nzP (kS k)=kS k:=rfl
theorem nkI (k:Int):nzP (kI k)=kI k:=rfl
theorem npI (k:Int):nzP (pI k)=pI k:=rfl
theorem npB (k:Bool):nzP (pB k)=pB k:=rfl
theorem npA {α:Type} {n:Nat} {c:α→List PV} (h:Wide n c) (x:α):nzP (pA c x)=pA c x:=by simp only[pA,nzP,h.nz]
theorem nSB (m:List (Str × Bool)):nzPm (m.map (cM kS pB))=m.map (cM kS pB):=nzM nkS npB m
theorem nSI (m:List (Str × Int)):nzPm (m.map (cM kS pI))=m.map (cM kS pI):=nzM nkS npI m
theorem nIB (m:List (Int × Bool)):nzPm (m.map (cM kI pB))=m.map (cM kI pB):=nzM nkI npB m
variable {P:Program}
theorem aw_factH {nt:Nat} {rc:RCode} {Q:RExit→St→Prop} {st:St} (n:Nat) {rows:List (List PV)} (he:st.H.get n=some (.slice rows)) (h:rows.length≤lim→AWr P nt rc Q st):AWr P nt rc Q st:=by
 intro c hc g w a h1 h2 h3
 obtain⟨_,ho,_⟩:=h3.h.obj n _ he
 simp only[ORep] at ho
 exact h ho.1 c hc g w a h1 h2 h3
theorem belowL_app (k:Nat):∀(a b:List AV),ZaC k (a++b)=(ZaC k a∧ZaC k b)
 | [],b=>by simp[ZaC]
 | x :: a,b=>by simp only[List.cons_append,ZaC,belowL_app k a b,and_assoc]
theorem frzL_p (q:Nat→Bool) (H:Heap):∀(l:List PV),frzL q H (l.map AV.p)=l.map AV.p
 | []=>rfl
 | x :: l=>by simp only[List.map_cons,frzL,AV.frz,frzL_p q H l]
theorem belowL_p (k:Nat):∀(l:List PV),ZaC k (l.map AV.p)=True
 | []=>by simp[ZaC]
 | x :: l=>by simp only[List.map_cons,ZaC,ZaH,belowL_p k l,and_self]
theorem gAnd_t (o:Option Bool):gAnd true o=o:=rfl
theorem gAnd_f (o:Option Bool):gAnd false o=some false:=rfl
theorem gOr_t (o:Option Bool):gOr true o=some true:=rfl
theorem gOr_f (o:Option Bool):gOr false o=o:=rfl
theorem gbS:type_of% (And.intro gAnd_t (And.intro gAnd_f (And.intro gOr_t (And.intro gOr_f (And.intro Bool.true_and (And.intro Bool.false_and (And.intro Bool.true_or (And.intro Bool.false_or (And.intro @Bool.not_true (@Bool.not_false)))))))))) :=
 And.intro gAnd_t (And.intro gAnd_f (And.intro gOr_t (And.intro gOr_f (And.intro Bool.true_and (And.intro Bool.false_and (And.intro Bool.true_or (And.intro Bool.false_or (And.intro @Bool.not_true (@Bool.not_false)))))))))
attribute [go_sem] cI cK cB cS cL pI pK pB pS pA pL findS findI putS putI putSB putSI putSS putIB getDB getDI isSome_map rI rB rS rI1 rB1 rS1 nI nB nS nSB nSI nIB belowL_app frzL_p belowL_p allP_map sEq_eq sLt_eq sBeq List.getElem?_map
end Go.Abs
namespace Go.Abs
open Go
def goL {α σ τ ρ:Type} (body:Nat→α→σ→Option (Ex σ τ ρ)) (fin:σ→τ):List α→Nat→σ→Option (Sum τ ρ)
 | [],_,s=>some (.inl (fin s))
 | x :: r,i,s=>(body i x s).bind fun | .next s'=>goL body fin r (i+1) s' | .brk t=>some (.inl t) | .ret r=>some (.inr r)
theorem ZcS {α σ τ ρ:Type} (body:Nat→α→σ→Option (Ex σ τ ρ)) (fin:σ→τ) (l:List α) (s:σ):forL l body fin s=goL body fin l 0 s:=by
 have key:∀(n i:Nat) (s:σ),n+i=l.length→forN (fun i s=>(l[i]?).bind fun x=>body i x s) fin n i s=goL body fin (l.drop i) i s:=by
  intro n
  induction n with
  | zero=>intro i s h;rw[List.drop_eq_nil_of_le (by omega)];rfl
  | succ n ih =>
   intro i s h
   have hi:i<l.length:=by omega
   rw[List.drop_eq_getElem_cons hi]
   simp only[forN,goL,List.getElem?_eq_getElem hi,Option.bind_some]
   congr 1
   funext z
   cases z with
   | next s'=>exact ih (i+1) s' (by omega)
   | brk t=>rfl
   | ret r=>rfl
 exact key l.length 0 s rfl
theorem forL_fold {α σ τ ρ:Type} {body:Nat→α→σ→Option (Ex σ τ ρ)} {fin:σ→τ} {l:List α} (f:Nat→α→σ→σ) (s:σ) (inv:Nat→σ→Prop) (h0:inv 0 s)
  (h:∀i x s,l[i]? =some x→inv i s→body i x s=some (.next (f i x s))∧inv (i+1) (f i x s)) :
  ∃s',forL l body fin s=some (.inl (fin s'))∧inv l.length s':=by
 rw[ZcS]
 have key:∀(r:List α) (i:Nat) (s:σ),l.drop i=r→inv i s→i+r.length=l.length→∃s',goL body fin r i s=some (.inl (fin s'))∧inv l.length s':=by
  intro r
  induction r with
  | nil=>intro i s _ hi hl;exact⟨s,rfl,by rw[←hl];exact hi⟩
  | cons x r ih =>
   intro i s hd hi hl
   have hx:l[i]? =some x:=by rw[←Nat.add_zero i,←List.getElem?_drop,hd];rfl
   obtain⟨h1,h2⟩:=h i x s hx hi
   simp only[goL,h1,Option.bind_some]
   exact ih (i+1) _ (by rw[←List.drop_drop,hd];rfl) h2 (by simp only[List.length_cons] at hl;omega)
 exact key l 0 s rfl h0 (by simp)
theorem forL_map {α σ τ ρ:Type} {body:Nat→α→σ→Option (Ex σ τ ρ)} {fin:σ→τ} {l:List α} (f:α→σ→σ) (s:σ) (inv:List α→σ→Prop) (h0:inv [] s)
  (h:∀i x s,l[i]? =some x→inv (l.take i) s→body i x s=some (.next (f x s))∧inv (l.take (i+1)) (f x s)) :
  forL l body fin s=some (.inl (fin (l.foldl (fun s x=>f x s) s)))∧inv l (l.foldl (fun s x=>f x s) s):=by
 rw[ZcS]
 have key:∀(r:List α) (i:Nat) (s:σ),l.drop i=r→inv (l.take i) s→i+r.length=l.length→goL body fin r i s=some (.inl (fin (r.foldl (fun s x=>f x s) s)))∧inv l (r.foldl (fun s x=>f x s) s):=by
  intro r
  induction r with
  | nil=>intro i s _ hi hl;exact⟨rfl,by rw[List.take_of_length_le (by simp at hl;omega)] at hi;exact hi⟩
  | cons x r ih =>
   intro i s hd hi hl
   have hx:l[i]? =some x:=by rw[←Nat.add_zero i,←List.getElem?_drop,hd];rfl
   obtain⟨h1,h2⟩:=h i x s hx hi
   simp only[goL,h1,Option.bind_some]
   exact ih (i+1) _ (by rw[←List.drop_drop,hd];rfl) h2 (by simp only[List.length_cons] at hl;omega)
 exact key l 0 s rfl (by simpa using h0) (by simp)
def firstI {α:Type} (p:Nat→α→Bool):List α→Nat→Option (Nat × α)
 | [],_=>none
 | x :: r,i=>if p i x then some (i,x) else firstI p r (i+1)
theorem Zfn {α σ τ ρ:Type} {body:Nat→α→σ→Option (Ex σ τ ρ)} {fin:σ→τ} {l:List α} {s:σ} (p:Nat→α→Bool) (r:Nat→α→ρ)
  (h:∀i x,l[i]? =some x→body i x s=some (if p i x then .ret (r i x) else .next s)) :
  forL l body fin s=some (match firstI p l 0 with | some e=> .inr (r e.1 e.2) | none=> .inl (fin s)):=by
 rw[ZcS]
 have key:∀(q:List α) (i:Nat),l.drop i=q→goL body fin q i s=some (match firstI p q i with | some e=> .inr (r e.1 e.2) | none=> .inl (fin s)):=by
  intro q
  induction q with
  | nil=>intro i _;rfl
  | cons x q ih =>
   intro i hd
   have hx:l[i]? =some x:=by rw[←Nat.add_zero i,←List.getElem?_drop,hd];rfl
   simp only[goL,h i x hx,firstI]
   cases p i x with
   | true=>simp
   | false =>
    simp only[Bool.false_eq_true,if_false,Option.bind_some]
    exact ih (i+1) (by rw[←List.drop_drop,hd];rfl)
 exact key l 0 rfl
theorem Zgp {α:Type} (p:α→Bool):∀(l:List α) (i:Nat),(firstI (fun _=>p) l i).isSome=l.any p
 | [],_=>rfl
 | x :: l,i=>by
  simp only[firstI,List.any_cons]
  by_cases h:p x=true
  ·simp[h]
  ·simp[h,Zgp p l (i+1)]
theorem Zeg {α:Type} {p:Nat→α→Bool}:∀ {l:List α} {i:Nat},firstI p l i=none↔∀j x,l[j]? =some x→p (i+j) x=false
 | [],i=>by simp[firstI]
 | x :: l,i=>by
  simp only[firstI]
  constructor
  ·intro h
   split at h
   ·cases h
   ·rename_i hp
    have:=Zeg.1 h
    intro j y hy
    cases j with
    | zero=>simp at hy;subst hy;simpa using hp
    | succ j=>have:=this j y (by simpa using hy);rw[←this];congr 1;omega
  ·intro h
   rw[if_neg (by simpa using h 0 x rfl)]
   exact Zeg.2 fun j y hy=>by have:=h (j+1) y (by simpa using hy);rw[←this];congr 1;omega
theorem ZeW {α:Type} {p:Nat→α→Bool}:∀ {l:List α} {i:Nat} {e:Nat × α},firstI p l i=some e→∃j,e.1=i+j∧l[j]? =some e.2∧p e.1 e.2=true
 | [],_,_,h=>by cases h
 | x :: l,i,e,h=>by
  simp only[firstI] at h
  split at h
  ·cases h;exact⟨0,rfl,rfl,by assumption⟩
  ·obtain⟨j,h1,h2,h3⟩:=ZeW h
   exact⟨j+1,by omega,by simpa using h2,h3⟩
theorem forN_find {σ τ ρ:Type} {body:Nat→σ→Option (Ex σ τ ρ)} {fin:σ→τ} {s:σ} (p:Nat→Bool) (r:Nat→ρ):∀(n i:Nat),(∀j,i≤j→j<i+n→body j s=some (if p j then .ret (r j) else .next s)) →
  forN body fin n i s=some (match (List.range' i n).find? p with | some j=> .inr (r j) | none=> .inl (fin s))
 | 0,_,_=>rfl
 | n+1,i,h=>by
  simp only[forN,h i (Nat.le_refl _) (by omega),List.range'_succ,List.find?_cons]
  cases p i with
  | true=>simp
  | false =>
   simp only[Bool.false_eq_true,if_false,Option.bind_some]
   exact forN_find p r n (i+1) fun j h1 h2=>h j (by omega) (by omega)
theorem loopW_find {τ ρ:Type} {f:Int→Option (Ex Int τ ρ)} {t:τ} (N:Nat) (p:Nat→Bool) (r:Nat→ρ) (hend:f N=some (.brk t)):∀(n i:Nat),i+n=N →
  (∀j:Nat,i≤j→j<N→f j=some (if p j then .ret (r j) else .next ((j+1:Nat):Int)))→loopW f i=some (match (List.range' i n).find? p with | some j=> .inr (r j) | none=> .inl t)
 | 0,i,hi,_=>by
  obtain rfl:i=N:=by omega
  rw[Zd9,hend];rfl
 | n+1,i,hi,h=>by
  rw[Zd9,h i (Nat.le_refl _) (by omega),List.range'_succ,List.find?_cons]
  cases p i with
  | true=>simp
  | false =>
   simp only[Bool.false_eq_true,if_false,Option.bind_some]
   exact loopW_find N p r hend n (i+1) (by omega) fun j h1 h2=>h j (by omega) h2
theorem sidx_nat {s:ByteArray} {i:Nat} (h:i<s.size):sidx s (i:Int)=some ((s[i]'h).toNat:Int):=by
 simp[sidx,getElem?_pos,h]
def visible (s:ByteArray):Bool:=(List.range' 0 s.size).all fun i=>match s[i]? with | some b=>decide (33≤b.toNat∧b.toNat≤126) | none=>false
theorem find_vis (s:ByteArray) (p:Nat→Bool) (h:∀i (hi:i<s.size),p i= !decide (33≤(s[i]'hi).toNat∧(s[i]'hi).toNat≤126)):((List.range' 0 s.size).find? p).isSome= !visible s:=by
 apply Bool.eq_iff_iff.2
 rw[visible,List.find?_isSome]
 simp only[Bool.not_eq_true',List.all_eq_false]
 constructor
 ·rintro⟨x,hx,hp⟩
  refine⟨x,hx,?_⟩
  have hlt:x<s.size:=by simpa using hx
  rw[h x hlt] at hp
  simp[getElem?_pos,hlt] at hp ⊢;omega
 ·rintro⟨x,hx,hp⟩
  refine⟨x,hx,?_⟩
  have hlt:x<s.size:=by simpa using hx
  rw[h x hlt]
  simp[getElem?_pos,hlt] at hp ⊢;omega
end Go.Abs
namespace Go.Abs
open Go
theorem bl_irrefl:∀(x:List UInt8),Op.bytesLess x x=false
 | []=>rfl
 | a :: x=>by simp[Op.bytesLess,bl_irrefl x]
theorem bl_trans:∀ {x y z:List UInt8},Op.bytesLess x y=true→Op.bytesLess y z=true→Op.bytesLess x z=true
 | x,_,[],_,h=>by cases ‹List UInt8› <;>simp[Op.bytesLess] at h
 | [],_,_ :: _,_,_=>by simp[Op.bytesLess]
 | _ :: _,[],_,h,_=>by simp[Op.bytesLess] at h
 | a :: x,b :: y,c :: z,h1,h2=>by
  simp only[Op.bytesLess,Bool.or_eq_true,Bool.and_eq_true,decide_eq_true_eq,beq_iff_eq] at *
  rcases h1 with h1 | ⟨rfl,h1⟩
  ·rcases h2 with h2 | ⟨rfl,h2⟩
   ·exact .inl (UInt8.lt_trans h1 h2)
   ·exact .inl h1
  ·rcases h2 with h2 | ⟨rfl,h2⟩
   ·exact .inl h2
   ·exact .inr ⟨rfl,bl_trans h1 h2⟩
theorem bl_total:∀ {x y:List UInt8},Op.bytesLess x y=false→Op.bytesLess y x=false→x=y
 | [],[],_,_=>rfl
 | [],_ :: _,h,_=>by simp[Op.bytesLess] at h
 | _ :: _,[],_,h=>by simp[Op.bytesLess] at h
 | a :: x,b :: y,h1,h2=>by
  simp only[Op.bytesLess,Bool.or_eq_false_iff,Bool.and_eq_false_imp,decide_eq_false_iff_not,beq_iff_eq] at *
  have e:a=b:=UInt8.le_antisymm (UInt8.not_lt.1 h2.1) (UInt8.not_lt.1 h1.1)
  subst e
  rw[bl_total (h1.2 rfl) (h2.2 rfl)]
theorem Zgw (x:ByteArray):sLt x x=false:=bl_irrefl _
theorem ZhC {x y z:ByteArray} (h1:sLt x y=true) (h2:sLt y z=true):sLt x z=true:=bl_trans h1 h2
theorem sLt_total {x y:Str} (h1:sLt x.b y.b=false) (h2:sLt y.b x.b=false):x=y:=by
 apply sEq_iff.1
 unfold sEq
 rw[bl_total h1 h2];simp
theorem sLt_asymm {x y:ByteArray} (h1:sLt x y=true):sLt y x=false:=by
 rw[←Bool.not_eq_true]
 intro h2
 have:=ZhC h1 h2
 rw[Zgw] at this;cases this
theorem sEq_self (x:ByteArray):sEq x x=true:=by simp[sEq]
theorem sLt_ne {x y:Str} (h:sLt x.b y.b=true):x≠y:=by
 rintro rfl;rw[Zgw] at h;cases h
def cmpS (x y:Str):Int:=if sLt x.b y.b=true then -1 else if x=y then 0 else 1
theorem ZcW {z:Int} (h1: -9223372036854775808≤z) (h2:z≤9223372036854775807):w64 z=z:=wrap64 h1 h2
theorem w64_succ {j:Nat} (h:j<9223372036854775807):w64 ((j:Int)+1)=((j+1:Nat):Int):=by rw[ZcW (by omega) (by omega)];omega
theorem w64_pred {j:Nat} (h:j<9223372036854775807):w64 (((j+1:Nat):Int) - 1)=(j:Int):=by rw[ZcW (by omega) (by omega)];omega
theorem ZfN {α:Type} (l:List α) (i:Nat):idx l (i:Int)=l[i]? :=by simp[idx]
theorem ex_ite {σ τ ρ:Type} {c:Bool} (a b:Ex σ τ ρ):(if c=true then some a else some b)=some (if c=true then a else b):=by cases c<;>rfl
theorem app_ok {α:Type} {b:Nat} {l m:List α} (h1:(l.length+m.length)*b≤lim) (h2:l.length+m.length≤lim):app b l m=some (l++m):=by simp[app,h1,h2]
theorem ZfS {α:Type} {b n:Nat} {l:List α} {x:α} (h1:l.length<n) (h2:n*b≤lim) (h3:n≤lim):app b l [x]=some (l++ [x]):=by
 refine app_ok (Nat.le_trans (Nat.mul_le_mul_right b ?_) h2) (Nat.le_trans ?_ h3)<;>simp<;>omega
theorem fold_filter {α:Type} (p:α→Bool):∀(l s:List α),l.foldl (fun s x=>if p x=true then s++ [x] else s) s=s++l.filter p
 | [],s=>by simp
 | x :: l,s=>by
  simp only[List.foldl_cons,List.filter_cons]
  rw[fold_filter p l]
  cases h:p x<;>simp
theorem take_len {α:Type} {l:List α} {i:Nat} {x:α} (h:l[i]? =some x):(l.take i).length=i∧(l.take (i+1)).length=i+1:=by
 have:=ZaB h
 simp;omega
theorem forL_filter {α τ ρ:Type} {body:Nat→α→List α→Option (Ex (List α) τ ρ)} {fin:List α→τ} {l:List α} (p:α→Bool)
    (h:∀i x s,l[i]? =some x→s.length≤i→body i x s=some (.next (if p x=true then s++ [x] else s))):forL l body fin []=some (.inl (fin (l.filter p))):=by
  have:=(forL_map (body:=body) (fin:=fin) (l:=l) (fun x s=>if p x=true then s++ [x] else s) [] (fun q s=>s.length≤q.length) (Nat.le_refl _) (fun i x s hx hs=>by
    obtain⟨h1,h2⟩:=take_len hx
    rw[h1] at hs
    refine⟨h i x s hx hs,?_⟩
    rw[h2]
    split<;>(try simp)<;>omega)).1
  rw[this,fold_filter];rfl
theorem ZeH {α:Type} {R:α→α→Prop} (ht:∀a b c,R a b→R b c→R a c):∀ {l:List α},(∀i a b,l[i]? =some a→l[i+1]? =some b→R a b)→l.Pairwise R
 | [],_=>List.Pairwise.nil
 | x :: l,h=>by
  have ih:=ZeH ht (l:=l) fun i a b h1 h2=>h (i+1) a b (by simpa using h1) (by simpa using h2)
  refine List.pairwise_cons.2 ⟨?_,ih⟩
  intro y hy
  cases l with
  | nil=>cases hy
  | cons z l =>
   have hz:R x z:=h 0 x z rfl rfl
   cases hy with
   | head=>exact hz
   | tail _ hy=>exact ht _ _ _ hz ((List.pairwise_cons.1 ih).1 y hy)
theorem Zba {τ ρ:Type} (t:τ) (k:τ→Option ρ):seqK (some (.inl t)) k=k t:=rfl
theorem Str.size_lim (x:Str):x.b.size≤9223372036854775807:=x.h
end Go.Abs
namespace Go.Abs
open Go
def rise (m:Int):Option Int→List Int→Int
 | _,[]=>0
 | p,n :: r=>if n<0∨m<n then 9 else if ∃q,p=some q∧n≤q then 10 else rise m (some n) r
def riseAt (m:Int) (l:List Int) (i:Nat):Int:=rise m (if i=0 then none else l[i - 1]?) (l.drop i)
def calFault (fr hol:List Int):Int :=
 if 6<fr.length∨2000<hol.length then 3 else if riseAt 6 fr 0≠0 then riseAt 6 fr 0 else riseAt 1000000 hol 0
structure CalOk (fr hol:List Int):Prop where
 fr7:∀x∈fr,0≤x∧x≤6
 frS:fr.Pairwise (· < ·)
 frL:fr.length≤6
 holM:∀x∈hol,0≤x∧x≤1000000
 holS:hol.Pairwise (· < ·)
 holL:hol.length≤2000
def bits (l:List Int):List Bool:=(List.range 7).map fun (i:Nat)=>decide ((i:Int)∈l)
def firstF (p:Nat→Bool):Nat→Nat→Nat
 | i,0=>i
 | i,n+1=>if p i then i else firstF p (i+1) n
def first (p:Nat→Bool) (n:Nat):Nat:=firstF p 0 n
def isWork (fr hol:List Int) (d:Int):Bool:= !decide (d.tmod 7∈fr) && !decide (d∈hol)
def cw (fr hol:List Int) (a:Int):Nat→Nat
 | 0=>0
 | n+1=>cw fr hol a n+(if isWork fr hol (a+n) then 1 else 0)
def addK (fr hol:List Int) (d n:Int):Nat:=first (fun k=>decide (n≤(cw fr hol d k:Int))) (1000001 - d).toNat
def below (l:List Int) (t:Int):Nat:=(l.filter (fun x=>decide (x<t))).length
def notFree (fr:List Int) (d:Int):Bool:= !decide (d.tmod 7∈fr)
def part (fr:List Int) (n:Nat):Nat:=((List.range n).filter fun (i:Nat)=> !decide ((i:Int)∈fr)).length
def wcount (fr hol:List Int) (d:Int):Int:=d.tdiv 7*(7 - fr.length)+part fr (d.tmod 7).toNat - below (hol.filter (notFree fr)) d
end Go.Abs
