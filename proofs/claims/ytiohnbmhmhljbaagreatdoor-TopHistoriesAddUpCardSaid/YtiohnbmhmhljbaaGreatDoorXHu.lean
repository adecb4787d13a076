/-
  Plain facts of history:what makes a story right;cut and joined stories;the laws on Cut and Join.
-/
import Derived.Test.YtiohnbmhmhljbaaGreatDoorFHu
import Derived.Test.YtiohnbmhmhljbaaGreatDoorXHy
namespace Go.Abs
open Go
def kOk (x:Zac):Bool:=nameOk x.Advisory && !((!dayOk x.Day) || ((x.Ended != (-1)) && ((decide (x.Ended<x.Day)) || (decide (x.Ended>1000000)))))
def pLt (a b:Zac):Prop:=sLt a.Advisory.b b.Advisory.b=true
structure KS (l:List Zac):Prop where
 each:∀x∈l,kOk x=true
 ord:l.Pairwise pLt
theorem pLt_trans {a b c:Zac} (h1:pLt a b) (h2:pLt b c):pLt a c:=ZhC h1 h2
theorem pLt_irrefl (a:Zac):¬pLt a a:=by unfold pLt;rw[Zgw];simp
theorem pLt_ne {a b:Zac} (h:pLt a b):a.Advisory≠b.Advisory:=sLt_ne h
theorem pLt_tri (a b:Zac):pLt a b∨a.Advisory=b.Advisory∨pLt b a:=by
 unfold pLt
 cases h1:sLt a.Advisory.b b.Advisory.b with
 | true=>exact .inl rfl
 | false=>cases h2:sLt b.Advisory.b a.Advisory.b with
  | true=>exact .inr (.inr rfl)
  | false=>exact .inr (.inl (sLt_total h1 h2))
theorem ZhG (l:List Zac) (i:Nat) (x:Zac):kFault l i x=0↔kOk x=true∧prevB l i (fun y=>sLt x.Advisory.b y.Advisory.b || sEq x.Advisory.b y.Advisory.b)=false:=by
 unfold kFault kOk
 cases nameOk x.Advisory with
 | false=>simp
 | true =>
  cases prevB l i (fun y=>sLt x.Advisory.b y.Advisory.b || sEq x.Advisory.b y.Advisory.b) with
  | true=>simp
  | false =>
   cases ((!dayOk x.Day) || ((x.Ended != (-1)) && ((decide (x.Ended<x.Day)) || (decide (x.Ended>1000000)))))<;>simp
theorem ks_iff (l:List Zac):ksFault l=0↔KS l:=by
 constructor
 ·intro h
  have hz:=ks_zero h
  refine⟨fun x hx=>?_,ZeH (R:=pLt) (fun a b c=>pLt_trans) fun i a b ha hb=>?_⟩
  ·obtain⟨i,hi⟩:=List.getElem?_of_mem hx
   exact ((ZhG l i x).1 (hz i x hi)).1
  ·have:=((ZhG l (i+1) b).1 (hz (i+1) b hb)).2
   simp only[prevB,ha,Bool.or_eq_false_iff,Zd3,decide_eq_false_iff_not] at this
   rcases pLt_tri a b with h1 | h1 | h1
   ·exact h1
   ·exact absurd h1.symm this.2
   ·rw[show sLt b.Advisory.b a.Advisory.b=true from h1] at this;cases this.1
 ·intro h
  unfold ksFault
  have hn:firstI (fun i x=>decide (kFault l i x≠0)) l 0=none:=by
   refine Zeg.2 fun j x hx=>?_
   simp only[Nat.zero_add,ne_eq,decide_eq_false_iff_not,Classical.not_not]
   refine (ZhG l j x).2 ⟨h.each x (List.mem_of_getElem? hx),?_⟩
   cases j with
   | zero=>rfl
   | succ j =>
    have hj:=ZaB hx
    have hy:l[j]? =some l[j]:=List.getElem?_eq_getElem (by omega)
    rw[List.getElem?_eq_getElem hj] at hx;cases hx
    have h1:pLt l[j] l[j+1]:=(List.pairwise_iff_getElem.1 h.ord) j (j+1) (by omega) hj (by omega)
    simp only[prevB,hy,Bool.or_eq_false_iff,Zd3,decide_eq_false_iff_not]
    exact⟨sLt_asymm h1,fun e=>pLt_ne h1 e.symm⟩
  rw[hn]
structure RS (l:List Zag):Prop where
 each:∀r∈l,nameOk r.Version=true∧0≤r.Day∧esFault r.Exposures=0
 days:l.Pairwise (fun a b=>a.Day<b.Day)
 vers:(l.map (·.Version)).Nodup
def verMap (l:List Zag) (m:List (Str × Bool)):Prop:=∀v,(mget kEqS v m).getD false=decide (v∈l.map (·.Version))
theorem verMap_next {l:List Zag} {m:List (Str × Bool)} (h:verMap l m) (r:Zag):verMap (l++ [r]) (mset kEqS r.Version true m):=by
 intro v
 rw[mget_mset]
 by_cases e:v=r.Version
 ·simp[e]
 ·rw[if_neg e,h v]
  simp[e]
theorem prev_days {l:List Zag} (h:l.Pairwise (fun a b=>a.Day<b.Day)) {i:Nat} {x:Zag} (hx:l[i]? =some x):prevB l i (fun y=>decide (x.Day≤y.Day))=false:=by
 cases i with
 | zero=>rfl
 | succ i =>
  have hj:=ZaB hx
  have hy:l[i]? =some l[i]:=List.getElem?_eq_getElem (by omega)
  rw[List.getElem?_eq_getElem hj] at hx;cases hx
  have:=(List.pairwise_iff_getElem.1 h) i (i+1) (by omega) hj (by omega)
  simp only[prevB,hy,decide_eq_false_iff_not]
  omega
theorem Zhw {α:Type} {l:List α} {i:Nat} {x:α} (hx:l[i]? =some x):l.take (i+1)=l.take i++ [x]:=by rw[List.take_add_one,hx];rfl
theorem relLoop_rs {s:Zam} (h:RS s.Releases):∃y,relLoop s=some y∧Out (fun _=>∀r∈s.Releases,r.Day≤s.Until) (fun e=>e=9∧∃r∈s.Releases,s.Until<r.Day) y:=by
 unfold relLoop
 refine forL_inv' (I:=fun i m=>verMap (s.Releases.take i) m∧∀r∈s.Releases.take i,r.Day≤s.Until) ⟨fun v=>by simp[mget],fun r hr=>by simp at hr⟩ ?_ (fun m hm=>by rw[List.take_length] at hm;exact hm.2)
 rintro i x m hx ⟨h1,h2⟩
 obtain⟨e1,e2,e3⟩:=h.each x (List.mem_of_getElem? hx)
 have hv:(mget kEqS x.Version m).getD false=false:=by
  rw[h1,decide_eq_false_iff_not]
  intro hm
  have hs:=Zhw hx
  have hn:((s.Releases.take (i+1)).map (·.Version)).Nodup:=h.vers.sublist ((List.take_sublist _ _).map _)
  rw[hs,List.map_append,List.nodup_append] at hn
  exact hn.2.2 _ hm _ (by simp) rfl
 rw[e1,hv]
 simp only[Bool.not_true,Bool.false_eq_true,if_false,prev_days h.days hx,e3,bne_self_eq_false]
 by_cases hd:s.Until<x.Day
 ·rw[if_pos (by simp;omega)]
  exact⟨_,rfl,rfl,x,List.mem_of_getElem? hx,hd⟩
 ·rw[if_neg (by simp;omega)]
  refine⟨_,rfl,?_,fun r hr=>?_⟩
  ·rw[Zhw hx];exact verMap_next h1 x
  ·rw[Zhw hx,List.mem_append,List.mem_singleton] at hr
   rcases hr with hr | rfl
   ·exact h2 r hr
   ·omega
theorem relLoop_vers {s:Zam} {t:Unit} (h:relLoop s=some (.inl t)):(s.Releases.map (·.Version)).Nodup∧∀r∈s.Releases,nameOk r.Version=true:=by
  obtain⟨m,_,hm⟩:=forL_inv h (fun i m=>verMap (s.Releases.take i) m∧((s.Releases.take i).map (·.Version)).Nodup∧∀r∈s.Releases.take i,nameOk r.Version=true) ⟨fun v=>by simp[mget],by simp,fun r hr=>by simp at hr⟩ (fun i x m t' _ _ hb=>by
      revert hb
      repeat' split
      all_goals (intro hc;cases hc)) (fun i x m m' hx ⟨h1,h2,h3⟩ hb=>by
      split at hb
      · cases hb
      · rename_i c1
        split at hb
        · cases hb
        · rename_i c2
          split at hb
          · cases hb
          · split at hb
            · cases hb
            · split at hb
              · cases hb
              · cases hb
                rw[Zhw hx]
                rw[h1] at c2
                refine⟨verMap_next h1 x,?_,fun r hr=>?_⟩
                · rw[List.map_append,List.nodup_append]
                  refine⟨h2,by simp,fun a ha b hb=>?_⟩
                  simp only[List.map_cons,List.map_nil,List.mem_singleton] at hb
                  subst hb
                  rintro rfl
                  rw[decide_eq_true_eq] at c2
                  exact c2 ha
                · rw[List.mem_append,List.mem_singleton] at hr
                  rcases hr with hr | rfl
                  · exact h3 r hr
                  · simpa using c1)
  rw[List.take_length] at hm
  exact hm.2
def advKnown (ks:List Zac) (rs:List Zag):Prop:=∀r∈rs,∀e∈r.Exposures,∃k∈ks,k.Advisory=e.Advisory
theorem knownMap_get (l:List Zac) (v:Str):(mget kEqS v (knownMap l)).getD false=decide (∃k∈l,k.Advisory=v):=by
 unfold knownMap
 rw[mget_fold (fun (x:Zac)=>x.Advisory) (fun _=>true)]
 cases hf:l.reverse.find? (fun x=>decide (v=x.Advisory)) with
 | some k =>
  have h1:=List.find?_some hf
  have h2:=List.mem_of_find?_eq_some hf
  simp only[decide_eq_true_eq] at h1
  simp only[Option.getD_some]
  symm
  rw[decide_eq_true_eq]
  exact⟨k,by simpa using h2,h1.symm⟩
 | none =>
  rw[List.find?_eq_none] at hf
  simp only[mget,Option.getD_none]
  symm
  rw[decide_eq_false_iff_not]
  rintro⟨k,hk,e⟩
  exact hf k (by simpa using hk) (by simp[e])
theorem ZhH (s:Zam):allKnown s=true↔advKnown s.Known s.Releases:=by
 unfold allKnown advKnown
 simp only[List.all_eq_true,knownMap_get,decide_eq_true_eq]
structure SOk (s:Zam):Prop where
 name:nameOk s.Product=true
 day:dayOk s.Until=true
 lenR:s.Releases.length≤500
 lenK:s.Known.length≤2000
 rs:RS s.Releases
 until':∀r∈s.Releases,r.Day≤s.Until
 ks:KS s.Known
 kn:advKnown s.Known s.Releases
theorem sok_of {s:Zam} (h:sFault s=0):SOk s:=by
 have ok:=storyOk h
 unfold sFault at h
 split at h
 ·cases h
 ·rename_i h1
  split at h
  ·cases h
  ·rename_i h2
   split at h
   ·cases h
   ·rename_i h3
    split at h
    ·rename_i e he;exact absurd h (Zhy he)
    ·rename_i hne
     obtain⟨y,hy⟩:=Ze5 s
     cases y with
     | inr e=>exact absurd hy (hne e)
     | inl u =>
      have hks:ksFault s.Known=0:=by
       refine Classical.byContradiction fun hk=>?_
       rw[if_pos hk] at h;exact hk h
      rw[if_neg (by simpa using hks)] at h
      have hak:allKnown s=true:=by
       cases hq:allKnown s with
       | true=>rfl
       | false=>rw[hq] at h;cases h
      obtain⟨v1,v2⟩:=relLoop_vers hy
      have hr:∀r∈s.Releases,0≤r.Day∧r.Day≤s.Until∧esFault r.Exposures=0:=fun r hr=>by
       obtain⟨i,hi⟩:=List.getElem?_of_mem hr
       obtain⟨q1,q2,q3,_⟩:=ok.rel i r hi
       exact⟨q1,q2,q3⟩
      exact⟨by simpa using h1,by simpa using h2,ok.lenR,ok.lenK,⟨fun r hr'=>⟨v2 r hr',(hr r hr').1,(hr r hr').2.2⟩,rel_days ok,v1⟩,fun r hr'=>(hr r hr').2.1,(ks_iff _).1 hks,(ZhH s).1 hak⟩
theorem sFault_of {s:Zam} (h1:nameOk s.Product=true) (h2:dayOk s.Until=true) (h3:RS s.Releases) (h4:KS s.Known) (h5:advKnown s.Known s.Releases) [Decidable (∃r∈s.Releases,s.Until<r.Day)] :
  sFault s=if 500<s.Releases.length∨2000<s.Known.length then 3 else if ∃r∈s.Releases,s.Until<r.Day then 9 else 0:=by
 unfold sFault
 rw[if_neg (by simp[h1]),if_neg (by simp[h2])]
 split
 ·rfl
 ·obtain⟨y,hy,ho⟩:=relLoop_rs h3
  rw[hy]
  cases y with
  | inr e=>rw[if_pos ho.2];exact ho.1
  | inl u =>
   have:¬ ∃r∈s.Releases,s.Until<r.Day:=by
    rintro⟨r,hr,hd⟩
    have:=ho r hr
    omega
   rw[if_neg this]
   dsimp only
   rw[if_neg (by simpa using (ks_iff _).2 h4),if_pos ((ZhH s).2 h5)]
theorem sFault_ok {s:Zam} (h:SOk s):sFault s=0:=by
 classical
 rw[sFault_of h.name h.day h.rs h.ks h.kn,if_neg (by have:=h.lenR;have:=h.lenK;omega),if_neg]
 rintro⟨r,hr,hd⟩
 have:=h.until' r hr
 omega
def conflict (a b:List Zac):Prop:=∃x∈a,∃y∈b,x.Advisory=y.Advisory∧x≠y
structure KU (a b K:List Zac):Prop where
 ord:K.Pairwise pLt
 mem:∀x,x∈K↔x∈a∨x∈b
theorem ord_unique {l m:List Zac} (hl:l.Pairwise pLt) (hm:m.Pairwise pLt) (h:∀x,x∈l↔x∈m):l=m:=by
 have nd:∀ {l:List Zac},l.Pairwise pLt→l.Nodup:=fun h=>List.nodup_iff_pairwise_ne.2 (h.imp fun {x y} h (e:x=y)=>pLt_ne h (by rw[e]))
 refine List.Perm.eq_of_pairwise (le:=pLt) (fun a b _ _ h1 h2=>absurd (pLt_trans h1 h2) (pLt_irrefl a)) hl hm ((List.perm_ext_iff_of_nodup (nd hl) (nd hm)).2 h)
theorem KU.eq {a b K K':List Zac} (h:KU a b K) (h':KU a b K'):K=K':=ord_unique h.ord h'.ord fun x=>by rw[h.mem,h'.mem]
def JOut (a b:List Zac) (r:List Zac × Bool):Prop:=(conflict a b∧r=([],false))∨(¬conflict a b∧r.2=true∧KU a b r.1)
theorem JOut.eq {a b:List Zac} {r r':List Zac × Bool} (h:JOut a b r) (h':JOut a b r'):r=r':=by
 rcases h with ⟨h1,h2⟩ | ⟨h1,h2,h3⟩<;>rcases h' with ⟨h4,h5⟩ | ⟨h4,h5,h6⟩
 ·rw[h2,h5]
 ·exact absurd h1 h4
 ·exact absurd h4 h1
 ·exact Prod.ext (h3.eq h6) (h2.trans h5.symm)
structure JInv (a b p q o:List Zac):Prop where
 so:o.Pairwise pLt
 sp:p.Pairwise pLt
 sq:q.Pairwise pLt
 op:∀x∈o,∀u∈p,pLt x u
 oq:∀x∈o,∀u∈q,pLt x u
 mem:∀x,(x∈o∨x∈p∨x∈q)↔(x∈a∨x∈b)
 conf:conflict p q↔conflict a b
 len:o.length+p.length+q.length≤a.length+b.length
theorem JInv.left {a b p q o:List Zac} {x:Zac} (h:JInv a b (x :: p) q o) (hx:∀u∈q,pLt x u):JInv a b p q (o++ [x]) where
 so:=List.pairwise_append.2 ⟨h.so,List.pairwise_singleton _ _,fun u hu v hv=>by rw[List.mem_singleton] at hv;subst hv;exact h.op u hu _ (List.mem_cons_self ..)⟩
 sp:=(List.pairwise_cons.1 h.sp).2
 sq:=h.sq
 op:=fun u hu v hv=>by
  rcases List.mem_append.1 hu with hu | hu
  ·exact h.op u hu v (List.mem_cons_of_mem _ hv)
  ·rw[List.mem_singleton] at hu;subst hu;exact (List.pairwise_cons.1 h.sp).1 v hv
 oq:=fun u hu v hv=>by
  rcases List.mem_append.1 hu with hu | hu
  ·exact h.oq u hu v hv
  ·rw[List.mem_singleton] at hu;subst hu;exact hx v hv
 mem:=fun y=>by
  rw[←h.mem y]
  simp only[List.mem_append,List.mem_cons,List.not_mem_nil,or_false]
  constructor
  ·rintro ((h | h) | h | h)
   ·exact .inl h
   ·exact .inr (.inl (.inl h))
   ·exact .inr (.inl (.inr h))
   ·exact .inr (.inr h)
  ·rintro (h | (h | h) | h)
   ·exact .inl (.inl h)
   ·exact .inl (.inr h)
   ·exact .inr (.inl h)
   ·exact .inr (.inr h)
 conf:=by
  rw[←h.conf]
  constructor
  ·rintro⟨u,hu,v,hv,e⟩;exact⟨u,List.mem_cons_of_mem _ hu,v,hv,e⟩
  ·rintro⟨u,hu,v,hv,e,hne⟩
   rcases List.mem_cons.1 hu with rfl | hu
   ·exact absurd e (pLt_ne (hx v hv))
   ·exact⟨u,hu,v,hv,e,hne⟩
 len:=by have:=h.len;simp at this ⊢;omega
theorem JInv.right {a b p q o:List Zac} {x:Zac} (h:JInv a b p (x :: q) o) (hx:∀u∈p,pLt x u):JInv a b p q (o++ [x]) where
 so:=List.pairwise_append.2 ⟨h.so,List.pairwise_singleton _ _,fun u hu v hv=>by rw[List.mem_singleton] at hv;subst hv;exact h.oq u hu _ (List.mem_cons_self ..)⟩
 sp:=h.sp
 sq:=(List.pairwise_cons.1 h.sq).2
 op:=fun u hu v hv=>by
  rcases List.mem_append.1 hu with hu | hu
  ·exact h.op u hu v hv
  ·rw[List.mem_singleton] at hu;subst hu;exact hx v hv
 oq:=fun u hu v hv=>by
  rcases List.mem_append.1 hu with hu | hu
  ·exact h.oq u hu v (List.mem_cons_of_mem _ hv)
  ·rw[List.mem_singleton] at hu;subst hu;exact (List.pairwise_cons.1 h.sq).1 v hv
 mem:=fun y=>by
  rw[←h.mem y]
  simp only[List.mem_append,List.mem_cons,List.not_mem_nil,or_false]
  constructor
  ·rintro ((h | h) | h | h)
   ·exact .inl h
   ·exact .inr (.inr (.inl h))
   ·exact .inr (.inl h)
   ·exact .inr (.inr (.inr h))
  ·rintro (h | h | h | h)
   ·exact .inl (.inl h)
   ·exact .inr (.inl h)
   ·exact .inl (.inr h)
   ·exact .inr (.inr h)
 conf:=by
  rw[←h.conf]
  constructor
  ·rintro⟨u,hu,v,hv,e⟩;exact⟨u,hu,v,List.mem_cons_of_mem _ hv,e⟩
  ·rintro⟨u,hu,v,hv,e,hne⟩
   rcases List.mem_cons.1 hv with rfl | hv
   ·exact absurd e.symm (pLt_ne (hx u hu))
   ·exact⟨u,hu,v,hv,e,hne⟩
 len:=by have:=h.len;simp at this ⊢;omega
theorem JInv.both {a b p q o:List Zac} {x:Zac} (h:JInv a b (x :: p) (x :: q) o):JInv a b p q (o++ [x]) where
 so:=List.pairwise_append.2 ⟨h.so,List.pairwise_singleton _ _,fun u hu v hv=>by rw[List.mem_singleton] at hv;subst hv;exact h.oq u hu _ (List.mem_cons_self ..)⟩
 sp:=(List.pairwise_cons.1 h.sp).2
 sq:=(List.pairwise_cons.1 h.sq).2
 op:=fun u hu v hv=>by
  rcases List.mem_append.1 hu with hu | hu
  ·exact h.op u hu v (List.mem_cons_of_mem _ hv)
  ·rw[List.mem_singleton] at hu;subst hu;exact (List.pairwise_cons.1 h.sp).1 v hv
 oq:=fun u hu v hv=>by
  rcases List.mem_append.1 hu with hu | hu
  ·exact h.oq u hu v (List.mem_cons_of_mem _ hv)
  ·rw[List.mem_singleton] at hu;subst hu;exact (List.pairwise_cons.1 h.sq).1 v hv
 mem:=fun y=>by
  rw[←h.mem y]
  simp only[List.mem_append,List.mem_cons,List.not_mem_nil,or_false]
  constructor
  ·rintro ((h | h) | h | h)
   ·exact .inl h
   ·exact .inr (.inl (.inl h))
   ·exact .inr (.inl (.inr h))
   ·exact .inr (.inr (.inr h))
  ·rintro (h | (h | h) | h | h)
   ·exact .inl (.inl h)
   ·exact .inl (.inr h)
   ·exact .inr (.inl h)
   ·exact .inl (.inr h)
   ·exact .inr (.inr h)
 conf:=by
  rw[←h.conf]
  constructor
  ·rintro⟨u,hu,v,hv,e⟩;exact⟨u,List.mem_cons_of_mem _ hu,v,List.mem_cons_of_mem _ hv,e⟩
  ·rintro⟨u,hu,v,hv,e,hne⟩
   rcases List.mem_cons.1 hu with e1 | hu'
   ·rcases List.mem_cons.1 hv with e2 | hv'
    ·exact absurd (e1.trans e2.symm) hne
    ·exact absurd (e1▸e) (pLt_ne ((List.pairwise_cons.1 h.sq).1 v hv'))
   ·rcases List.mem_cons.1 hv with e2 | hv'
    ·exact absurd (e2▸e).symm (pLt_ne ((List.pairwise_cons.1 h.sp).1 u hu'))
    ·exact⟨u,hu',v,hv',e,hne⟩
 len:=by have:=h.len;simp at this ⊢;omega
def pubsOf (l:List Zac):Pubs:=l.foldl (fun m x=>mset kEqS x.Advisory x m) []
open Classical in
noncomputable def newIn (a b:List Zac):List Zac:=b.filter fun y=>decide (∀x∈a,x.Advisory≠y.Advisory)
def storyZ:Zam:=Zam.mk str_ [] [] 0
def cutOf (s:Zam) (day:Int):Zam:=Zam.mk s.Product (s.Releases.filter fun r=>decide (r.Day<day)) s.Known (if day<s.Until then day else s.Until)
def cutA (s:Zam) (day:Int):Zam × Int:=if sFault s≠0 then (storyZ,sFault s) else if dayOk day=false then (storyZ,9) else (cutOf s day,0)
theorem history_Cut_eq (s:Zam) (day:Int):Zhc s day=some (cutA s day):=by
 simp only[Zhc,Zfb,ZgM,Option.bind_some,cutA]
 by_cases h:sFault s=0
 ·have ok:=storyOk h
  have hl:=ok.lenR
  have hk:=ok.lenK
  simp only[h,bne_self_eq_false,Bool.false_eq_true,if_false,ne_eq,not_true_eq_false]
  cases dayOk day with
  | false=>rfl
  | true =>
   simp only[Bool.not_true,Bool.false_eq_true,if_false,reduceCtorEq]
   have hc:ZgU s.Known=some s.Known:=by
    unfold ZgU
    rw[app_ok (by simp;unfold lim;omega) (by simp;unfold lim;omega)]
    simp
   rw[hc,Option.bind_some,forL_filter (fun r=>decide (r.Day<day)),Zba]
   ·rfl
   ·intro i x st hx hst
    have hi:=ZaB hx
    rw[copied_eq (ok.rel i x hx).2.2.1,Option.bind_some,ZfS (n:=1000001) (by omega) (by decide) (by decide)]
    cases decide (x.Day<day)<;>rfl
 ·rw[if_pos (by simpa using h),if_pos h];rfl
def early (b:Zam) (r:Zag):Bool:=match b.Releases with | []=>true | x :: _=>decide (r.Day<x.Day)
def joinR (a b:Zam):List Zag:=a.Releases.filter (early b)++b.Releases
theorem KU.ks {a b K:List Zac} (h:KU a b K) (ha:KS a) (hb:KS b):KS K:=⟨fun x hx=>by
  rcases (h.mem x).1 hx with h1 | h1
  · exact ha.each x h1
  · exact hb.each x h1,h.ord⟩
open Classical in
noncomputable def joinA (a b:Zam) (K:List Zac × Bool):Zam × Int :=
 if K.2=false∨¬((joinR a b).map (·.Version)).Nodup then (storyZ,5)
 else if 500<(joinR a b).length∨2000<K.1.length then (storyZ,3)
 else if ∃r∈joinR a b,b.Until<r.Day then (storyZ,9)
 else (Zam.mk a.Product (joinR a b) K.1 b.Until,0)
open Classical in
open Classical in
open Classical in
open Classical in
theorem ZhB (d:Int):dayOk d=true↔0≤d∧d≤1000000:=by simp[dayOk]
theorem RS.filter {l:List Zag} (h:RS l) (p:Zag→Bool):RS (l.filter p):=⟨fun r hr=>h.each r (List.mem_filter.1 hr).1,h.days.filter _,h.vers.sublist (List.filter_sublist.map _)⟩
theorem cut_ok {s:Zam} (h:SOk s) {day:Int} (hd:dayOk day=true):SOk (cutOf s day) where
 name:=h.name
 day:=by
  show dayOk (if day<s.Until then day else s.Until)=true
  split
  ·exact hd
  ·exact h.day
 lenR:=Nat.le_trans (List.length_filter_le _ _) h.lenR
 lenK:=h.lenK
 rs:=h.rs.filter _
 until':=fun r hr=>by
  have h1:=List.mem_filter.1 hr
  have h2:=h.until' r h1.1
  have h3:=h1.2
  simp only[decide_eq_true_eq] at h3
  show r.Day≤(if day<s.Until then day else s.Until)
  split<;>omega
 ks:=h.ks
 kn:=fun r hr=>h.kn r (List.mem_filter.1 hr).1
def restOf (s:Zam) (day:Int):Zam:=Zam.mk s.Product (s.Releases.filter fun r=>decide (r.Day≥day)) s.Known s.Until
end Go.Abs
