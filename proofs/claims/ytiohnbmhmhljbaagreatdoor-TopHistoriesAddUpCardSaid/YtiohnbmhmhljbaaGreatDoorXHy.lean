/-
  Plain facts of history:windows are the days on which something is open;the laws on Why and on open days.
-/
import Derived.Test.YtiohnbmhmhljbaaGreatDoorFHy
import Derived.Test.YtiohnbmhmhljbaaGreatDoorXHw
namespace Go.Abs
open Go
def acW (w:Zab):Zal:=Zal.mk w.Advisory w.Component
structure WI (ps:List Zaa) (st:Lasts × Wins):Prop where
 ok:lastsOk st
 pos:∀w∈st.2,w.From<w.To
 key:∀k i,mget Zal.keq k st.1=some i→∃w,st.2[i.toNat]? =some w∧acW w=k∧∀(j:Nat) w',i.toNat<j→st.2[j]? =some w'→acW w'≠k
 nokey:∀k,mget Zal.keq k st.1=none→∀w∈st.2,acW w≠k
 sep:∀(i j:Nat) w w',i<j→st.2[i]? =some w→st.2[j]? =some w'→acW w=acW w'→w.To<w'.From
 last:∀w∈st.2,∃p∈ps,keyP p=acW w∧p.to'=w.To
 cov:∀k d,(∃w∈st.2,acW w=k∧w.From≤d∧d<w.To)↔(∃p∈ps,keyP p=k∧p.from'≤d∧d<p.to')
theorem WI.merge {ps:List Zaa} {st:Lasts × Wins} (h:WI ps st) {p:Zaa} (hp:p.from'<p.to') {n:Nat} {w:Zab} (hm:mget Zal.keq (keyP p) st.1=some (n:Int)) (hw:st.2[n]? =some w) (he:w.To=p.from') :
  WI (ps++ [p]) (st.1,st.2.set n (moreW p w)):=by
 have hn:=ZaB hw
 obtain⟨w1,k1,k2,k3⟩:=h.key _ _ hm
 simp only[Int.toNat_natCast] at k1 k3
 rw[hw] at k1;cases k1
 have hwp:w.From<w.To:=h.pos w (List.mem_of_getElem? hw)
 have hget:∀j,(st.2.set n (moreW p w))[j]? =if n=j then some (moreW p w) else st.2[j]? :=fun j=>by
  rw[List.getElem?_set]
  by_cases e:n=j
  ·rw[if_pos e,if_pos e,if_pos hn]
  ·rw[if_neg e,if_neg e]
 have hac:∀j,((st.2.set n (moreW p w))[j]?).map acW=(st.2[j]?).map acW:=fun j=>by
  rw[hget]
  split
  ·rename_i e;subst e;rw[hw];rfl
  ·rfl
 have hac':∀(j:Nat) u,(st.2.set n (moreW p w))[j]? =some u→∃v,st.2[j]? =some v∧acW v=acW u:=fun j u hu=>by
  have:=hac j
  rw[hu] at this
  cases hv:st.2[j]? with
  | none=>rw[hv] at this;cases this
  | some v=>rw[hv] at this;exact⟨v,rfl,(Option.some.inj this).symm⟩
 have hmem:∀u∈st.2.set n (moreW p w),u=moreW p w∨u∈st.2:=fun u hu=>(List.mem_or_eq_of_mem_set hu).symm
 refine {ok:=?_,pos:=?_,key:=?_,nokey:=?_,sep:=?_,last:=?_,cov:=?_}
 ·intro k i hk
  have:=h.ok k i hk
  simpa using this
 ·intro u hu
  rcases hmem u hu with rfl | hu
  ·show w.From<p.to'
   omega
  ·exact h.pos u hu
 ·intro k i hk
  obtain⟨u,u1,u2,u3⟩:=h.key k i hk
  have:=hac i.toNat
  rw[u1] at this
  cases hv:(st.2.set n (moreW p w))[i.toNat]? with
  | none=>rw[hv] at this;cases this
  | some v =>
   rw[hv] at this
   refine⟨v,rfl,(Option.some.inj this).trans u2,fun j w' hj hw'=>?_⟩
   obtain⟨v',hv',e⟩:=hac' j w' hw'
   rw[←e];exact u3 j v' hj hv'
 ·intro k hk u hu
  obtain⟨j,hj⟩:=List.getElem?_of_mem hu
  obtain⟨v,hv,e⟩:=hac' j u hj
  rw[←e];exact h.nokey k hk v (List.mem_of_getElem? hv)
 ·intro i j u u' hij hu hu' hk
  dsimp only at hu hu'
  rw[hget] at hu hu'
  by_cases e1:n=i
  ·subst e1
   rw[if_pos rfl] at hu;cases hu
   rw[if_neg (by omega)] at hu'
   exact absurd (hk.symm.trans k2) (k3 j u' hij hu')
  ·rw[if_neg e1] at hu
   by_cases e2:n=j
   ·subst e2
    rw[if_pos rfl] at hu';cases hu'
    exact h.sep i n u w hij hu hw hk
   ·rw[if_neg e2] at hu'
    exact h.sep i j u u' hij hu hu' hk
 ·intro u hu
  rcases hmem u hu with rfl | hu
  ·exact⟨p,by simp,k2.symm,rfl⟩
  ·obtain⟨q,q1,q2⟩:=h.last u hu
   exact⟨q,by simp[q1],q2⟩
 ·intro k d
  constructor
  ·rintro⟨u,hu,e,h1,h2⟩
   rcases hmem u hu with rfl | hu
   ·by_cases hd:d<w.To
    ·obtain⟨q,q1,q2⟩:=(h.cov k d).1 ⟨w,List.mem_of_getElem? hw,e,h1,hd⟩
     exact⟨q,by simp[q1],q2⟩
    ·exact⟨p,by simp,k2.symm.trans e,by omega,h2⟩
   ·obtain⟨q,q1,q2⟩:=(h.cov k d).1 ⟨u,hu,e,h1,h2⟩
    exact⟨q,by simp[q1],q2⟩
  ·rintro⟨q,hq,e,h1,h2⟩
   have hnew:moreW p w∈st.2.set n (moreW p w):=List.mem_of_getElem? (i:=n) (by rw[hget,if_pos rfl])
   rw[List.mem_append,List.mem_singleton] at hq
   rcases hq with hq | rfl
   ·obtain⟨u,hu,e',h3,h4⟩:=(h.cov k d).2 ⟨q,hq,e,h1,h2⟩
    obtain⟨j,hj⟩:=List.getElem?_of_mem hu
    by_cases e1:n=j
    ·subst e1
     rw[hw] at hj;cases hj
     exact⟨_,hnew,e',h3,by show d<p.to';omega⟩
    ·exact⟨u,List.mem_of_getElem? (i:=j) (by rw[hget,if_neg e1];exact hj),e',h3,h4⟩
   ·exact⟨_,hnew,k2.trans e,by show w.From≤d;omega,h2⟩
theorem WI.push {ps:List Zaa} {st:Lasts × Wins} (h:WI ps st) {p:Zaa} (hp:p.from'<p.to') (hq:∀q∈ps,keyP q=keyP p→q.to'≤p.from')
  (hne:∀i w,mget Zal.keq (keyP p) st.1=some i→st.2[i.toNat]? =some w→w.To≠p.from') :
  WI (ps++ [p]) (mset Zal.keq (keyP p) (st.2.length:Int) st.1,st.2++ [newW p]):=by
 have hlt:∀w∈st.2,acW w=keyP p→w.To<p.from':=by
  intro w hw e
  obtain⟨q,q1,q2,q3⟩:=h.last w hw
  have h1:w.To≤p.from':=by rw[←q3];exact hq q q1 (q2.trans e)
  cases hm:mget Zal.keq (keyP p) st.1 with
  | none=>exact absurd e (h.nokey _ hm w hw)
  | some i =>
   obtain⟨u,u1,u2,u3⟩:=h.key _ _ hm
   have h2:=hne i u hm u1
   obtain⟨r,r1,r2,r3⟩:=h.last u (List.mem_of_getElem? u1)
   have h3:u.To≤p.from':=by rw[←r3];exact hq r r1 (r2.trans u2)
   obtain⟨j,hj⟩:=List.getElem?_of_mem hw
   rcases Nat.lt_trichotomy j i.toNat with e1 | e1 | e1
   ·have h4:=h.sep j i.toNat w u e1 hj u1 (e.trans u2.symm)
    have h5:=h.pos u (List.mem_of_getElem? u1)
    omega
   ·subst e1
    rw[hj] at u1;cases u1
    omega
   ·exact absurd e (u3 j w e1 hj)
 have hget:∀j,j<st.2.length→(st.2++ [newW p])[j]? =st.2[j]? :=fun j hj=>List.getElem?_append_left hj
 have hlastg:(st.2++ [newW p])[st.2.length]? =some (newW p):=by simp
 have hcase:∀(j:Nat) u,(st.2++ [newW p])[j]? =some u→(j<st.2.length∧st.2[j]? =some u)∨(j=st.2.length∧u=newW p):=fun j u hu=>by
  have hj:=ZaB hu
  simp only[List.length_append,List.length_singleton] at hj
  rcases Nat.lt_or_ge j st.2.length with h1 | h1
  ·exact .inl ⟨h1,by rw[←hget j h1];exact hu⟩
  ·obtain rfl:j=st.2.length:=by omega
   rw[hlastg] at hu
   exact .inr ⟨rfl,(Option.some.inj hu).symm⟩
 have hac:acW (newW p)=keyP p:=rfl
 refine {ok:=?_,pos:=?_,key:=?_,nokey:=?_,sep:=?_,last:=?_,cov:=?_}
 ·intro k i hk
  dsimp only at hk ⊢
  by_cases e:k=keyP p
  ·rw[(Ze9 Zhx k (keyP p) _ st.1).1 e] at hk
   cases hk
   simp
  ·rw[(Ze9 Zhx k (keyP p) _ st.1).2 e] at hk
   have:=h.ok k i hk
   simp;omega
 ·intro w hw
  rcases List.mem_append.1 hw with hw | hw
  ·exact h.pos w hw
  ·rw[List.mem_singleton] at hw;subst hw;exact hp
 ·intro k i hk
  dsimp only at hk ⊢
  by_cases e:k=keyP p
  ·rw[(Ze9 Zhx k (keyP p) _ st.1).1 e] at hk
   cases hk
   refine⟨newW p,by rw[Int.toNat_natCast];exact hlastg,e.symm,fun j w' hj hw'=>?_⟩
   have:=ZaB hw'
   simp at this hj;omega
  ·rw[(Ze9 Zhx k (keyP p) _ st.1).2 e] at hk
   obtain⟨w,w1,w2,w3⟩:=h.key k i hk
   have hi:=(h.ok k i hk).2
   refine⟨w,by rw[hget _ hi];exact w1,w2,fun j w' hj hw'=>?_⟩
   rcases hcase j w' hw' with ⟨h1,h2⟩ | ⟨_,rfl⟩
   ·exact w3 j w' hj h2
   ·rw[hac];exact fun e'=>e e'.symm
 ·intro k hk w hw
  dsimp only at hk hw
  have e:k≠keyP p:=fun e=>by rw[(Ze9 Zhx k (keyP p) _ st.1).1 e] at hk;cases hk
  rw[(Ze9 Zhx k (keyP p) _ st.1).2 e] at hk
  rcases List.mem_append.1 hw with hw | hw
  ·exact h.nokey k hk w hw
  ·rw[List.mem_singleton] at hw;subst hw;rw[hac];exact fun e'=>e e'.symm
 ·intro i j w w' hij hw hw' hk
  rcases hcase j w' hw' with ⟨h1,h2⟩ | ⟨h1,rfl⟩
  ·rcases hcase i w hw with ⟨h3,h4⟩ | ⟨h3,_⟩
   ·exact h.sep i j w w' hij h4 h2 hk
   ·omega
  ·rcases hcase i w hw with ⟨h3,h4⟩ | ⟨h3,_⟩
   ·exact hlt w (List.mem_of_getElem? h4) hk
   ·omega
 ·intro w hw
  rcases List.mem_append.1 hw with hw | hw
  ·obtain⟨q,q1,q2⟩:=h.last w hw
   exact⟨q,by simp[q1],q2⟩
  ·rw[List.mem_singleton] at hw;subst hw
   exact⟨p,by simp,rfl,rfl⟩
 ·intro k d
  constructor
  ·rintro⟨w,hw,e,h1,h2⟩
   rcases List.mem_append.1 hw with hw | hw
   ·obtain⟨q,q1,q2⟩:=(h.cov k d).1 ⟨w,hw,e,h1,h2⟩
    exact⟨q,by simp[q1],q2⟩
   ·rw[List.mem_singleton] at hw;subst hw
    exact⟨p,by simp,e,h1,h2⟩
  ·rintro⟨q,hq',e,h1,h2⟩
   rcases List.mem_append.1 hq' with hq' | hq'
   ·obtain⟨w,hw,e',h3⟩:=(h.cov k d).2 ⟨q,hq',e,h1,h2⟩
    exact⟨w,by simp[hw],e',h3⟩
   ·rw[List.mem_singleton] at hq';subst hq'
    exact⟨newW q,by simp,e,h1,h2⟩
theorem WI.step {ps:List Zaa} {st:Lasts × Wins} (h:WI ps st) {p:Zaa} (hp:p.from'<p.to') (hq:∀q∈ps,keyP q=keyP p→q.to'≤p.from'):WI (ps++ [p]) (wstep st p):=by
 unfold wstep
 cases hm:mget Zal.keq (keyP p) st.1 with
 | none=>exact h.push hp hq (fun i w hi=>by rw[hm] at hi;cases hi)
 | some i =>
  obtain⟨h1,h2⟩:=h.ok _ _ hm
  obtain⟨n,rfl⟩:∃n:Nat,i=(n:Int):=⟨i.toNat,by omega⟩
  simp only[Int.toNat_natCast] at h2 ⊢
  obtain⟨w,hw⟩:=ZaE h2
  simp only[hw]
  by_cases e:w.To=p.from'
  ·rw[if_pos e];exact h.merge hp hm hw e
  ·rw[if_neg e]
   exact h.push hp hq (fun i u hi hu=>by rw[hm] at hi;cases hi;rw[Int.toNat_natCast,hw] at hu;cases hu;exact e)
theorem WI.fold:∀(qs:List Zaa) {ps:List Zaa} {st:Lasts × Wins},WI ps st→(∀p∈qs,p.from'<p.to')→(ps++qs).Pairwise (fun p q=>keyP p=keyP q→p.to'≤q.from')→WI (ps++qs) (qs.foldl wstep st)
 | [],ps,st,h,_,_=>by simpa using h
 | p :: qs,ps,st,h,hp,hd=>by
  have h1:=h.step (p:=p) (hp p (List.mem_cons_self ..)) (fun q hq e=>(List.pairwise_append.1 hd).2.2 q hq p (List.mem_cons_self ..) e)
  have:=WI.fold qs h1 (fun q hq=>hp q (List.mem_cons_of_mem _ hq)) (by simpa using hd)
  simpa using this
theorem WI.nil:WI [] ([],[]) where
 ok:=fun k i hk=>by simp[mget] at hk
 pos:=fun w hw=>by simp at hw
 key:=fun k i hk=>by simp[mget] at hk
 nokey:=fun k _ w hw=>by simp at hw
 sep:=fun i j w w' _ hw=>by simp at hw
 last:=fun w hw=>by simp at hw
 cov:=fun k d=>by simp
theorem pcs_sep {m:Pubs} {u:Int}:∀ {l:List Zag},l.Pairwise (fun a b=>a.Day<b.Day)→(∀r∈l,esFault r.Exposures=0)→(pcs m u l).Pairwise (fun p q=>keyP p=keyP q→p.to'≤q.from')
  | [],_,_=>List.Pairwise.nil
  | r :: l,hd,he=>by
    rw[List.pairwise_cons] at hd
    simp only[pcs]
    rw[List.pairwise_append]
    refine⟨?_,pcs_sep hd.2 (fun x hx=>he x (List.mem_cons_of_mem _ hx)),fun p hp q hq _=>?_⟩
    · unfold pcsOf
      rw[List.pairwise_map]
      refine ((es_pairwise (he r (List.mem_cons_self ..))).filter _).imp fun {x y} hxy hk=>?_
      have:=bef_ne hxy
      simp only[keyP,pieceOf,Zal.mk.injEq] at hk
      exact absurd (by rw[hk.1,hk.2]) this
    · have h1:=Zhu hp
      cases l with
      | nil=>simp[pcs] at hq
      | cons r' l =>
        have h2:=pcs_ge (m:=m) (u:=u) (d:=r'.Day) (l:=r' :: l) (fun x hx=>by
          rcases List.mem_cons.1 hx with rfl | hx
          · exact Int.le_refl _
          · exact Int.le_of_lt ((List.pairwise_cons.1 hd.2).1 x hx)) q hq
        simp only[endOf] at h1
        omega
theorem pcs_pos {m:Pubs} {u:Int}:∀ {l:List Zag},∀p∈pcs m u l,p.from'<p.to'
 | [],p,hp=>by simp[pcs] at hp
 | r :: l,p,hp=>by
  simp only[pcs,List.mem_append] at hp
  rcases hp with hp | hp
  ·exact (Zhu hp).2.1
  ·exact pcs_pos p hp
theorem story_WI {s:Zam} (h:StoryOk s):WI (pcs (ZaQ s) s.Until s.Releases) ((pcs (ZaQ s) s.Until s.Releases).foldl wstep ([],[])):=by
  have:=WI.nil.fold (pcs (ZaQ s) s.Until s.Releases) (fun p hp=>pcs_pos p hp) (by
    simpa using pcs_sep (rel_days h) (fun r hr=>by
      obtain⟨i,hi⟩:=List.getElem?_of_mem hr
      exact (h.rel i r hi).2.2.1))
  simpa using this
structure WFacts (s:Zam) (r:Wins):Prop where
 pos:∀w∈r,w.From<w.To
 sep:r.Pairwise (fun a b=>acW a=acW b→a.To<b.From)
 cov:∀k d,(∃w∈r,acW w=k∧w.From≤d∧d<w.To)↔(∃p∈pcs (ZaQ s) s.Until s.Releases,keyP p=k∧p.from'≤d∧d<p.to')
theorem wfacts {s:Zam} (h:StoryOk s) {r:Wins} (hr:Wdw s r):WFacts s r:=by
 have hw:=story_WI h
 have hmem:∀w,w∈r↔∃v∈((pcs (ZaQ s) s.Until s.Releases).foldl wstep ([],[])).2,setOpen s.Until v=w:=fun w=>by
  rw[←hr.perm.mem_iff]
  unfold unsorted winsOf
  rw[List.mem_map]
 have hp:(unsorted s).Pairwise (fun a b=>acW a=acW b→a.To<b.From∨b.To<a.From):=by
  unfold unsorted winsOf
  rw[List.pairwise_map,List.pairwise_iff_getElem]
  intro i j hi hj hij e
  have h3:=hw.sep i j _ _ hij (List.getElem?_eq_getElem hi) (List.getElem?_eq_getElem hj)
  exact .inl (h3 e)
 have hpos:∀w∈r,w.From<w.To:=fun w hwr=>by
  obtain⟨v,hv,rfl⟩:=(hmem w).1 hwr
  exact hw.pos v hv
 refine⟨hpos,?_,?_⟩
 ·have h2:=hp.perm hr.perm (fun {x y} hxy e=>(hxy e.symm).symm)
  refine List.Pairwise.imp_of_mem (fun {a b} ha hb hab e=>?_) (h2.and hr.sorted)
  rcases hab.1 e with h3 | h3
  ·exact h3
  ·exfalso
   have h4:=hab.2
   have h5:=hpos a ha
   have h6:=hpos b hb
   apply h4
   unfold wlt
   simp only[Bool.or_eq_true,decide_eq_true_eq]
   left;omega
 ·intro k d
  rw[←hw.cov k d]
  constructor
  ·rintro⟨w,hwr,e,h1,h2⟩
   obtain⟨v,hv,rfl⟩:=(hmem w).1 hwr
   exact⟨v,hv,e,h1,h2⟩
  ·rintro⟨v,hv,e,h1,h2⟩
   exact⟨setOpen s.Until v,(hmem _).2 ⟨v,hv,rfl⟩,e,h1,h2⟩
def onW (day:Int) (w:Zab):Bool:=decide (w.From≤day) && decide (day<w.To)
def keyX (x:Zad):Zal:=Zal.mk x.Advisory x.Component
theorem openR_pieces {s:Zam} (h:StoryOk s) (day:Int):openR s day=((pcs (ZaQ s) s.Until s.Releases).filter (onDay day)).map (fun p=>p.x):=by
  rw[pcs_day (fun x=>pub_ended h x) (rel_days h) (fun r hr=>by
          obtain⟨i,hi⟩:=List.getElem?_of_mem hr
          exact (h.rel i r hi).2.1)]
  rfl
theorem open_mem {s:Zam} (h:StoryOk s) {r:Wins} (hr:WFacts s r) (day:Int) (k:Zal):k∈(r.filter (onW day)).map acW↔k∈(openR s day).map keyX:=by
 rw[openR_pieces h,List.mem_map,List.map_map,List.mem_map]
 have hc:=hr.cov k day
 constructor
 ·rintro⟨w,hw,e⟩
  rw[List.mem_filter] at hw
  have h2:=hw.2
  simp only[onW,Bool.and_eq_true,decide_eq_true_eq] at h2
  obtain⟨p,p1,p2,p3⟩:=hc.1 ⟨w,hw.1,e,h2⟩
  exact⟨p,List.mem_filter.2 ⟨p1,by simpa [onDay] using p3⟩,p2⟩
 ·rintro⟨p,hp,e⟩
  rw[List.mem_filter] at hp
  have h2:=hp.2
  simp only[onDay,Bool.and_eq_true,decide_eq_true_eq] at h2
  obtain⟨w,w1,w2,w3⟩:=hc.2 ⟨p,hp.1,e,h2⟩
  exact⟨w,List.mem_filter.2 ⟨w1,by simpa [onW] using w3⟩,w2⟩
theorem contains_any {l:List Zad} {g:Zad→Option Bool} (p:Zad→Bool) (hg:∀x,g x=some (p x)):ZcY l g=some (l.any p):=by
 unfold ZcY Zdn
 rw[Zfn (fun _ x=>p x) (fun i _=>(i:Int))]
 ·have h:=Zgp p l 0
  cases hf:firstI (fun (_:Nat) (x:Zad)=>p x) l 0 with
  | none=>rw[hf] at h;simp[seqK,←h]
  | some e =>
   rw[hf] at h
   simp only[seqK,Option.bind_some,Option.isSome_some] at h ⊢
   rw[←h];simp
 ·intro i x _
  rw[hg,Option.bind_some]
  exact ex_ite _ _
end Go.Abs
