/-
  Numbers of a history,the plain law:the days on which somebody was exposed (no program is in sight).
-/
import Derived.Test.YtiohnbmhmhljbaaGreatDoorXHy
import Derived.Test.YtiohnbmhmhljbaaGreatDoorFHn
namespace Go.Abs
open Go
set_option maxRecDepth 8000
theorem count_split {c d:Nat→Bool}:∀N:Nat,(∀k,k<N→c k=true→d k=false)→(List.range N).countP (fun k=>c k || d k)=(List.range N).countP c+(List.range N).countP d
 | 0,_=>rfl
 | N+1,h=>by
  rw[List.range_succ,List.countP_append,List.countP_append,List.countP_append,count_split N (fun k hk=>h k (by omega))]
  have:=h N (by omega)
  cases hc:c N<;>cases hd:d N<;>simp_all<;>omega
theorem count_Ico {s e:Int} (hs:0≤s):∀N:Nat,(((List.range N).countP (fun k:Nat=>decide (s≤(k:Int)) && decide ((k:Int)<e)):Nat):Int)=((if e<N then e else N) - s).toNat
 | 0=>by simp;split<;>omega
 | N+1=>by
  rw[List.range_succ,List.countP_append,Int.natCast_add,count_Ico hs N]
  by_cases h1:s≤(N:Int)<;>by_cases h2:(N:Int)<e<;>simp[h1,h2]<;>split<;>(try split)<;>omega
theorem Zeo {c d:Nat→Bool} {N:Nat} (h:∀k,k<N→c k=d k):(List.range N).countP c=(List.range N).countP d :=
 List.countP_congr fun k hk=>by rw[h k (List.mem_range.1 hk)]
def rel1 (v3:Int) (k:Nat) (p:Zaa):Bool:=decide (v3≤p.x.Severity) && (decide (p.from'≤(k:Int)) && decide ((k:Int)<p.to'))
def cov (v1 v3:Int) (ps:List Zaa) (k:Nat):Bool:=decide (v1≤(k:Int)) && ps.any (rel1 v3 k)
theorem cov_snoc (v1 v3:Int) (ps:List Zaa) (p:Zaa) (k:Nat):cov v1 v3 (ps++ [p]) k=(cov v1 v3 ps k || (decide (v1≤(k:Int)) && rel1 v3 k p)):=by
 simp[cov,Bool.and_or_distrib_left]
theorem cov_perm {v1 v3:Int} {ps qs:List Zaa} (h:ps.Perm qs) (k:Nat):cov v1 v3 ps k=cov v1 v3 qs k:=by
 have:ps.any (rel1 v3 k)=qs.any (rel1 v3 k):=by
  rw[Bool.eq_iff_iff,List.any_eq_true,List.any_eq_true]
  exact⟨fun⟨x,hx,h2⟩=>⟨x,h.mem_iff.1 hx,h2⟩,fun⟨x,hx,h2⟩=>⟨x,h.mem_iff.2 hx,h2⟩⟩
 rw[cov,cov,this]
theorem take_snoc {α:Type} {l:List α} {i:Nat} {x:α} (h:l[i]? =some x):l.take (i+1)=l.take i++ [x]:=by
 rw[List.take_add_one,h];rfl
def fromM (v1:Int) (p:Zaa):Int:=if v1<p.from' then p.from' else v1
def toM (v2:Int) (p:Zaa):Int:=if p.to'<v2 then p.to' else v2
theorem gen_stableP (fuel:Nat) (l:List Zaa) (g:Zaa→Zaa→Option Int):Za0 fuel l g=Zce fuel l g:=by
 have h1:Za1=Zbp:=rfl
 have h2:ZaY=ZbI:=rfl
 have h3:ZbN=Zcs:=rfl
 have h4:ZaO fuel=Zbh fuel:=by
  induction fuel with
  | zero=>rfl
  | succ n ih =>
   funext a b c d e
   unfold ZaO Zbh
   rw[ih]
   rfl
 have h5:Zbl fuel=Zcc fuel:=by
  funext a b c
  unfold Zbl Zcc
  rw[h4,h1]
 unfold Za0 Zce
 rw[h5]
def cmpP (a b:Zaa):Int:=cmpI a.from' b.from'
theorem cmpP_eq (a b:Zaa):ZbT a b=some (cmpP a b):=by
 simp[ZbT,Zev,cmpP]
theorem cmpP_lt (a b:Zaa):cmpP a b<0↔a.from'<b.from':=by
 unfold cmpP cmpI
 split
 ·simp;assumption
 ·split<;>simp<;>omega
theorem cmpP_ok:Cmp3 cmpP:=⟨fun x y h h2=>by rw[cmpP_lt] at h h2;omega,fun x y z h1 h2 h3=>by rw[cmpP_lt] at h1 h2 h3;omega⟩
theorem pcs_len' {s:Zam} (h:StoryOk s):(pcs (ZaQ s) s.Until s.Releases).length≤250000:=by
 have hlen:=h.lenR
 have hpl:=pcs_len (ZaQ s) s.Until s.Releases (ZeT h)
 omega
theorem sortedP {l:List Zaa} (hl:l.length≤1000000):∃r,ZbR bigFuel l ZbT=some r∧l.Perm r∧r.Pairwise (fun x y=>x.from'≤y.from'):=by
 obtain⟨q,q1,q2,q3⟩:=sort_stable (g:=ZbT) cmpP_eq cmpP_ok (fuel:=bigFuel) (d:=l) (by unfold bigFuel;omega) (by unfold lim;omega)
 have hc:ZbA l=some l:=by
  unfold ZbA
  rw[app_ok (by simp;unfold lim;omega) (by simp;unfold lim;omega)]
  simp
 refine⟨q,by simp only[ZbR,hc,gen_stableP,q1,Option.bind_some,ZbB q2.length_eq.symm],q2,q3.imp fun h=>?_⟩
 rw[cmpP_lt] at h;omega
theorem sweep_ok {ρ:Type} {v1 v2 v3:Int} (h1:0≤v1) (h12:v1≤v2) (h2:v2≤1000000) {r:List Zaa} (hr:r.Pairwise (fun x y=>x.from'≤y.from')) :
  ∃y,forL (σ:=Int × Int) (τ:=Int) (ρ:=ρ) r (fun _ x10 (n11,n12)=>if (decide (x10.x.Severity<v3))=true then (some (.next (n11,n12))) else (if (decide ((if n12<x10.from' then x10.from' else n12)<(if x10.to'<v2 then x10.to' else v2)))=true then (some (.next (w64 (n11+(w64 ((if x10.to'<v2 then x10.to' else v2) - (if n12<x10.from' then x10.from' else n12)))),(if x10.to'<v2 then x10.to' else v2)))) else (some (.next (n11,n12))))) (fun (n11,n12)=>n11) (0,v1)=some y ∧
   Out (fun n=>n=(((List.range v2.toNat).countP (cov v1 v3 r):Nat):Int)) (fun _=>False) y:=by
 refine forL_inv' (fun i s=>s.1=(((List.range v2.toNat).countP (cov v1 v3 (r.take i)):Nat):Int)∧v1≤s.2∧s.2≤v2∧(∀k,k<v2.toNat→cov v1 v3 (r.take i) k=true→(k:Int)<s.2)∧(s.2=v1∨∃q∈r.take i,v3≤q.x.Severity∧s.2≤q.to'))
  ⟨?_,Int.le_refl _,h12,fun k _ h=>?_,.inl rfl⟩ (fun i p s hp hs=>?_) (fun s hs=>?_)
 ·have:∀k,cov v1 v3 (r.take 0) k=false:=fun k=>by simp[cov]
  rw[Zeo (d:=fun _=>false) (fun k _=>this k)]
  simp
 ·simp[cov] at h
 ·obtain⟨n,m⟩:=s
  obtain⟨i1,i2,i3,i4,i5⟩:=hs
  dsimp only at i1 i2 i3 i4 i5 ⊢
  rw[take_snoc hp]
  have hbound:(List.range v2.toNat).countP (cov v1 v3 (r.take i))≤v2.toNat:=by
   have:=List.countP_le_length (p:=cov v1 v3 (r.take i)) (l:=List.range v2.toNat)
   rwa [List.length_range] at this
  have hfrom:∀q∈r.take i,q.from'≤p.from':=fun q hq=>by
   obtain⟨j,hj,e⟩:=List.mem_take_iff_getElem.1 hq
   have hir:i<r.length:=ZaB hp
   have h3:=List.pairwise_iff_getElem.1 hr j i (by omega) hir (by omega)
   rw[List.getElem?_eq_getElem hir] at hp
   cases hp
   rw[←e];exact h3
  by_cases hsev:p.x.Severity<v3
  ·rw[if_pos (decide_eq_true hsev)]
   have hcc:∀k,cov v1 v3 (r.take i++ [p]) k=cov v1 v3 (r.take i) k:=fun k=>by
    rw[cov_snoc,rel1,decide_eq_false (show ¬v3≤p.x.Severity by omega)];simp
   refine⟨_,rfl,?_,i2,i3,fun k hk h=>i4 k hk (by rw[hcc] at h;exact h),?_⟩
   ·dsimp only;rw[i1,Zeo fun k _=>hcc k]
   ·rcases i5 with h | ⟨q,hq,h⟩
    ·exact .inl h
    ·exact .inr ⟨q,List.mem_append_left _ hq,h⟩
  ·rw[if_neg (by simp;omega)]
   have hgap:∀k:Nat,v1≤(k:Int)→p.from'≤(k:Int)→(k:Int)<m→cov v1 v3 (r.take i) k=true:=fun k k1 k2 k3=>by
    rcases i5 with rfl | ⟨q,hq,q1,q2⟩
    ·omega
    ·rw[cov,decide_eq_true k1,Bool.true_and,List.any_eq_true]
     refine⟨q,hq,?_⟩
     have:=hfrom q hq
     rw[rel1,decide_eq_true q1,decide_eq_true (show q.from'≤(k:Int) by omega),decide_eq_true (show (k:Int)<q.to' by omega)]
     rfl
   obtain⟨S,hS,S1,S2,S3⟩:∃S,(if m<p.from' then p.from' else m)=S∧m≤S∧p.from'≤S∧(S=m∨S=p.from'):=⟨_,rfl,by split<;>omega,by split<;>omega,by split<;>omega⟩
   obtain⟨E,hE,E1,E2,E3⟩:∃E,(if p.to'<v2 then p.to' else v2)=E∧E≤v2∧E≤p.to'∧(E=v2∨E=p.to'):=⟨_,rfl,by split<;>omega,by split<;>omega,by split<;>omega⟩
   simp only[hS,hE]
   by_cases hse:S<E
   ·rw[if_pos (decide_eq_true hse)]
    have hcc:∀k,k<v2.toNat→cov v1 v3 (r.take i++ [p]) k=(cov v1 v3 (r.take i) k || (decide (S≤(k:Int)) && decide ((k:Int)<E))):=fun k hk=>by
     rw[cov_snoc]
     by_cases hck:cov v1 v3 (r.take i) k=true
     ·rw[hck,Bool.true_or,Bool.true_or]
     ·rw[Bool.eq_false_iff.2 hck,Bool.false_or,Bool.false_or,rel1,decide_eq_true (show v3≤p.x.Severity by omega),Bool.true_and,Bool.eq_iff_iff]
      simp only[Bool.and_eq_true,decide_eq_true_eq]
      constructor
      ·rintro⟨k1,k2,k3⟩
       have hkm:¬(k:Int)<m:=fun h=>hck (hgap k k1 k2 h)
       omega
      ·rintro⟨k1,k2⟩
       omega
    have hcnt:(((List.range v2.toNat).countP (cov v1 v3 (r.take i++ [p])):Nat):Int)=n+(E - S):=by
     have hS0:0≤S:=by omega
     rw[Zeo hcc,count_split _ (fun k hk h=>?_),Int.natCast_add,←i1,count_Ico hS0]
     ·split<;>omega
     ·have:=i4 k hk h
      rw[decide_eq_false (by omega),Bool.false_and]
    have hb2:(List.range v2.toNat).countP (cov v1 v3 (r.take i++ [p]))≤v2.toNat:=by
     have:=List.countP_le_length (p:=cov v1 v3 (r.take i++ [p])) (l:=List.range v2.toNat)
     rwa [List.length_range] at this
    refine⟨_,rfl,?_,?_,?_,fun k hk h=>?_,.inr ⟨p,List.mem_append_right _ (List.mem_singleton.2 rfl),by omega,?_⟩⟩
    ·dsimp only
     rw[hcnt,ZcW (z:=E - S) (by omega) (by omega),ZcW (by omega) (by omega)]
    ·dsimp only;omega
    ·dsimp only;omega
    ·dsimp only
     rw[hcc k hk,Bool.or_eq_true] at h
     rcases h with h | h
     ·have:=i4 k hk h
      omega
     ·simp only[Bool.and_eq_true,decide_eq_true_eq] at h
      exact h.2
    ·dsimp only;omega
   ·rw[if_neg (by simpa using hse)]
    have hcc:∀k,k<v2.toNat→cov v1 v3 (r.take i++ [p]) k=cov v1 v3 (r.take i) k:=fun k hk=>by
     rw[cov_snoc]
     by_cases hck:cov v1 v3 (r.take i) k=true
     ·rw[hck,Bool.true_or]
     ·rw[Bool.eq_false_iff.2 hck,Bool.false_or,rel1,decide_eq_true (show v3≤p.x.Severity by omega),Bool.true_and,Bool.eq_false_iff]
      simp only[ne_eq,Bool.and_eq_true,decide_eq_true_eq]
      rintro⟨k1,k2,k3⟩
      have hkm:¬(k:Int)<m:=fun h=>hck (hgap k k1 k2 h)
      omega
    refine⟨_,rfl,?_,i2,i3,fun k hk h=>i4 k hk (by rw[hcc k hk] at h;exact h),?_⟩
    ·dsimp only;rw[i1,Zeo hcc]
    ·rcases i5 with h | ⟨q,hq,h⟩
     ·exact .inl h
     ·exact .inr ⟨q,List.mem_append_left _ hq,h⟩
 ·obtain⟨n,m⟩:=s
  have:=hs.1
  rw[List.take_length] at this
  exact this
end Go.Abs
