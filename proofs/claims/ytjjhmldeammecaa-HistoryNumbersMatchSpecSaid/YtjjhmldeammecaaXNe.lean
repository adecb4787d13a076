/-
  Numbers of a history,the plain law:the trend (no program is in sight).
-/
import Derived.Test.YtjjhmldeammecaaXNd
namespace Go.Abs
open Go
set_option maxRecDepth 8000
def S1:Nat→Nat
 | 0=>0
 | i+1=>S1 i+i
def S2:Nat→Nat
 | 0=>0
 | i+1=>S2 i+i*i
theorem S1_two:∀i,2*S1 i+i=i*i
 | 0=>rfl
 | i+1=>by
  have:=S1_two i
  simp only[S1,Nat.add_mul,Nat.mul_add]
  omega
theorem S_var:∀i,∃D,i*S2 i=S1 i*S1 i+D∧(2≤i→0<D)
 | 0=>⟨0,rfl,fun h=>by omega⟩
 | i+1=>by
  obtain⟨D,h1,-⟩:=S_var i
  have h2:=S1_two i
  refine⟨D+S2 i+i*i,?_,fun h=>?_⟩
  ·have h3:i*(i*i)=2*(i*S1 i)+i*i:=by
    rw[←h2,Nat.mul_add,Nat.mul_left_comm,h2]
   have h4:S1 i*i=i*S1 i:=Nat.mul_comm ..
   simp only[S1,S2,Nat.add_mul,Nat.mul_add,Nat.one_mul]
   omega
  ·have:0<i*i:=Nat.mul_pos (by omega) (by omega)
   omega
theorem S1_le:∀i,i≤10000→S1 i≤10000*i
 | 0,_=>Nat.le_refl _
 | i+1,h=>by
  have:=S1_le i (by omega)
  simp only[S1];omega
theorem S2_le:∀i,i≤10000→S2 i≤100000000*i
 | 0,_=>Nat.le_refl _
 | i+1,h=>by
  have:=S2_le i (by omega)
  have h2:i*i≤10000*10000:=Nat.mul_le_mul (by omega) (by omega)
  simp only[S2];omega
theorem den_pos {n:Nat} (h2:2≤n) (hn:n≤10000):0<w64 ((w64 ((n:Int)*(S2 n:Int))) - (w64 ((S1 n:Int)*(S1 n:Int)))):=by
 obtain⟨D,h1,hD⟩:=S_var n
 have hD:=hD h2
 have b1:=S1_le n hn
 have b2:=S2_le n hn
 have p1:S1 n*S1 n≤100000000*100000000:=Nat.mul_le_mul (by omega) (by omega)
 have p2:n*S2 n≤10000*1000000000000:=Nat.mul_le_mul hn (by omega)
 rw[ZbD (z:=(n:Int)*(S2 n:Int)) (n:=n*S2 n) (by simp) (by unfold top;omega),ZbD (z:=(S1 n:Int)*(S1 n:Int)) (n:=S1 n*S1 n) (by simp) (by unfold top;omega),ZcW (by omega) (by omega)]
 omega
abbrev Q4:=Int × Int × Int × Int
def stepQ (c:Int) (i:Nat) (q:Q4):Q4:=(w64 (q.1+(i:Int)),w64 (q.2.1+c),w64 (q.2.2.1+(w64 ((i:Int)*(i:Int)))),w64 (q.2.2.2+(w64 ((i:Int)*c))))
def FQ (c:Nat→Int):Nat→Q4
 | 0=>(0,0,0,0)
 | i+1=>stepQ (c i) i (FQ c i)
theorem FQ_S (c:Nat→Int):∀i,i≤10000→(FQ c i).1=(S1 i:Int)∧(FQ c i).2.2.1=(S2 i:Int)
 | 0,_=>⟨rfl,rfl⟩
 | i+1,h=>by
  obtain⟨h1,h2⟩:=FQ_S c i (by omega)
  have b1:=S1_le i (by omega)
  have b2:=S2_le i (by omega)
  have p:i*i≤10000*10000:=Nat.mul_le_mul (by omega) (by omega)
  constructor
  ·show w64 ((FQ c i).1+(i:Int))=_
   rw[h1]
   exact ZbD (by simp[S1]) (by simp only[S1];unfold top;omega)
  ·show w64 ((FQ c i).2.2.1+(w64 ((i:Int)*(i:Int))))=_
   rw[h2,ZbD (z:=(i:Int)*(i:Int)) (n:=i*i) (by simp) (by unfold top;omega)]
   exact ZbD (by simp[S2]) (by simp only[S2];unfold top;omega)
theorem FQ_loop {ρ:Type} {n:Nat} (hn:n≤10000) (c:Nat→Int) {body:Nat→Q4→Option (Ex Q4 Q4 ρ)} (h:∀i q,i<n→body i q=some (.next (stepQ (c i) i q))):forI (σ:=Q4) (τ:=Q4) (ρ:=ρ) (n:Int) body (fun (n13,n14,n15,n16)=>(n13,n14,n15,n16)) (0,0,0,0)=some (.inl (FQ c n)):=by
 have hh:=inl_of (forI_inv (σ:=Q4) (τ:=Q4) (ρ:=ρ) (n:=(n:Int)) (body:=body) (fin:=fun (n13,n14,n15,n16)=>(n13,n14,n15,n16)) (fun i q=>q=FQ c i) (B:=fun q=>q=FQ c n) (s:=(0,0,0,0)) (by unfold top;omega) rfl (fun i q hi hq=>⟨_,h i q (by omega),by subst hq;rfl⟩) (fun q hq=>by rw[Int.toNat_natCast] at hq;exact hq))
 obtain⟨t,ht,rfl⟩:=hh
 exact ht
theorem counts_ok {v1 v2:Int} (h1:0≤v1) (h12:v1≤v2) (h2:v2≤1000000) {ps:List Zaa} (hp:ps.length≤250000) :
    ∃l,Zc4 ps v1 v2=some l∧l.length=(v2 - v1).toNat∧∀k,k<(v2 - v1).toNat→l[k]? =some (((ps.filter (onDay (v1+(k:Int)))).length:Nat):Int):=by
  unfold Zc4
  rw[ZcW (z:=v2 - v1) (by omega) (by omega),mks_ok (by omega) (by unfold lim;omega) (by unfold lim;omega),Option.bind_some]
  refine ZaL (R:=fun _=>False) (B:=fun l=>l.length=(v2 - v1).toNat∧∀k,k<(v2 - v1).toNat→l[k]? =some (((ps.filter (onDay (v1+(k:Int)))).length:Nat):Int))
    (Zep (fun i l=>l.length=(v2 - v1).toNat∧∀k,k<(v2 - v1).toNat→l[k]? =some ((((ps.take i).filter (onDay (v1+(k:Int)))).length:Nat):Int)) ⟨by simp,fun k hk=>?_⟩ (fun i p l hpi hl=>?_) (fun l hl=>by rw[List.take_length] at hl;exact hl)) (fun l hl=>⟨l,rfl,hl⟩) (fun _ h=>h.elim)
  · rw[List.getElem?_replicate,if_pos hk];simp
  · refine ZaL (R:=fun _=>False) (B:=fun l=>l.length=(v2 - v1).toNat∧∀k,k<(v2 - v1).toNat→l[k]? =some ((((ps.take (i+1)).filter (onDay (v1+(k:Int)))).length:Nat):Int))
      (ZaZ (fun s=>fromM v1 p≤s.1∧(s.1=fromM v1 p∨s.1≤toM v2 p)∧s.2.length=(v2 - v1).toNat∧∀k,k<(v2 - v1).toNat→s.2[k]? =some ((((ps.take i).filter (onDay (v1+(k:Int)))).length:Nat)+(if fromM v1 p≤v1+(k:Int)∧v1+(k:Int)<s.1 then 1 else 0):Int)) (fun s=>(v2 - s.1).toNat) ?_ _
        ⟨Int.le_refl _,.inl rfl,hl.1,fun k hk=>by
          dsimp only
          rw[hl.2 k hk]
          show _=some ((((ps.take i).filter (onDay (v1+(k:Int)))).length:Nat)+(if fromM v1 p≤v1+(k:Int)∧v1+(k:Int)<fromM v1 p then 1 else 0):Int)
          rw[if_neg (by omega),Int.add_zero]⟩) (fun l hl=>⟨_,rfl,hl⟩) (fun _ h=>h.elim)
    rintro⟨n,l⟩ ⟨i1,i2,i3,i4⟩
    dsimp only at i1 i2 i3 i4 ⊢
    have ht:toM v2 p≤v2:=by unfold toM;split<;>omega
    have hf:v1≤fromM v1 p:=by unfold fromM;split<;>omega
    by_cases hn:n<toM v2 p
    · rw[if_pos (show (decide (n<(if p.to'<v2 then p.to' else v2)))=true from decide_eq_true hn)]
      obtain⟨m,rfl⟩:∃m:Nat,n=v1+(m:Int):=⟨(n - v1).toNat,by omega⟩
      have hm:=i4 m (by omega)
      have hfl:((ps.take i).filter (onDay (v1+(m:Int)))).length≤250000:=by
        have:=List.length_filter_le (onDay (v1+(m:Int))) (ps.take i)
        rw[List.length_take] at this
        omega
      have ew:w64 (v1+(m:Int) - v1)=(m:Int):=ZbD (by omega) (by unfold top;omega)
      rw[ew,ZaF hm,Option.bind_some,ZcW (z:=v1+(m:Int)+1) (by omega) (by omega)]
      refine⟨_,rfl,⟨by dsimp only;omega,.inr (by dsimp only;omega),by simp[i3],fun k hk=>?_⟩,by dsimp only;omega⟩
      dsimp only
      rw[Int.toNat_natCast,List.getElem?_set]
      by_cases e:m=k
      · subst e
        rw[if_pos rfl,if_pos (by omega),if_neg (by omega),if_pos (by omega),Int.add_zero,ZcW (by omega) (by omega)]
      · rw[if_neg e,i4 k hk]
        congr 2
        split<;>split<;>omega
    · rw[if_neg (show ¬(decide (n<(if p.to'<v2 then p.to' else v2)))=true from fun h=>hn (of_decide_eq_true h))]
      refine⟨_,rfl,i3,fun k hk=>?_⟩
      rw[i4 k hk,Zfr hpi,List.filter_append,List.length_append,Int.natCast_add]
      congr 2
      have:(List.filter (onDay (v1+(k:Int))) [p]).length=if onDay (v1+(k:Int)) p=true then 1 else 0:=by
        by_cases h:onDay (v1+(k:Int)) p=true<;>simp[h]
      have f1:p.from'≤fromM v1 p∧(fromM v1 p=v1∨fromM v1 p=p.from'):=by unfold fromM;split<;>omega
      have f2:toM v2 p≤p.to'∧(toM v2 p=v2∨toM v2 p=p.to'):=by unfold toM;split<;>omega
      have hiff:(fromM v1 p≤v1+(k:Int)∧v1+(k:Int)<n)↔onDay (v1+(k:Int)) p=true:=by
        simp only[onDay,Bool.and_eq_true,decide_eq_true_eq]
        omega
      rw[this]
      by_cases h:onDay (v1+(k:Int)) p=true
      · rw[if_pos h,if_pos (hiff.2 h)];rfl
      · rw[if_neg h,if_neg (fun h2=>h (hiff.1 h2))];rfl
theorem Trend_eq (s:Zam) (v1 v2:Int):∃r,Zej s v1 v2=some r∧Zdu s v1 v2=some r:=by
  unfold Zej Zdu
  rw[Zez,Zc2,Option.bind_some,Option.bind_some]
  by_cases h0:sFault s=0
  case neg =>
    refine⟨(0,0,sFault s),?_,?_⟩
    · rw[if_pos (by simpa using h0)]
    · rw[if_pos h0,if_pos (by simpa using h0)]
  simp only[h0,bne_self_eq_false,Bool.false_eq_true,if_false,ne_eq,not_true_eq_false]
  have hsp:spanBad v1 v2 0=((decide (v1<0) || decide (v1>v2)) || decide (v2>1000000)):=by simp[spanBad]
  rw[hsp]
  generalize hb:((decide (v1<0) || decide (v1>v2)) || decide (v2>1000000))=b
  cases b with
  | true=>exact⟨(0,0,9),rfl,rfl⟩
  | false =>
    simp only[Bool.false_or,Bool.false_eq_true,if_false,bne_self_eq_false]
    simp only[Bool.or_eq_false_iff,decide_eq_false_iff_not] at hb
    rw[ZcW (z:=v2 - v1) (by omega) (by omega)]
    by_cases hbig:v2 - v1>10000
    · exact⟨(0,0,9),by rw[if_pos (decide_eq_true hbig)],by rw[if_pos (decide_eq_true hbig)]⟩
    simp only[show decide (v2 - v1>10000)=false from decide_eq_false hbig,Bool.false_eq_true,if_false]
    by_cases hsm:v2 - v1<2
    · exact⟨(0,1,0),by rw[if_pos (decide_eq_true hsm)],by rw[if_pos (decide_eq_true hsm)]⟩
    simp only[show decide (v2 - v1<2)=false from decide_eq_false hsm,Bool.false_eq_true,if_false]
    have h:=storyOk h0
    obtain⟨l,l1,l2,l3⟩:=counts_ok (v1:=v1) (v2:=v2) (by omega) (by omega) (by omega) (pcs_len' h)
    simp only[Zdo,ZcU h,Option.bind_some,Zf2 h,l1]
    obtain⟨n,hn⟩:∃n:Nat,v2 - v1=(n:Int):=⟨(v2 - v1).toNat,by omega⟩
    rw[hn,Int.toNat_natCast] at l3
    rw[hn]
    have hn2:2≤n:=by omega
    have hn1:n≤10000:=by omega
    have hS:=FQ_S (fun i=>((openR s (v1+(i:Int))).length:Int)) n hn1
    have e1:=FQ_loop (ρ:=Int × Int × Int) hn1 (fun i=>((openR s (v1+(i:Int))).length:Int)) (body:=fun i8 (n13,n14,n15,n16)=>some (.next (w64 (n13+(i8:Int)),w64 (n14+((openR s (w64 (v1+(i8:Int)))).length:Int)),w64 (n15+(w64 ((i8:Int)*(i8:Int)))),w64 (n16+(w64 ((i8:Int)*((openR s (w64 (v1+(i8:Int)))).length:Int))))))) (fun i q hi=>by
      show some (Ex.next _)=some (Ex.next (stepQ _ i q))
      rw[ZcW (z:=v1+(i:Int)) (by omega) (by omega)]
      rfl)
    have e2:=FQ_loop (ρ:=Int × Int × Int) hn1 (fun i=>((openR s (v1+(i:Int))).length:Int)) (body:=fun i7 (n12,n13,n14,n15)=>Option.bind (idx l (i7:Int)) fun x23=>some (.next (w64 (n12+(i7:Int)),w64 (n13+x23),w64 (n14+(w64 ((i7:Int)*(i7:Int)))),w64 (n15+(w64 ((i7:Int)*x23)))))) (fun i q hi=>by
      show Option.bind (idx l (i:Int)) _=some (Ex.next (stepQ _ i q))
      rw[ZaF (l3 i hi),Option.bind_some,openR_len h]
      rfl)
    rw[e1,e2]
    generalize FQ (fun i=>((openR s (v1+(i:Int))).length:Int)) n=q at hS
    obtain⟨a,b,c,d⟩:=q
    obtain⟨ha,hc⟩:=hS
    dsimp only at ha hc
    subst ha hc
    obtain⟨⟨x,y⟩,f1,f2⟩:=lowest_eq (w64 ((w64 ((n:Int)*d)) - (w64 ((S1 n:Int)*b)))) (den_pos hn2 hn1)
    refine⟨(x,y,0),?_,?_⟩
    · rw[Zba];dsimp only;rw[f1];rfl
    · rw[Zba];dsimp only;rw[f2];rfl
theorem eqT_self (l:List Zav):Zby l l=some true:=by
 unfold Zby
 rw[if_neg (by simp),Zfn (fun _ _=>false) (fun _ _=>false)]
 ·have:firstI (fun (_:Nat) (_:Zav)=>false) l 0=none:=Zeg.2 fun _ _ _=>rfl
  rw[this];rfl
 ·intro i x hx
  rw[ZfN,hx]
  simp
theorem law_Numbers (s:Zam) (v1 v2 v3 v4 v5:Int):Zbt bigFuel s v1 v2 v3 v4 v5=some true:=by
 obtain⟨⟨a1,a2⟩,p1,p2⟩:=Exposed_eq s v1 v2 v3
 obtain⟨⟨b1,b2⟩,q1,q2⟩:=Tallies_eq s v1 v4 v5
 obtain⟨⟨c1,c2,c3⟩,r1,r2⟩:=MeanDays_eq s v3
 obtain⟨⟨d1,d2,d3⟩,t1,t2⟩:=Middle_eq s v3
 obtain⟨⟨e1,e2,e3⟩,u1,u2⟩:=Trend_eq s v1 v2
 simp only[Zbt,p1,p2,q1,q2,r1,r2,t1,t2,u1,u2,Option.bind_some,eqT_self,beq_self_eq_true,Bool.and_self,gAnd,if_true,ZdH]
end Go.Abs
