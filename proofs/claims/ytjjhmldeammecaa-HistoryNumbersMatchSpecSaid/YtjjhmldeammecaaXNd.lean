/-
  Numbers of a history,the plain law:the middle (no program is in sight).
-/
import Derived.Test.YtjjhmldeammecaaXNc
namespace Go.Abs
open Go
set_option maxRecDepth 8000
def nLt (x:Int) (l:List Int):Nat:=l.countP (fun y=>decide (y<x))
def nEq (x:Int) (l:List Int):Nat:=l.countP (fun y=>y == x)
theorem n_le (x:Int):∀l:List Int,nLt x l+nEq x l≤l.length
 | []=>Nat.le_refl _
 | y :: l=>by
  have:=n_le x l
  simp only[nLt,nEq,List.countP_cons,List.length_cons] at this ⊢
  by_cases h:y<x
  ·have h2:(y == x)=false:=by simp;omega
   simp only[h,decide_true,h2,if_true,Bool.false_eq_true,if_false];omega
  ·by_cases h2:(y == x)=true
   ·simp only[h,decide_false,h2,if_true,Bool.false_eq_true,if_false];omega
   ·simp only[h,decide_false,h2,Bool.false_eq_true,if_false];omega
theorem n_all (x:Int):∀l:List Int,(∀y∈l,y≤x)→nLt x l+nEq x l=l.length
 | [],_=>rfl
 | y :: l,hl=>by
  have:=n_all x l (fun z hz=>hl z (List.mem_cons_of_mem _ hz))
  have hy:=hl y (List.mem_cons_self ..)
  simp only[nLt,nEq,List.countP_cons,List.length_cons] at this ⊢
  by_cases h:y<x
  ·have h2:(y == x)=false:=by simp;omega
   simp only[h,decide_true,h2,if_true,Bool.false_eq_true,if_false];omega
  ·have h2:(y == x)=true:=by simp;omega
   simp only[h,decide_false,h2,if_true,Bool.false_eq_true,if_false];omega
theorem lt_all (x:Int) {l:List Int} (h:∀y∈l,y<x):nLt x l=l.length:=List.countP_eq_length.2 fun y hy=>decide_eq_true (h y hy)
theorem lt_none (x:Int) {l:List Int} (h:∀y∈l,x≤y):nLt x l=0:=List.countP_eq_zero.2 fun y hy=>by have:=h y hy;simp;omega
theorem eq_none (x:Int) {l:List Int} (h:∀y∈l,x<y):nEq x l=0:=List.countP_eq_zero.2 fun y hy=>by have:=h y hy;simp;omega
theorem nLt_app (x:Int) (l m:List Int):nLt x (l++m)=nLt x l+nLt x m:=List.countP_append
theorem nEq_app (x:Int) (l m:List Int):nEq x (l++m)=nEq x l+nEq x m:=List.countP_append
theorem nLt_perm (x:Int) {l m:List Int} (h:l.Perm m):nLt x l=nLt x m:=h.countP_eq _
theorem nEq_perm (x:Int) {l m:List Int} (h:l.Perm m):nEq x l=nEq x m:=h.countP_eq _
def Mid (l:List Int) (m:Nat) (x:Int):Prop:=nLt x l≤m∧m<nLt x l+nEq x l
structure Halves (q:List Int) (m:Nat) (s:Int) (a b:List Int):Prop where
 eq:q=a++b
 len:a.length=m
 pos:∃b',b=s :: b'
 low:∀y∈a,y≤s
 high:∀y∈b,s≤y
theorem halves {q:List Int} (hq:q.Pairwise (fun a b=>a≤b)) {m:Nat} {s:Int} (hs:q[m]? =some s):∃a b,Halves q m s a b:=by
 have hm:=ZaB hs
 have he:q[m]=s:=by rw[List.getElem?_eq_getElem hm] at hs;cases hs;rfl
 have hb:q.drop m=s :: q.drop (m+1):=by rw[List.drop_eq_getElem_cons hm,he]
 have hsp:q=q.take m++q.drop m:=(List.take_append_drop m q).symm
 have hp:=hq
 rw[hsp,List.pairwise_append] at hp
 refine⟨q.take m,q.drop m,hsp,by rw[List.length_take];omega,⟨_,hb⟩,fun y hy=>hp.2.2 y hy s (by rw[hb];exact List.mem_cons_self ..),fun y hy=>?_⟩
 have h2:=hp.2.1
 rw[hb] at hy h2
 rcases List.mem_cons.1 hy with rfl | hy
 ·exact Int.le_refl _
 ·exact (List.pairwise_cons.1 h2).1 y hy
theorem mid_ok {q:List Int} (hq:q.Pairwise (fun a b=>a≤b)) {m:Nat} {s:Int} (hs:q[m]? =some s):Mid q m s:=by
 obtain⟨a,b,h⟩:=halves hq hs
 obtain⟨b',rfl⟩:=h.pos
 rw[Mid,h.eq,nLt_app,nEq_app,lt_none s h.high]
 have h1:=n_le s a
 have h2:=n_all s a h.low
 have h3:=h.len
 have h4:nEq s (s :: b')=nEq s b'+1:=by simp[nEq,List.countP_cons]
 omega
theorem mid_uniq {q:List Int} (hq:q.Pairwise (fun a b=>a≤b)) {m:Nat} {s x:Int} (hs:q[m]? =some s) (hx:Mid q m x):x=s:=by
 obtain⟨a,b,h⟩:=halves hq hs
 obtain⟨h1,h2⟩:=hx
 have h3:=h.len
 rw[h.eq,nLt_app] at h1
 rw[h.eq,nLt_app,nEq_app] at h2
 rcases Int.lt_or_le x s with e | e
 ·have h4:=n_le x a
  rw[lt_none x (l:=b) (fun y hy=>by have:=h.high y hy;omega),eq_none x (l:=b) (fun y hy=>by have:=h.high y hy;omega)] at h2
  omega
 ·rcases Int.lt_or_le s x with e2 | e2
  ·obtain⟨b',rfl⟩:=h.pos
   rw[lt_all x (l:=a) (fun y hy=>by have:=h.low y hy;omega)] at h1
   have h4:nLt x (s :: b')=nLt x b'+1:=by simp[nLt,List.countP_cons,e2]
   omega
  ·omega
theorem count_loop {ρ:Type} (x:Int) {l:List Int} (hl:l.length≤1000000):forL (σ:=Int × Int) (τ:=Int × Int) (ρ:=ρ) l (fun _ x31 (n34,n35)=>seqK (τ:=Int) (if (decide (x31<x))=true then (some (.inl (w64 (n34+1)))) else (some (.inl n34))) fun n41=>if (x31 == x)=true then (some (.next (n41,w64 (n35+1)))) else (some (.next (n41,n35)))) (fun (n34,n35)=>(n34,n35)) (0,0)=some (.inl ((nLt x l:Nat),(nEq x l:Nat))):=by
  have hh:=inl_of (Zep (ρ:=ρ) (σ:=Int × Int) (τ:=Int × Int) (l:=l) (s:=(0,0)) (fin:=fun (n34,n35)=>(n34,n35))
    (body:=fun _ x31 (n34,n35)=>seqK (τ:=Int) (if (decide (x31<x))=true then (some (.inl (w64 (n34+1)))) else (some (.inl n34))) fun n41=>if (x31 == x)=true then (some (.next (n41,w64 (n35+1)))) else (some (.next (n41,n35))))
    (fun i st=>st=(((nLt x (l.take i):Nat):Int),((nEq x (l.take i):Nat):Int))) (B:=fun st=>st=(((nLt x l:Nat):Int),((nEq x l:Nat):Int))) rfl (fun i y st hy hst=>?_) (fun st hst=>by rw[List.take_length] at hst;rw[hst]))
  · obtain⟨t,ht,e⟩:=hh
    rw[ht,e]
  · subst hst
    have hle:=n_le x (l.take i)
    have hi:=ZaB hy
    rw[List.length_take] at hle
    rw[Zfr hy,nLt_app,nEq_app]
    dsimp only
    have a1:nLt x [y]=if y<x then 1 else 0:=by simp[nLt,List.countP_cons]
    have a2:nEq x [y]=if y=x then 1 else 0:=by simp[nEq,List.countP_cons]
    rw[a1,a2]
    by_cases h1:y<x
    · rw[if_pos (decide_eq_true h1),Zba,if_neg (by simp;omega),if_pos h1,if_neg (by omega),Zbq (by unfold top;omega)]
      exact⟨_,rfl,rfl⟩
    · rw[if_neg (by simpa using h1),Zba,if_neg h1]
      by_cases h2:y=x
      · rw[if_pos (by simpa using h2),if_pos h2,Zbq (by unfold top;omega)]
        exact⟨_,rfl,rfl⟩
      · rw[if_neg (by simpa using h2),if_neg h2]
        exact⟨_,rfl,rfl⟩
theorem Middle_eq (s:Zam) (v:Int):∃r,ZdP bigFuel s v=some r∧Zc7 bigFuel s v=some r:=by
  unfold ZdP Zc7
  rw[Zez,Zc2,Option.bind_some,Option.bind_some]
  by_cases h0:sFault s=0
  case neg =>
    refine⟨(0,false,sFault s),?_,?_⟩
    · rw[if_pos (by simpa using h0)]
    · rw[if_pos h0,if_pos (by simpa using h0)]
  simp only[h0,bne_self_eq_false,Bool.false_eq_true,if_false,ne_eq,not_true_eq_false,Zbw,Option.bind_some,badSpan0]
  cases (decide (v<0) || decide (v>100)) with
  | true=>exact⟨(0,false,9),rfl,rfl⟩
  | false =>
    have h:=storyOk h0
    obtain⟨r,r1,r2,r3⟩:=Zgv h
    obtain⟨q,q1,q2,q3⟩:=lengths_eq h r1 r3 v
    have hlen:=q2.length_eq
    have hle:((r.filter (clW v)).map lnW).length≤250000:=by
      have:=List.length_filter_le (clW v) r
      have:=wdw_len h r3
      rw[List.length_map];omega
    simp only[Bool.false_eq_true,if_false,bne_self_eq_false,closed_eq h r2 r3,q1,Option.bind_some,←hlen]
    generalize ((r.filter (clW v)).map lnW)=c at q2 hlen hle
    simp only[count_loop _ (Nat.le_trans hle (by decide)),Zba]
    by_cases hc:c.length=0
    · obtain rfl:=List.length_eq_zero_iff.1 hc
      exact⟨(0,false,0),rfl,rfl⟩
    · have em:w64 ((w64 ((c.length:Int) - 1)).tdiv 2)=(((c.length - 1) / 2:Nat):Int):=by
        rw[ZeL (by omega) (by unfold top;omega),Int.tdiv_eq_ediv_of_nonneg (by omega)]
        exact ZbD (by omega) (by unfold top;omega)
      rw[em]
      obtain⟨x,hx⟩:=ZaE (l:=q) (i:=(c.length - 1) / 2) (by omega)
      have hm:=mid_ok q3 hx
      refine⟨(x,true,0),?_,?_⟩
      · have:=ZaL (Q:=fun r=>r=((x,true,0):Int × Bool × Int)) (R:=fun r=>r=((x,true,0):Int × Bool × Int)) (k:=fun _:Unit=>some ((0,false,0):Int × Bool × Int))
          (Zep (σ:=Unit) (τ:=Unit) (l:=c) (s:=()) (fin:=fun _=>()) (body:=fun _ x10 _=>if ((decide (((nLt x10 c:Nat):Int)≤(((c.length - 1) / 2:Nat):Int))) && (decide ((((c.length - 1) / 2:Nat):Int)<w64 (((nLt x10 c:Nat):Int)+((nEq x10 c:Nat):Int)))))=true then (some (.ret (x10,true,0))) else (some (.next ())))
            (fun i _=>∀j y,j<i→c[j]? =some y→¬Mid c ((c.length - 1) / 2) y) (B:=fun _=>False) (fun j y hj=>absurd hj (by omega)) (fun i y st hy hst=>?_) (fun st hst=>?_)) (fun _ h=>h.elim) (fun r hr=>hr)
        · obtain⟨r,hr,rfl⟩:=this
          exact hr
        · have hn:=n_le y c
          rw[ZbD (z:=((nLt y c:Nat):Int)+((nEq y c:Nat):Int)) (n:=nLt y c+nEq y c) (by omega) (by unfold top;omega)]
          by_cases hmid:Mid c ((c.length - 1) / 2) y
          · rw[if_pos (by have h1:=hmid.1;have h2:=hmid.2;simp only[Bool.and_eq_true,decide_eq_true_eq];omega)]
            have hmq:Mid q ((c.length - 1) / 2) y:=by
              rw[Mid,←nLt_perm y q2,←nEq_perm y q2];exact hmid
            exact⟨_,rfl,by show _=_;rw[mid_uniq q3 hx hmq]⟩
          · rw[if_neg (by rw[Mid] at hmid;simp only[Bool.and_eq_true,decide_eq_true_eq];omega)]
            refine⟨_,rfl,fun j z hj hz=>?_⟩
            rcases Nat.lt_or_ge j i with e | e
            · exact hst j z e hz
            · obtain rfl:j=i:=by omega
              rw[hy] at hz;cases hz;exact hmid
        · obtain⟨j,hj⟩:=List.getElem?_of_mem (q2.symm.subset (List.mem_of_getElem? hx))
          refine hst j x (ZaB hj) hj ?_
          rw[Mid,nLt_perm x q2,nEq_perm x q2];exact hm
      · rw[if_neg (by simpa using hc),ZaF hx]
        rfl
end Go.Abs
