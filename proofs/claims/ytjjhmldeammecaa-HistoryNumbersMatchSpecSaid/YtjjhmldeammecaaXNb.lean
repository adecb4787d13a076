/-
  Numbers of a history,the plain law:exposed days,tallies,means and middles (no program is in sight).
-/
import Derived.Test.YtjjhmldeammecaaXNa
import Derived.Test.YtjjhmldeammecaaXSu
namespace Go.Abs
open Go
set_option maxRecDepth 8000
theorem gOr_s (a b:Bool):gOr a (some b)=some (a || b):=by cases a<;>rfl
def spanBad (v1 v2 v3:Int):Bool:=((((decide (v1<0)) || (decide (v1>v2))) || (decide (v2>1000000))) || (decide (v3<0))) || (decide (v3>100))
theorem Zez (s:Zam) (v1 v2 v3:Int):Zbx s v1 v2 v3=some (if sFault s≠0 then sFault s else if spanBad v1 v2 v3=true then 9 else 0):=by
 unfold Zbx
 rw[Zfb,Option.bind_some]
 by_cases h:sFault s=0
 ·simp only[h,bne_self_eq_false,Bool.false_eq_true,if_false,ne_eq,not_true_eq_false]
  show (if spanBad v1 v2 v3=true then some 9 else some 0)=_
  split<;>rfl
 ·rw[if_pos (by simpa using h),if_pos h]
theorem Exposed_eq (s:Zam) (v1 v2 v3:Int):∃r,ZdA s v1 v2 v3=some r∧ZcL bigFuel s v1 v2 v3=some r:=by
  unfold ZdA ZcL
  rw[Zez,Zc2,Option.bind_some,Option.bind_some]
  by_cases h0:sFault s=0
  case neg =>
    refine⟨(0,sFault s),?_,?_⟩
    · rw[if_pos (by simpa using h0)]
    · rw[if_pos h0,if_pos (by simpa using h0)]
  simp only[h0,bne_self_eq_false,Bool.false_eq_true,if_false,ne_eq,not_true_eq_false]
  simp only[Zbw,Option.bind_some,gOr_s]
  have hbad:(((decide (v1<0) || decide (v1>v2)) || decide (v2>1000000)) || (decide (v3<0) || decide (v3>100)))=spanBad v1 v2 v3:=by
    unfold spanBad;rw[Bool.or_assoc (_ || _ || _)]
  rw[hbad]
  by_cases hb:spanBad v1 v2 v3=true
  · refine⟨(0,9),?_,?_⟩
    · rw[if_pos hb]
    · rw[if_pos hb];rfl
  simp only[hb,Bool.false_eq_true,if_false,bne_self_eq_false]
  simp only[spanBad,Bool.or_eq_true,decide_eq_true_eq,not_or] at hb
  have h1:0≤v1:=by omega
  have h12:v1≤v2:=by omega
  have h2:v2≤1000000:=by omega
  have h:=storyOk h0
  obtain⟨q,q1,q2,q3⟩:=sortedP (l:=pcs (ZaQ s) s.Until s.Releases) (by have:=pcs_len' h;omega)
  refine⟨(((List.range v2.toNat).countP (cov v1 v3 (pcs (ZaQ s) s.Until s.Releases)):Nat),0),?_,?_⟩
  · rw[mks_ok (by omega) (by unfold lim;omega) (by unfold lim;omega),Option.bind_some,Zdo,Option.bind_some,Zes h,Option.bind_some]
    have:=ZaL (R:=fun _=>False) (Q:=fun r=>r=(((((List.range v2.toNat).countP (cov v1 v3 (pcs (ZaQ s) s.Until s.Releases)):Nat):Int),0):Int × Int))
      (k:=fun l43=>seqK (forN (σ:=Int) (τ:=Int) (fun i55 n60=>Option.bind (idx l43 (i55:Int)) fun x65=>if x65=true then (some (.next (w64 (n60+1)))) else (some (.next n60))) (fun n60=>n60) l43.length 0 0) fun n63=>some (n63,0))
      (Zep (σ:=List Bool) (τ:=List Bool) (l:=(pcs (ZaQ s) s.Until s.Releases).map strOf) (s:=List.replicate v2.toNat false) (fin:=fun l32=>l32)
        (body:=fun _ x21 l32=>if (decide (x21.x.Severity<v3))=true then (some (.next l32)) else (seqK (loopW (σ:=Int × (List Bool)) (τ:=(List Bool)) (fun (n47,l48)=>if (decide (n47<(if x21.to'<v2 then x21.to' else v2)))=true then (Option.bind (idx l48 n47) fun x53=>some (.next (w64 (n47+1),(l48.set n47.toNat true)))) else (some (.brk l48))) ((if v1<x21.from' then x21.from' else v1),l32)) fun l51=>some (.next l51)))
        (fun i l=>l.length=v2.toNat∧∀k,k<v2.toNat→l[k]? =some (cov v1 v3 ((pcs (ZaQ s) s.Until s.Releases).take i) k)) (B:=fun l=>l.length=v2.toNat∧∀k,k<v2.toNat→l[k]? =some (cov v1 v3 (pcs (ZaQ s) s.Until s.Releases) k))
        ⟨by simp,fun k hk=>?_⟩ (fun i x l hx hl=>?_) (fun l hl=>?_)) (fun l hl=>?_) (fun _ h=>h.elim)
    · obtain⟨r,hr,rfl⟩:=this
      exact hr
    · rw[List.getElem?_replicate,if_pos hk]
      simp[cov]
    · rw[List.getElem?_map] at hx
      cases hp:(pcs (ZaQ s) s.Until s.Releases)[i]? with
      | none=>rw[hp] at hx;cases hx
      | some p =>
        rw[hp] at hx
        obtain rfl:strOf p=x:=by simpa using hx
        rw[Zfr hp]
        by_cases hsev:p.x.Severity<v3
        · rw[if_pos (decide_eq_true (show (strOf p).x.Severity<v3 from hsev))]
          refine⟨_,rfl,hl.1,fun k hk=>?_⟩
          rw[hl.2 k hk,Zf3,rel1,decide_eq_false (show ¬v3≤p.x.Severity by omega)]
          simp
        · rw[if_neg (by have:¬(strOf p).x.Severity<v3:=hsev;simpa using this)]
          exact ZaL (R:=fun _=>False) (mark_ok h1 h2 p (by omega) hl.1 hl.2) (fun l' hl'=>⟨_,rfl,hl'⟩) (fun _ h=>h.elim)
    · have hl2:=hl.2
      rw[List.length_map,List.take_length] at hl2
      exact⟨hl.1,hl2⟩
    · refine ZaL (R:=fun _=>False) (count_trues (by rw[hl.1];omega) (fun k hk=>hl.2 k (by rw[←hl.1];exact hk))) (fun n hn=>?_) (fun _ h=>h.elim)
      exact⟨_,rfl,by rw[hn,hl.1]⟩
  · rw[ZcU h,Option.bind_some,q1,Option.bind_some]
    have:=ZaL (R:=fun _=>False) (Q:=fun r=>r=(((((List.range v2.toNat).countP (cov v1 v3 (pcs (ZaQ s) s.Until s.Releases)):Nat):Int),0):Int × Int)) (k:=fun n13=>some (n13,(0:Int)))
      (sweep_ok (v3:=v3) h1 h12 h2 q3) (fun n hn=>⟨_,rfl,?_⟩) (fun _ h=>h.elim)
    · obtain⟨r,hr,rfl⟩:=this
      exact hr
    · rw[hn,Zeo fun k _=>(cov_perm q2 k).symm]
end Go.Abs
