/-
  Sorting,the plain law:the sort of what is nearly in order (no program is in sight).
-/
import Derived.Test.YtjjhmldeammecaaXSq
namespace Go.Abs
open Go
set_option maxRecDepth 8000
variable {α:Type} {less:α→α→Option Bool} {lt:α→α→Bool}
theorem ins_down {ρ:Type} (hg:∀x y,less x y=some (lt x y)) (hc:LtOk lt) {a m:Nat} {l:List α} (ham:a≤m) (hm:m<l.length) (hd:l.length≤lim)
  (hbel:0<a→∀y,l[a - 1]? =some y→∀i x,a≤i→i≤m→l[i]? =some x→lt x y=false) (hs:SB lt l a m) :
  ∃y,loopW (σ:=Int × (List α)) (τ:=(List α)) (ρ:=ρ) (fun (n322,l323)=>if (decide (n322≥1))=true then (Option.bind (idx l323 n322) fun x334=>Option.bind (idx l323 (w64 (n322 - 1))) fun x336=>Option.bind (less x334 x336) fun y338=>if (!y338)=true then (some (.brk l323)) else (Option.bind (idx (l323.set n322.toNat x336) (w64 (n322 - 1))) fun x340=>some (.next (w64 (n322 - 1),((l323.set n322.toNat x336).set ((w64 (n322 - 1)).toNat) x334))))) else (some (.brk l323))) ((m:Int),l)=some y ∧
   Out (fun e=>RP a (m+1) l e∧SB lt e a (m+1)) (fun _=>False) y:=by
 have hd':l.length≤140737488355328:=hd
 refine ZaZ (fun s=>∃j:Nat,s.1=(j:Int)∧a≤j∧j≤m∧RP a (m+1) l s.2∧∀p q x y,a≤p→p<q→q≤m→q≠j→s.2[p]? =some x→s.2[q]? =some y→lt y x=false) (fun s=>s.1.toNat) ?_ _ ⟨m,rfl,ham,Nat.le_refl _,RP.refl _ _ _,fun p q x y q1 q2 q3 q4=>hs p q x y q1 q2 (by omega)⟩
 rintro⟨n,e⟩ ⟨j,rfl,k1,k2,k3,k4⟩
 dsimp only at k3 k4 ⊢
 have hlen:=k3.len
 by_cases hj0:j=0
 ·subst hj0
  rw[if_neg (by simp)]
  exact⟨_,rfl,k3,fun p q x y q1 q2 q3=>k4 p q x y q1 q2 (by omega) (by omega)⟩
 rw[if_pos (by simp;omega)]
 obtain⟨x,hx⟩:=ZaE (l:=e) (i:=j) (by omega)
 obtain⟨y,hy⟩:=ZaE (l:=e) (i:=j - 1) (by omega)
 simp only[ZeL (j:=j) (by omega) (by unfold top;omega),ZaF hx,ZaF hy,Option.bind_some,hg]
 by_cases hlt:lt x y=true
 ·rw[if_neg (by simp[hlt])]
  have hja:a<j:=by
   rcases Nat.lt_or_ge a j with h | h
   ·exact h
   ·obtain rfl:j=a:=by omega
    rw[k3.out (j - 1) (by omega)] at hy
    obtain⟨i,i1,i2,hi⟩:=k3.get (Nat.le_refl _) (by omega) hx
    rw[hbel (by omega) y hy i x i1 (by omega) hi] at hlt
    cases hlt
  have hy':(e.set j y)[j - 1]? =some y:=by
   rw[List.getElem?_set_ne (by omega)];exact hy
  simp only[Int.toNat_natCast,ZaF hy',Option.bind_some]
  have hsw:=Zcz hx hy
  refine⟨_,rfl,⟨j - 1,rfl,by omega,by omega,k3.trans (RP.swap hx hy (by omega) (by omega)),fun p q u v q1 q2 q3 q4 hu hv=>?_⟩,by simp only[Int.toNat_natCast];omega⟩
  dsimp only at hu hv
  rw[hsw] at hu hv
  by_cases e1:q=j
  ·subst e1
   rw[sw_l] at hv
   rw[hy] at hv;cases hv
   by_cases e2:p=q - 1
   ·subst e2
    rw[sw_r] at hu
    rw[hx] at hu;cases hu
    exact hc.asym _ _ hlt
   ·rw[sw_o (by omega) e2] at hu
    exact k4 p (q - 1) u y q1 (by omega) (by omega) (by omega) hu hy
  ·rw[sw_o e1 q4] at hv
   by_cases e2:p=j - 1
   ·subst e2
    rw[sw_r] at hu
    exact k4 j q u v (by omega) (by omega) q3 e1 hu hv
   ·by_cases e3:p=j
    ·subst e3
     rw[sw_l] at hu
     exact k4 (p - 1) q u v (by omega) (by omega) q3 e1 hu hv
    ·rw[sw_o e3 e2] at hu
     exact k4 p q u v q1 q2 q3 e1 hu hv
 ·have hlt':lt x y=false:=by simpa using hlt
  rw[if_pos (by simp[hlt'])]
  refine⟨_,rfl,k3,fun p q u v q1 q2 q3 hu hv=>?_⟩
  by_cases e1:q=j
  ·subst e1
   rw[hx] at hv;cases hv
   by_cases e2:p=q - 1
   ·subst e2
    rw[hy] at hu;cases hu
    exact hlt'
   ·exact hc.trans _ _ _ (k4 p (q - 1) u y q1 (by omega) (by omega) (by omega) hu hy) hlt'
  ·exact k4 p q u v q1 q2 (by omega) e1 hu hv
theorem ins_up {ρ:Type} (hg:∀x y,less x y=some (lt x y)) {m b:Nat} {l:List α} (hm:m+1≤b) (hb:b≤l.length) (hd:l.length≤lim) :
  ∃y,loopW (σ:=Int × (List α)) (τ:=(List α)) (ρ:=ρ) (fun (n350,l351)=>if (decide (n350<(b:Int)))=true then (Option.bind (idx l351 n350) fun x362=>Option.bind (idx l351 (w64 (n350 - 1))) fun x364=>Option.bind (less x362 x364) fun y366=>if (!y366)=true then (some (.brk l351)) else (Option.bind (idx (l351.set n350.toNat x364) (w64 (n350 - 1))) fun x368=>some (.next (w64 (n350+1),((l351.set n350.toNat x364).set ((w64 (n350 - 1)).toNat) x362))))) else (some (.brk l351))) (((m+1:Nat):Int),l)=some y ∧
   Out (fun e=>RP m b l e) (fun _=>False) y:=by
 have hd':l.length≤140737488355328:=hd
 refine ZaZ (fun s=>∃j:Nat,s.1=(j:Int)∧m<j∧j≤b∧RP m b l s.2) (fun s=>b - s.1.toNat) ?_ _ ⟨m+1,rfl,by omega,by omega,RP.refl _ _ _⟩
 rintro⟨n,e⟩ ⟨j,rfl,k1,k2,k3⟩
 dsimp only at k3 ⊢
 have hlen:=k3.len
 by_cases hj:j<b
 ·rw[if_pos (by simp;omega)]
  obtain⟨x,hx⟩:=ZaE (l:=e) (i:=j) (by omega)
  obtain⟨y,hy⟩:=ZaE (l:=e) (i:=j - 1) (by omega)
  simp only[ZeL (j:=j) (by omega) (by unfold top;omega),ZaF hx,ZaF hy,Option.bind_some,hg]
  cases hlt:lt x y with
  | true =>
   rw[if_neg (by simp)]
   have hy':(e.set j y)[j - 1]? =some y:=by
    rw[List.getElem?_set_ne (by omega)];exact hy
   simp only[Int.toNat_natCast,ZaF hy',Option.bind_some]
   exact⟨_,rfl,⟨j+1,Zbq (by unfold top;omega),by omega,by omega,k3.trans (RP.swap hx hy (by omega) (by omega))⟩,by rw[Zbq (by unfold top;omega)];simp only[Int.toNat_natCast];omega⟩
  | false =>
   rw[if_pos (by simp)]
   exact⟨_,rfl,k3⟩
 ·rw[if_neg (by simp;omega)]
  exact⟨_,rfl,k3⟩
theorem SB.snoc (hc:LtOk lt) {d:List α} {a i:Nat} {x y:α} (h:SB lt d a i) (h1:d[i - 1]? =some y) (h2:d[i]? =some x) (hai:a<i) (hxy:lt x y=false):SB lt d a (i+1):=by
 intro p q u v h3 h4 h5 hu hv
 by_cases e:q=i
 ·subst e
  rw[h2] at hv;cases hv
  by_cases e2:p=q - 1
  ·subst e2;rw[h1] at hu;cases hu;exact hxy
  ·exact hc.trans _ _ _ (h p (q - 1) u y h3 (by omega) (by omega) hu h1) hxy
 ·exact h p q u v h3 h4 (by omega) hu hv
theorem gpq_ok (hg:∀x y,less x y=some (lt x y)) (hc:LtOk lt) {d:List α} {a b:Nat} (hab:a<b) (hb:b≤d.length) (hd:d.length≤lim)
    (hbel:0<a→∀y,d[a - 1]? =some y→∀i x,a≤i→i<b→d[i]? =some x→lt x y=false) :
    ∃r,Zb3 less d a b=some r∧RP a b d r.2∧(r.1=true→SB lt r.2 a b):=by
  have hd':d.length≤140737488355328:=hd
  unfold Zb3
  rw[Zbq (j:=a) (by unfold top;omega)]
  refine ZaL (B:=fun l=>RP a b d l) (R:=fun r=>RP a b d r.2∧(r.1=true→SB lt r.2 a b))
    (ZaZ (fun s=>∃i c:Nat,s.1=(i:Int)∧s.2.1=(c:Int)∧a<i∧i≤b∧c≤5∧RP a b d s.2.2∧SB lt s.2.2 a i) (fun s=>(5 - s.2.1).toNat) ?_ _
      ⟨a+1,0,rfl,rfl,by omega,by omega,by omega,RP.refl _ _ _,fun i j x y h1 h2 h3=>by omega⟩)
    (fun l h=>⟨_,rfl,h,fun h=>by cases h⟩) (fun r h=>h)
  rintro⟨n1,n2,l⟩ ⟨i,c,e1,e2,h1,h2,h3,h4,h5⟩
  dsimp only at e1 e2 h4 h5 ⊢
  subst e1 e2
  have hlen:=h4.len
  rcases Nat.lt_or_ge c 5 with hc5 | hc5
  case inr =>
    rw[if_neg (by simp;omega)]
    exact⟨_,rfl,h4⟩
  rw[if_pos (by simp;omega)]
  refine ZaL (B:=fun n=>∃m:Nat,n=(m:Int)∧i≤m∧m≤b∧SB lt l a m) (R:=fun _=>False)
    (ZaZ (fun n=>∃m:Nat,n=(m:Int)∧i≤m∧m≤b∧SB lt l a m) (fun n=>b - n.toNat) ?_ _ ⟨i,rfl,Nat.le_refl _,h2,h5⟩) ?_ (fun _ h=>h.elim)
  · rintro n ⟨m,rfl,m1,m2,m3⟩
    by_cases hm:m<b
    · obtain⟨x,hx⟩:=ZaE (l:=l) (i:=m) (by omega)
      obtain⟨y,hy⟩:=ZaE (l:=l) (i:=m - 1) (by omega)
      simp only[gAnd,show decide ((m:Int)<(b:Int))=true by simp;omega,if_true,ZeL (j:=m) (by omega) (by unfold top;omega),ZaF hx,ZaF hy,Option.bind_some,hg]
      cases hlt:lt x y with
      | true =>
        rw[if_neg (by simp)]
        exact⟨_,rfl,m,rfl,m1,m2,m3⟩
      | false =>
        rw[if_pos (by simp)]
        exact⟨_,rfl,⟨m+1,Zbq (by unfold top;omega),by omega,by omega,m3.snoc hc hy hx (by omega) hlt⟩,by rw[Zbq (by unfold top;omega)];simp only[Int.toNat_natCast];omega⟩
    · simp only[gAnd,show decide ((m:Int)<(b:Int))=false by simp;omega,Bool.false_eq_true,if_false,Option.bind_some]
      exact⟨_,rfl,m,rfl,m1,m2,m3⟩
  · rintro n ⟨m,rfl,m1,m2,m3⟩
    by_cases hmb:m=b
    · subst hmb
      rw[if_pos (by simp)]
      exact⟨_,rfl,h4,fun _=>m3⟩
    rw[if_neg (by simp;omega),show w64 ((b:Int) - (a:Int))=((b - a:Nat):Int) from ZbD (by omega) (by unfold top;omega)]
    by_cases h50:b - a<50
    · rw[if_pos (by simp;omega)]
      exact⟨_,rfl,h4,fun h=>by cases h⟩
    rw[if_neg (by simp;omega)]
    obtain⟨x,hx⟩:=ZaE (l:=l) (i:=m - 1) (by omega)
    obtain⟨y,hy⟩:=ZaE (l:=l) (i:=m) (by omega)
    have hs:=ZcK hy hx
    rw[if_neg (by omega)] at hs
    simp only[ZeL (j:=m) (by omega) (by unfold top;omega),ZaF hx,ZaF hy,Option.bind_some,Int.toNat_natCast,hs]
    have hsw:=Zcz hy hx
    have hR:=h4.trans (RP.swap hy hx ⟨by omega,by omega⟩ ⟨by omega,by omega⟩)
    have hS:SB lt ((l.set m x).set (m - 1) y) a (m - 1):=(m3.mono (Nat.le_refl _) (by omega)).out fun k k1 k2=>by rw[hsw,sw_o (by omega) (by omega)]
    generalize (l.set m x).set (m - 1) y=l1 at hR hS
    have hl1:=hR.len
    have e1:w64 ((m:Int) - (a:Int))=((m - a:Nat):Int):=ZbD (by omega) (by unfold top;omega)
    have e2:w64 ((b:Int) - (m:Int))=((b - m:Nat):Int):=ZbD (by omega) (by unfold top;omega)
    rw[e1,e2,Zbq (j:=m) (by unfold top;omega)]
    refine ZaL (B:=fun l2=>RP a b d l2∧SB lt l2 a m) (R:=fun _=>False) ?_ ?_ (fun _ h=>h.elim)
    · by_cases h2:2≤m - a
      · rw[if_pos (by simp;omega)]
        refine ZaL (R:=fun _=>False) (ins_down hg hc (a:=a) (m:=m - 1) (l:=l1) (by omega) (by omega) (by rw[hl1];exact hd) (fun ha y hy i x i1 i2 hx=>?_) hS) (fun e he=>?_) (fun _ h=>h.elim)
        · rw[hR.out (a - 1) (by omega)] at hy
          obtain⟨j,j1,j2,hj⟩:=hR.get i1 (by omega) hx
          exact hbel ha y hy j x j1 j2 hj
        · have he2:SB lt e a (m - 1+1):=he.2
          rw[show m - 1+1=m by omega] at he2
          exact⟨_,rfl,hR.trans (he.1.mono (Nat.le_refl _) (by omega)),he2⟩
      · rw[if_neg (by simp;omega)]
        exact⟨_,rfl,hR,fun p q u v h1 h2 h3=>by omega⟩
    · rintro l2 ⟨hR2,hS2⟩
      have hl2:=hR2.len
      have hc1:w64 ((c:Int)+1)=((c+1:Nat):Int):=Zbq (by unfold top;omega)
      rw[hc1]
      by_cases h2:2≤b - m
      · rw[if_pos (by simp;omega)]
        refine ZaL (R:=fun _=>False) (ins_up hg (m:=m) (b:=b) (l:=l2) (by omega) (by omega) (by rw[hl2];exact hd)) (fun e he=>?_) (fun _ h=>h.elim)
        exact⟨_,rfl,⟨m,c+1,rfl,rfl,by omega,by omega,by omega,hR2.trans (he.mono (by omega) (Nat.le_refl _)),hS2.out fun k k1 k2=>he.out k (by omega)⟩,by dsimp only;omega⟩
      · rw[if_neg (by simp;omega)]
        exact⟨_,rfl,⟨m,c+1,rfl,rfl,by omega,by omega,by omega,hR2,hS2⟩,by dsimp only;omega⟩
end Go.Abs
