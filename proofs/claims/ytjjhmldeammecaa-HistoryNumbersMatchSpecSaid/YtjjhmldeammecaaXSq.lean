/-
  Sorting,the plain law:the partition about a pivot (no program is in sight).
-/
import Derived.Test.YtjjhmldeammecaaXSp
namespace Go.Abs
open Go
set_option maxRecDepth 8000
variable {α:Type} {less:α→α→Option Bool} {lt:α→α→Bool}
theorem pu_ok {ρ:Type} (hg:∀x y,less x y=some (lt x y)) {l:List α} {a i j:Nat} {v:α} (h5:l[a]? =some v) (hij:i≤j) (hj:j≤l.length) (hd:l.length≤lim) :
  ∃y,loopW (σ:=Int) (τ:=Int) (ρ:=ρ) (fun n=>Option.bind (gAnd (decide (n≤(j:Int) - 1)) (Option.bind (idx l n) fun x=>Option.bind (idx l (a:Int)) fun y=>Option.bind (less x y) fun z=>some z)) fun b=>if b=true then (some (.next (w64 (n+1)))) else (some (.brk n))) (i:Int)=some y ∧
   Out (fun n=>∃i':Nat,n=(i':Int)∧i≤i'∧i'≤j∧(∀k,i≤k→k<i'→∀x,l[k]? =some x→lt x v=true)∧(i'<j→¬ ∀x,l[i']? =some x→lt x v=true)) (fun _=>False) y:=by
 have hd':l.length≤140737488355328:=hd
 refine up_ok (fun k=>∀x,l[k]? =some x→lt x v=true) ?_ ?_ hij
 ·intro k k1 k2
  obtain⟨x,hx⟩:=ZaE (l:=l) (i:=k) (by omega)
  simp only[gAnd,show decide ((k:Int)≤(j:Int) - 1)=true by simp;omega,if_true,ZaF h5,ZaF hx,Option.bind_some,hg]
  cases hq:lt x v with
  | true =>
   left
   refine⟨?_,fun y hy=>by rw[hx] at hy;cases hy;exact hq⟩
   simp only[if_true,Zbq (j:=k) (by unfold top;omega)]
  | false =>
   right
   refine⟨?_,fun h=>by rw[h x hx] at hq;cases hq⟩
   simp only[Bool.false_eq_true,if_false]
 ·intro k k1
  simp only[gAnd,show decide ((k:Int)≤(j:Int) - 1)=false by simp;omega,Bool.false_eq_true,if_false,Option.bind_some]
theorem pd_ok {ρ:Type} (hg:∀x y,less x y=some (lt x y)) {l:List α} {a i j:Nat} {v:α} (h5:l[a]? =some v) (hij:i≤j) (hj:j≤l.length) (hd:l.length≤lim) :
  ∃y,loopW (σ:=Int) (τ:=Int) (ρ:=ρ) (fun n=>Option.bind (gAnd (decide ((i:Int)≤n)) (Option.bind (idx l n) fun x=>Option.bind (idx l (a:Int)) fun y=>Option.bind (less x y) fun z=>some (!z))) fun b=>if b=true then (some (.next (w64 (n - 1)))) else (some (.brk n))) ((j:Int) - 1)=some y ∧
   Out (fun n=>∃j':Nat,n=(j':Int) - 1∧i≤j'∧j'≤j∧(∀k,j'≤k→k<j→∀x,l[k]? =some x→lt x v=false)∧(i<j'→¬ ∀x,l[j' - 1]? =some x→lt x v=false)) (fun _=>False) y:=by
 have hd':l.length≤140737488355328:=hd
 refine down_ok (fun k=>∀x,l[k]? =some x→lt x v=false) ?_ ?_ hij
 ·intro k k1 k2
  obtain⟨x,hx⟩:=ZaE (l:=l) (i:=k) (by omega)
  simp only[gAnd,show decide ((i:Int)≤(k:Int))=true by simp;omega,if_true,ZaF h5,ZaF hx,Option.bind_some,hg]
  cases hq:lt x v with
  | false =>
   left
   refine⟨?_,fun y hy=>by rw[hx] at hy;cases hy;exact hq⟩
   simp only[Bool.not_false,if_true,Zdy (b:=k) (by omega)]
  | true =>
   right
   refine⟨?_,fun h=>by rw[h x hx] at hq;cases hq⟩
   simp only[Bool.not_true,Bool.false_eq_true,if_false]
 ·simp only[gAnd,show decide ((i:Int)≤(i:Int) - 1)=false by simp;omega,Bool.false_eq_true,if_false,Option.bind_some]
structure Part (lt:α→α→Bool) (a b:Nat) (v:α) (d:List α) (m:Nat) (r:List α):Prop where
 lo:a≤m
 hi:m<b
 rp:RP a b d r
 at_:r[m]? =some v
 left:∀k x,a≤k→k<m→r[k]? =some x→lt x v=true
 right:∀k x,m<k→k<b→r[k]? =some x→lt x v=false
theorem pfin {l d:List α} {a b m:Nat} {v:α} (h5:l[a]? =some v) (ham:a≤m) (hm:m<b) (hb:b≤l.length) (h4:RP a b d l)
  (hl:∀k x,a<k→k≤m→l[k]? =some x→lt x v=true) (hh:∀k x,m<k→k<b→l[k]? =some x→lt x v=false) :
  ∃y,l[m]? =some y∧idx (l.set m v) (a:Int)=some (if m=a then y else v)∧Part lt a b v d m ((l.set m v).set a y):=by
 obtain⟨y,hy⟩:=ZaE (l:=l) (i:=m) (by omega)
 have hsw:=Zcz hy h5
 refine⟨y,hy,ZcK hy h5,ham,hm,h4.trans (RP.swap hy h5 (by omega) (by omega)),?_,fun k x k1 k2 hx=>?_,fun k x k1 k2 hx=>?_⟩
 ·rw[hsw,sw_l];exact h5
 ·rw[hsw] at hx
  by_cases e:k=a
  ·subst e;rw[sw_r] at hx
   exact hl m x k2 (Nat.le_refl _) hx
  ·rw[sw_o (by omega) e] at hx
   exact hl k x (by omega) (by omega) hx
 ·rw[hsw,sw_o (by omega) (by omega)] at hx
  exact hh k x k1 k2 hx
theorem pxch {l:List α} {a b i j:Nat} {v x y:α} (hy:l[i]? =some y) (hx:l[j]? =some x) (hai:a<i) (hij:i<j) (h5:l[a]? =some v) (hxv:lt x v=true) (hyv:lt y v=false)
  (hl:∀k x,a<k→k<i→l[k]? =some x→lt x v=true) (hh:∀k x,j<k→k<b→l[k]? =some x→lt x v=false) :
  ((l.set i x).set j y)[a]? =some v∧(∀k z,a<k→k<i+1→((l.set i x).set j y)[k]? =some z→lt z v=true)∧∀k z,j≤k→k<b→((l.set i x).set j y)[k]? =some z→lt z v=false:=by
 have hsw:=Zcz hy hx
 refine⟨?_,fun k z k1 k2 hz=>?_,fun k z k1 k2 hz=>?_⟩
 ·rw[hsw,sw_o (by omega) (by omega)];exact h5
 ·rw[hsw] at hz
  by_cases e:k=i
  ·subst e;rw[sw_l,hx] at hz;cases hz;exact hxv
  ·rw[sw_o e (by omega)] at hz;exact hl k z k1 (by omega) hz
 ·rw[hsw] at hz
  by_cases e:k=j
  ·subst e;rw[sw_r,hy] at hz;cases hz;exact hyv
  ·rw[sw_o (by omega) e] at hz;exact hh k z (by omega) k2 hz
theorem gpp_ok (hg:∀x y,less x y=some (lt x y)) {d:List α} {a b p:Nat} {v:α} (hap:a≤p) (hpb:p<b) (hb:b≤d.length) (hd:d.length≤lim) (hv:d[p]? =some v) :
    ∃r,ZdR less d a b p=some r∧∃m:Nat,r.1=(m:Int)∧Part lt a b v d m r.2.2:=by
  have hd':d.length≤140737488355328:=hd
  unfold ZdR
  obtain⟨u,hu⟩:=ZaE (l:=d) (i:=a) (by omega)
  have hs:=ZcK hu hv
  simp only[ZaF hv,ZaF hu,Option.bind_some,Int.toNat_natCast,hs]
  have hR0:RP a b d ((d.set a v).set p u):=RP.swap hu hv (by omega) (by omega)
  have ha0:((d.set a v).set p u)[a]? =some v:=by rw[Zcz hu hv,sw_l];exact hv
  generalize (d.set a v).set p u=d0 at hR0 ha0
  have hl0:=hR0.len
  rw[Zbq (j:=a) (by unfold top;omega),Zdy (by omega)]
  refine ZaL (R:=fun _=>False) (pu_ok hg ha0 (i:=a+1) (j:=b) (by omega) (by omega) (by rw[hl0];exact hd)) ?_ (fun _ h=>h.elim)
  rintro n ⟨i,rfl,q1,q2,q3,q4⟩
  refine ZaL (R:=fun _=>False) (pd_ok hg ha0 (i:=i) (j:=b) (by omega) (by omega) (by rw[hl0];exact hd)) ?_ (fun _ h=>h.elim)
  rintro n ⟨j,rfl,r1,r2,r3,r4⟩
  have hlow:∀k x,a<k→k<i→d0[k]? =some x→lt x v=true:=fun k x k1 k2 hx=>q3 k k1 k2 x hx
  have hhigh:∀k x,j≤k→k<b→d0[k]? =some x→lt x v=false:=fun k x k1 k2 hx=>r3 k k1 k2 x hx
  by_cases hij:i=j
  · subst hij
    rw[if_pos (by simp;omega)]
    obtain⟨y,hy,e,hp⟩:=pfin (lt:=lt) (m:=i - 1) ha0 (by omega) (by omega) (by omega) hR0 (fun k x k1 k2 hx=>hlow k x k1 (by omega) hx) (fun k x k1 k2 hx=>hhigh k x (by omega) k2 hx)
    rw[show (i:Int) - 1=((i - 1:Nat):Int) by omega]
    simp only[ZaF ha0,ZaF hy,Option.bind_some,Int.toNat_natCast,e]
    exact⟨_,rfl,i - 1,rfl,hp⟩
  · obtain⟨x,hx⟩:=ZaE (l:=d0) (i:=j - 1) (by omega)
    obtain⟨y,hy⟩:=ZaE (l:=d0) (i:=i) (by omega)
    have hxv:lt x v=true:=by
      cases hq:lt x v with
      | true=>rfl
      | false=>exact absurd (fun z hz=>by rw[hx] at hz;cases hz;exact hq) (r4 (by omega))
    have hyv:lt y v=false:=by
      cases hq:lt y v with
      | false=>rfl
      | true=>exact absurd (fun z hz=>by rw[hy] at hz;cases hz;exact hq) (q4 (by omega))
    have hne:i≠j - 1:=by rintro e;rw[←e,hy] at hx;cases hx;rw[hxv] at hyv;cases hyv
    rw[if_neg (by simp;omega)]
    have hs2:=ZcK hy hx
    rw[if_neg hne] at hs2
    rw[show (j:Int) - 1=((j - 1:Nat):Int) by omega]
    simp only[ZaF hx,ZaF hy,Option.bind_some,Int.toNat_natCast,hs2]
    obtain⟨x1,x2,x3⟩:=pxch (b:=b) hy hx (by omega) (by omega) ha0 hxv hyv hlow (fun k x k1 k2 hx=>hhigh k x (by omega) k2 hx)
    have hR1:=hR0.trans (RP.swap hy hx ⟨by omega,by omega⟩ ⟨by omega,by omega⟩)
    generalize (d0.set i x).set (j - 1) y=d1 at x1 x2 x3 hR1
    refine ZaL (B:=fun s=>∃m:Nat,s.1=(m:Int)∧a≤m∧m<b∧RP a b d s.2∧s.2[a]? =some v∧(∀k x,a<k→k≤m→s.2[k]? =some x→lt x v=true)∧∀k x,m<k→k<b→s.2[k]? =some x→lt x v=false) (R:=fun _=>False)
      (ZaZ (fun s=>∃i j:Nat,s.1=(i:Int)∧s.2.1=(j:Int) - 1∧a<i∧i≤j∧j≤b∧RP a b d s.2.2∧s.2.2[a]? =some v∧(∀k x,a<k→k<i→s.2.2[k]? =some x→lt x v=true)∧∀k x,j≤k→k<b→s.2.2[k]? =some x→lt x v=false) (fun s=>(s.2.1+1 - s.1).toNat) ?_ _
        ⟨i+1,j - 1,Zbq (by unfold top;omega),Zdy (by omega),by omega,by omega,by omega,hR1,x1,x2,x3⟩) ?_ (fun _ h=>h.elim)
    · clear hlow hhigh q1 q2 q3 q4 r1 r2 r3 r4 hij hx hy hxv hyv hne hs2 x1 x2 x3 hR1 hR0
      rintro⟨n1,n2,l⟩ ⟨i,j,e1,e2,h1,h2,h3,h4,h5,h6,h7⟩
      dsimp only at e1 e2 h4 h5 h6 h7 ⊢
      subst e1 e2
      have hlen:=h4.len
      refine ZaL (R:=fun _=>False) (pu_ok hg h5 (i:=i) (j:=j) h2 (by omega) (by rw[hlen];exact hd)) ?_ (fun _ h=>h.elim)
      rintro n ⟨i',rfl,q1,q2,q3,q4⟩
      refine ZaL (R:=fun _=>False) (pd_ok hg h5 (i:=i') (j:=j) q2 (by omega) (by rw[hlen];exact hd)) ?_ (fun _ h=>h.elim)
      rintro n ⟨j',rfl,r1,r2,r3,r4⟩
      have hlow:∀k x,a<k→k<i'→l[k]? =some x→lt x v=true:=fun k x k1 k2 hx=>by
        rcases Nat.lt_or_ge k i with h | h
        · exact h6 k x k1 h hx
        · exact q3 k h k2 x hx
      have hhigh:∀k x,j'≤k→k<b→l[k]? =some x→lt x v=false:=fun k x k1 k2 hx=>by
        rcases Nat.lt_or_ge k j with h | h
        · exact r3 k k1 h x hx
        · exact h7 k x h k2 hx
      by_cases hij:i'=j'
      · subst hij
        rw[if_pos (by simp;omega)]
        exact⟨_,rfl,i' - 1,by dsimp only;omega,by omega,by omega,h4,h5,fun k x k1 k2 hx=>hlow k x k1 (by omega) hx,fun k x k1 k2 hx=>hhigh k x (by omega) k2 hx⟩
      · obtain⟨x,hx⟩:=ZaE (l:=l) (i:=j' - 1) (by omega)
        obtain⟨y,hy⟩:=ZaE (l:=l) (i:=i') (by omega)
        have hxv:lt x v=true:=by
          cases hq:lt x v with
          | true=>rfl
          | false=>exact absurd (fun z hz=>by rw[hx] at hz;cases hz;exact hq) (r4 (by omega))
        have hyv:lt y v=false:=by
          cases hq:lt y v with
          | false=>rfl
          | true=>exact absurd (fun z hz=>by rw[hy] at hz;cases hz;exact hq) (q4 (by omega))
        have hne:i'≠j' - 1:=by rintro e;rw[←e,hy] at hx;cases hx;rw[hxv] at hyv;cases hyv
        rw[if_neg (by simp;omega)]
        have hs2:=ZcK hy hx
        rw[if_neg hne] at hs2
        rw[show (j':Int) - 1=((j' - 1:Nat):Int) by omega]
        simp only[ZaF hx,ZaF hy,Option.bind_some,Int.toNat_natCast,hs2]
        obtain⟨x1,x2,x3⟩:=pxch (b:=b) hy hx (by omega) (by omega) h5 hxv hyv hlow (fun k x k1 k2 hx=>hhigh k x (by omega) k2 hx)
        refine⟨_,rfl,⟨i'+1,j' - 1,Zbq (by unfold top;omega),Zdy (by omega),by omega,by omega,by omega,h4.trans (RP.swap hy hx (by omega) (by omega)),x1,x2,x3⟩,?_⟩
        dsimp only
        rw[Zbq (by unfold top;omega),Zdy (by omega)]
        omega
    · rintro⟨n,l⟩ ⟨m,e1,m1,m2,m3,m4,m5,m6⟩
      dsimp only at e1 m3 m4 m5 m6 ⊢
      subst e1
      have hlen:=m3.len
      obtain⟨y,hy,e,hp⟩:=pfin (lt:=lt) m4 m1 m2 (by omega) m3 m5 m6
      simp only[ZaF m4,ZaF hy,Option.bind_some,Int.toNat_natCast,e]
      exact⟨_,rfl,m,rfl,hp⟩
end Go.Abs
