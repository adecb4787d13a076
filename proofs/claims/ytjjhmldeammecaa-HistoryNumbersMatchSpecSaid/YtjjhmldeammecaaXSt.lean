/-
  Sorting,the plain law:the whole sort (no program is in sight).
-/
import Derived.Test.YtjjhmldeammecaaXSs
namespace Go.Abs
open Go
set_option maxRecDepth 8000
variable {α:Type} {less:α→α→Option Bool} {lt:α→α→Bool}
def PI (lt:α→α→Bool) (A B a b:Nat) (l:List α):Prop:=∀i j x y,A≤i→i<j→j<B→(i<a∨b≤j)→l[i]? =some x→l[j]? =some y→lt y x=false
theorem PI.rp {A B a b:Nat} {l r:List α} (h:PI lt A B a b l) (hA:A≤a) (hB:b≤B) (hr:RP a b l r):PI lt A B a b r:=by
 intro i j x y h1 h2 h3 h4 hx hy
 by_cases hj:a≤j∧j<b
 ·have hi:i<a:=by omega
  rw[hr.out i (by omega)] at hx
  obtain⟨j',j1,j2,hj'⟩:=hr.get hj.1 hj.2 hy
  exact h i j' x y h1 (by omega) (by omega) (.inl hi) hx hj'
 ·rw[hr.out j (by omega)] at hy
  by_cases hi:a≤i∧i<b
  ·have hj:b≤j:=by omega
   obtain⟨i',i1,i2,hi'⟩:=hr.get hi.1 hi.2 hx
   exact h i' j x y (by omega) (by omega) h3 (.inr hj) hi' hy
  ·rw[hr.out i (by omega)] at hx
   exact h i j x y h1 h2 h3 h4 hx hy
theorem PI.done {A B a b:Nat} {l:List α} (h:PI lt A B a b l) (hs:SB lt l a b):SB lt l A B:=by
 intro i j x y h1 h2 h3 hx hy
 by_cases hij:i<a∨b≤j
 ·exact h i j x y h1 h2 h3 hij hx hy
 ·exact hs i j x y (by omega) h2 (by omega) hx hy
def Bel (lt:α→α→Bool) (a b:Nat) (l:List α):Prop:=0<a→∀y,l[a - 1]? =some y→∀i x,a≤i→i<b→l[i]? =some x→lt x y=false
theorem Bel.rp {a b:Nat} {l r:List α} (h:Bel lt a b l) (hr:RP a b l r):Bel lt a b r:=by
 intro h0 y hy i x h1 h2 hx
 rw[hr.out (a - 1) (by omega)] at hy
 obtain⟨j,j1,j2,hj⟩:=hr.get h1 h2 hx
 exact h h0 y hy j x j1 j2 hj
theorem Bel.mono {a b b':Nat} {l:List α} (h:Bel lt a b l) (hb:b'≤b):Bel lt a b' l:=fun h0 y hy i x h1 h2 hx=>h h0 y hy i x h1 (by omega) hx
theorem PI.bel {A B a b:Nat} {l:List α} (h:PI lt A B a b l) (hA:A<a) (hB:b≤B):Bel lt a b l:=fun _ y hy i x h1 h2 hx=>h (a - 1) i y x (by omega) (by omega) (by omega) (.inl (by omega)) hy hx
structure Cut2 (lt:α→α→Bool) (a b m:Nat) (v:α) (l:List α):Prop where
 at_:l[m]? =some v
 left:∀k x,a≤k→k<m→l[k]? =some x→lt x v=true
 right:∀k x,m<k→k<b→l[k]? =some x→lt x v=false
theorem Part.cut {a b m:Nat} {v:α} {d r:List α} (h:Part lt a b v d m r):Cut2 lt a b m v r:=⟨h.at_,h.left,h.right⟩
theorem Cut2.rpl {a b m:Nat} {v:α} {l r:List α} (h:Cut2 lt a b m v l) (hr:RP a m l r):Cut2 lt a b m v r :=
  ⟨by rw[hr.out m (by omega)];exact h.at_,fun k x h1 h2 hx=>by
    obtain⟨j,j1,j2,hj⟩:=hr.get h1 h2 hx
    exact h.left j x j1 j2 hj,fun k x h1 h2 hx=>h.right k x h1 h2 (by rw[←hr.out k (by omega)];exact hx)⟩
theorem Cut2.rpr {a b m:Nat} {v:α} {l r:List α} (h:Cut2 lt a b m v l) (hr:RP (m+1) b l r):Cut2 lt a b m v r :=
  ⟨by rw[hr.out m (by omega)];exact h.at_,fun k x h1 h2 hx=>h.left k x h1 h2 (by rw[←hr.out k (by omega)];exact hx),fun k x h1 h2 hx=>by
    obtain⟨j,j1,j2,hj⟩:=hr.get (show m+1≤k from h1) h2 hx
    exact h.right j x j1 j2 hj⟩
theorem Cut2.pair (hc:LtOk lt) {a b m:Nat} {v:α} {l:List α} (h:Cut2 lt a b m v l) {i j:Nat} {x y:α} (h1:a≤i) (h2:i≤m) (h3:m≤j) (h4:j<b) (hij:i<j) (hx:l[i]? =some x) (hy:l[j]? =some y):lt y x=false:=by
 have hvx:lt v x=false:=by
  rcases Nat.lt_or_ge i m with e | e
  ·exact hc.asym _ _ (h.left i x h1 e hx)
  ·obtain rfl:i=m:=by omega
   rw[h.at_] at hx;cases hx;exact hc.irrefl _
 have hyv:lt y v=false:=by
  rcases Nat.lt_or_ge m j with e | e
  ·exact h.right j y e h4 hy
  ·obtain rfl:j=m:=by omega
   rw[h.at_] at hy;cases hy;exact hc.irrefl _
 exact hc.trans _ _ _ hvx hyv
theorem PI.left (hc:LtOk lt) {A B a b m:Nat} {v:α} {l:List α} (h:PI lt A B a b l) (hm:m<b) (hcut:Cut2 lt a b m v l) (hs:SB lt l a m):PI lt A B (m+1) b l:=by
 intro i j x y h1 h2 h3 h4 hx hy
 by_cases hij:i<a∨b≤j
 ·exact h i j x y h1 h2 h3 hij hx hy
 ·rcases Nat.lt_or_ge j m with e | e
  ·exact hs i j x y (by omega) h2 e hx hy
  ·exact hcut.pair hc (by omega) (by omega) e (by omega) h2 hx hy
theorem PI.right (hc:LtOk lt) {A B a b m:Nat} {v:α} {l:List α} (h:PI lt A B a b l) (ham:a≤m) (hcut:Cut2 lt a b m v l) (hs:SB lt l (m+1) b):PI lt A B a m l:=by
 intro i j x y h1 h2 h3 h4 hx hy
 by_cases hij:i<a∨b≤j
 ·exact h i j x y h1 h2 h3 hij hx hy
 ·rcases Nat.lt_or_ge m i with e | e
  ·exact hs i j x y e h2 (by omega) hx hy
  ·exact hcut.pair hc (by omega) e (by omega) (by omega) h2 hx hy
theorem PI.equal (hc:LtOk lt) {A B a b m:Nat} {v p:α} {l:List α} (h:PI lt A B a b l) (hb:Bel lt a b l) (h0:0<a) (ham:a<m) (hmb:m≤b) (hp:l[a - 1]? =some p) (hpv:lt p v=false) (hl:∀i x,a≤i→i<m→l[i]? =some x→lt v x=false) (hr:∀i x,m≤i→i<b→l[i]? =some x→lt v x=true):PI lt A B m b l:=by
 intro i j x y h1 h2 h3 h4 hx hy
 by_cases hij:i<a∨b≤j
 ·exact h i j x y h1 h2 h3 hij hx hy
 ·have hvx:=hl i x (by omega) (by omega) hx
  rcases Nat.lt_or_ge j m with e | e
  ·have hyp:=hb h0 p hp j y (by omega) (by omega) hy
   exact hc.trans _ _ _ hvx (hc.trans _ _ _ hpv hyp)
  ·exact hc.asym _ _ (hc.lt_le (hr j y e (by omega) hy) hvx)
theorem gpd_ok {np:Int→Option Int} {nx:Int→Option (Int × Int)} (hg:∀x y,less x y=some (lt x y)) (hc:LtOk lt) (hnp:NpOk np) (hnx:NxOk nx) :
    ∀(fuel:Nat) (d:List α) (A B:Nat) (n:Int),B - A<fuel→A≤B→B≤d.length→d.length≤lim→Bel lt A B d→∃r,Zdj less np nx fuel d A B n=some r∧RP A B d r∧SB lt r A B:=by
  intro fuel
  induction fuel with
  | zero=>intro d A B n h;omega
  | succ fuel ih =>
    intro d A B n hf hAB hB hd hbel
    have hd':d.length≤140737488355328:=hd
    unfold Zdj
    refine ZaL (B:=fun _=>False) (R:=fun r=>RP A B d r∧SB lt r A B)
      (ZaZ (fun s=>∃a b:Nat,s.1=(a:Int)∧s.2.1=(b:Int)∧A≤a∧a≤b∧b≤B∧RP A B d s.2.2.2.2.1∧PI lt A B a b s.2.2.2.2.1∧Bel lt a b s.2.2.2.2.1) (fun s=>(s.2.1 - s.1).toNat) ?_ _
        ⟨A,B,rfl,rfl,Nat.le_refl _,hAB,Nat.le_refl _,RP.refl _ _ _,fun i j x y h1 h2 h3 h4=>by omega,hbel⟩) (fun _ h=>h.elim) (fun r h=>h)
    rintro⟨n1,n2,b1,b2,l,n⟩ ⟨a,b,e1,e2,h1,h2,h3,h4,h5,h6⟩
    dsimp only at e1 e2 h4 h5 h6 ⊢
    subst e1 e2
    have hlen:=h4.len
    have e0:w64 ((b:Int) - (a:Int))=((b - a:Nat):Int):=ZbD (by omega) (by unfold top;omega)
    have hldl:l.length≤lim:=by rw[hlen];exact hd
    simp only[e0]
    by_cases h12:b - a≤12
    · rw[if_pos (by simp;omega)]
      obtain⟨r,hr,r1,r2⟩:=gpi_ok hg hc (d:=l) (a:=a) (b:=b) (by omega) (by omega) (by unfold top;omega)
      rw[hr,Option.bind_some,ZbB r1.len,Option.bind_some]
      exact⟨_,rfl,h4.trans (r1.mono h1 h3),(h5.rp h1 h3 r1).done r2⟩
    rw[if_neg (by simp;omega)]
    by_cases hn0:(n == 0)=true
    · rw[if_pos hn0]
      obtain⟨r,hr,r1,r2⟩:=gph_ok hg hc (d:=l) (a:=a) (b:=b) (by omega) (by omega) hldl
      rw[hr,Option.bind_some,ZbB r1.len,Option.bind_some]
      exact⟨_,rfl,h4.trans (r1.mono h1 h3),(h5.rp h1 h3 r1).done r2⟩
    rw[if_neg hn0]
    refine ZaL (B:=fun s=>RP a b l s.2) (R:=fun _=>False) ?_ ?_ (fun _ h=>h.elim)
    · by_cases hb1:(!b1)=true
      · rw[if_pos hb1]
        obtain⟨r,hr,r1⟩:=gpb_ok hnp hnx (d:=l) (a:=a) (b:=b) (by omega) h2 hldl
        rw[hr,Option.bind_some,ZbB r1.len,Option.bind_some]
        exact⟨_,rfl,r1⟩
      · rw[if_neg hb1]
        exact⟨_,rfl,RP.refl _ _ _⟩
    rintro⟨n3,l1⟩ hR1
    dsimp only at hR1 ⊢
    have hl1:=hR1.len
    obtain⟨⟨y1,y2⟩,hy,p,e,p1,p2⟩:=gpc_ok hg (d:=l1) (a:=a) (b:=b) (by omega) (by omega) (by omega)
    dsimp only at e
    subst e
    rw[hy,Option.bind_some]
    dsimp only
    refine ZaL (B:=fun s=>∃p:Nat,s.1=(p:Int)∧a≤p∧p<b∧RP a b l s.2.2) (R:=fun _=>False) ?_ ?_ (fun _ h=>h.elim)
    · by_cases hy2:(y2 == 2)=true
      · rw[if_pos hy2]
        obtain⟨r,hr,r1⟩:=gpr_ok (d:=l1) (a:=a) (b:=b) (by omega) h2 (by omega)
        rw[hr,Option.bind_some,ZbB r1.len,Option.bind_some]
        refine⟨_,rfl,b - 1 - (p - a),?_,by omega,by omega,hR1.trans r1⟩
        dsimp only
        rw[ZeL (j:=b) (by omega) (by unfold top;omega),ZbD (z:=(p:Int) - (a:Int)) (n:=p - a) (by omega) (by unfold top;omega)]
        exact ZbD (by omega) (by unfold top;omega)
      · rw[if_neg hy2]
        exact⟨_,rfl,p,rfl,p1,p2,hR1⟩
    clear hy hR1 hl1 p1 p2
    rintro⟨n4,n5,l2⟩ ⟨p,e,p1,p2,hR2⟩
    dsimp only at e hR2 ⊢
    subst e
    have hl2:=hR2.len
    refine ZaL (B:=fun s=>RP a b l s) (R:=fun e=>∃r,e= .ret r∧RP A B d r∧SB lt r A B) ?_ ?_ (fun e h=>by obtain⟨r,rfl,h⟩:=h;exact h)
    · by_cases hb:((b1 && b2) && (n5 == 1))=true
      · rw[if_pos hb]
        obtain⟨⟨f,r⟩,hr,r1,r2⟩:=gpq_ok hg hc (d:=l2) (a:=a) (b:=b) (by omega) (by omega) (by omega) (h6.rp hR2)
        dsimp only at r1 r2
        rw[hr,Option.bind_some]
        dsimp only
        rw[ZbB r1.len,Option.bind_some]
        cases f with
        | true =>
          rw[if_pos rfl]
          exact⟨_,rfl,r,rfl,h4.trans ((hR2.trans r1).mono h1 h3),(h5.rp h1 h3 (hR2.trans r1)).done (r2 rfl)⟩
        | false =>
          rw[if_neg (by simp)]
          exact⟨_,rfl,hR2.trans r1⟩
      · rw[if_neg hb]
        exact⟨_,rfl,hR2⟩
    clear hR2 hl2
    intro l3 hR3
    have hl3:=hR3.len
    have h43:=h4.trans (hR3.mono h1 h3)
    have h53:=h5.rp h1 h3 hR3
    have h63:=h6.rp hR3
    clear h4 h5 h6 hlen hR3 hldl
    have hl3d:=h43.len
    obtain⟨v,hv⟩:=ZaE (l:=l3) (i:=p) (by omega)
    have hpart:∃z,Option.bind (ZdR less l3 a b p) (fun (y252,y253,l254)=>Option.bind (chk (l254.length == l3.length)) fun _=>if (decide (w64 (y252 - a)<w64 (b - y252)))=true then (Option.bind (Zdj less np nx fuel l254 a y252 n3) fun l258=>Option.bind (chk (l258.length == l254.length)) fun _=>some (.next (w64 (y252+1),(b:Int),decide (w64 (y252 - a)≥w64 (((b - a:Nat):Int).tdiv 8)),y253,l258,n3))) else (Option.bind (Zdj less np nx fuel l254 (w64 (y252+1)) b n3) fun l261=>Option.bind (chk (l261.length == l254.length)) fun _=>some (.next ((a:Int),y252,decide (w64 (b - y252)≥w64 (((b - a:Nat):Int).tdiv 8)),y253,l261,n3))))=some z ∧
        OutE (fun s=>(∃a b:Nat,s.1=(a:Int)∧s.2.1=(b:Int)∧A≤a∧a≤b∧b≤B∧RP A B d s.2.2.2.2.1∧PI lt A B a b s.2.2.2.2.1∧Bel lt a b s.2.2.2.2.1)∧(s.2.1 - s.1).toNat<((b:Int) - (a:Int)).toNat) (fun _:Unit=>False) (fun r=>RP A B d r∧SB lt r A B) z:=by
      obtain⟨⟨m',q,r⟩,hr,m,e,hP⟩:=gpp_ok hg (d:=l3) (a:=a) (b:=b) (p:=p) p1 p2 (by omega) (by omega) hv
      dsimp only at e hP
      subst e
      rw[hr,Option.bind_some]
      dsimp only
      have hlr:=hP.rp.len
      have hlo:=hP.lo
      have hhi:=hP.hi
      rw[ZbB hlr,Option.bind_some]
      have h4r:=h43.trans (hP.rp.mono h1 h3)
      have h5r:=h53.rp h1 h3 hP.rp
      have h6r:=h63.rp hP.rp
      rw[Zbq (j:=m) (by unfold top;omega)]
      by_cases hlt:(decide (w64 ((m:Int) - (a:Int))<w64 ((b:Int) - (m:Int))))=true
      · rw[if_pos hlt]
        obtain⟨r',hr',r1,r2⟩:=ih r a m n3 (by omega) hlo (by omega) (by omega) (h6r.mono (by omega))
        rw[hr',Option.bind_some,ZbB r1.len,Option.bind_some]
        have hR:=r1.mono (Nat.le_refl a) (show m≤b by omega)
        have hPI:=(h5r.rp h1 h3 hR).left hc hhi (hP.cut.rpl r1) r2
        exact⟨_,rfl,⟨m+1,b,rfl,rfl,by omega,by omega,h3,h4r.trans (hR.mono h1 h3),hPI,hPI.bel (by omega) h3⟩,by dsimp only;omega⟩
      · rw[if_neg hlt]
        obtain⟨r',hr',r1,r2⟩:=ih r (m+1) b n3 (by omega) (by omega) (by omega) (by omega) (fun _ y hy i x i1 i2 hx=>by
          rw[Nat.add_sub_cancel,hP.at_] at hy;cases hy
          exact hP.right i x (by omega) i2 hx)
        rw[hr',Option.bind_some,ZbB r1.len,Option.bind_some]
        have hR:=r1.mono (show a≤m+1 by omega) (Nat.le_refl b)
        have hPI:=(h5r.rp h1 h3 hR).right hc hlo (hP.cut.rpr r1) r2
        exact⟨_,rfl,⟨a,m,rfl,rfl,h1,hlo,by omega,h4r.trans (hR.mono h1 h3),hPI,(h6r.rp hR).mono (by omega)⟩,by dsimp only;omega⟩
    rcases Nat.eq_zero_or_pos a with ha | ha
    · simp only[gAnd,show decide ((a:Int)>0)=false by simp;omega,Bool.false_eq_true,if_false,Option.bind_some]
      exact hpart
    · obtain⟨w,hw⟩:=ZaE (l:=l3) (i:=a - 1) (by omega)
      simp only[gAnd,show decide ((a:Int)>0)=true by simp;omega,if_true,ZeL (j:=a) ha (by unfold top;omega),ZaF hw,ZaF hv,Option.bind_some,hg]
      cases hwv:lt w v with
      | true =>
        rw[if_neg (by simp)]
        exact hpart
      | false =>
        rw[if_pos (by simp)]
        obtain⟨⟨m',r⟩,hr,m,e,m1,m2,m3,m4,m5⟩:=gpe_ok hg hc (d:=l3) (a:=a) (b:=b) (p:=p) p1 p2 (by omega) (by omega) hv
        dsimp only at e m3 m4 m5
        subst e
        rw[hr,Option.bind_some]
        dsimp only
        rw[ZbB m3.len,Option.bind_some]
        have hw':r[a - 1]? =some w:=by rw[m3.out (a - 1) (by omega)];exact hw
        have hPI:=(h53.rp h1 h3 m3).equal hc (h63.rp m3) ha m1 m2 hw' hwv m4 m5
        exact⟨_,rfl,⟨m,b,rfl,rfl,by omega,m2,h3,h43.trans (m3.mono h1 h3),hPI,hPI.bel (by omega) h3⟩,by dsimp only;omega⟩
end Go.Abs
