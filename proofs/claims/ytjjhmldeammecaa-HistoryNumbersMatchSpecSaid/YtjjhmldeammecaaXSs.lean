/-
  Sorting,the plain law:the sort by a heap (no program is in sight).
-/
import Derived.Test.YtjjhmldeammecaaXSr
namespace Go.Abs
open Go
set_option maxRecDepth 8000
variable {α:Type} {less:α→α→Option Bool} {lt:α→α→Bool}
def HP (lt:α→α→Bool) (d:List α) (f hi i:Nat):Prop:=∀c x y,(c=2*i+1∨c=2*i+2)→c<hi→d[f+i]? =some x→d[f+c]? =some y→lt x y=false
theorem gps_ok (hg:∀x y,less x y=some (lt x y)) (hc:LtOk lt) {d:List α} {f lo hi:Nat} (hb:f+hi≤d.length) (hlo:lo≤d.length) (hd:d.length≤lim) (hh:∀i,lo<i→HP lt d f hi i) :
    ∃r,ZeX less d lo hi f=some r∧RP f (f+hi) d r∧∀i,lo≤i→HP lt r f hi i:=by
  have hd':d.length≤140737488355328:=hd
  unfold ZeX
  refine ZaL (B:=fun l=>RP f (f+hi) d l∧∀i,lo≤i→HP lt l f hi i) (R:=fun l=>RP f (f+hi) d l∧∀i,lo≤i→HP lt l f hi i)
    (ZaZ (fun s=>∃r:Nat,s.1=(r:Int)∧lo≤r∧r≤d.length∧RP f (f+hi) d s.2∧(∀i,lo≤i→i≠r→HP lt s.2 f hi i) ∧
      ∀i c x y,lo≤i→(r=2*i+1∨r=2*i+2)→(c=2*r+1∨c=2*r+2)→c<hi→s.2[f+i]? =some x→s.2[f+c]? =some y→lt x y=false) (fun s=>hi - s.1.toNat) ?_ _
      ⟨lo,rfl,Nat.le_refl _,hlo,RP.refl _ _ _,fun i h1 h2=>hh i (by omega),fun i c x y h1 h2=>by omega⟩)
    (fun l h=>⟨l,rfl,h⟩) (fun l h=>h)
  rintro⟨n,l⟩ ⟨r,e,h1,h2,h3,h4,h5⟩
  dsimp only at e h3 h4 h5 ⊢
  subst e
  have hlen:=h3.len
  have e1:w64 (2*(r:Int))=((2*r:Nat):Int):=ZbD (by omega) (by unfold top;omega)
  have e2:w64 (((2*r:Nat):Int)+1)=((2*r+1:Nat):Int):=Zbq (by unfold top;omega)
  have e3:w64 (((2*r+1:Nat):Int)+1)=((2*r+2:Nat):Int):=Zbq (by unfold top;omega)
  simp only[e1,e2,e3]
  by_cases hch:hi≤2*r+1
  · rw[if_pos (by simp;omega)]
    refine⟨_,rfl,h3,fun i hi'=>?_⟩
    by_cases e:i=r
    · subst e;intro c x y hc1 hc2;omega
    · exact h4 i hi' e
  rw[if_neg (by simp;omega)]
  have e4:w64 ((f:Int)+((2*r+1:Nat):Int))=((f+(2*r+1):Nat):Int):=ZbD (by omega) (by unfold top;omega)
  have e5:w64 (((f+(2*r+1):Nat):Int)+1)=((f+(2*r+1)+1:Nat):Int):=Zbq (by unfold top;omega)
  have e6:w64 ((f:Int)+(r:Int))=((f+r:Nat):Int):=ZbD (by omega) (by unfold top;omega)
  simp only[e4,e5,e6]
  obtain⟨x,hx⟩:=ZaE (l:=l) (i:=f+(2*r+1)) (by omega)
  refine ZaL (B:=fun n=>∃c:Nat,n=(c:Int)∧(c=2*r+1∨c=2*r+2)∧c<hi∧∀c' x y,(c'=2*r+1∨c'=2*r+2)→c'<hi→l[f+c]? =some x→l[f+c']? =some y→lt x y=false) (R:=fun _=>False) ?_ ?_ (fun _ h=>h.elim)
  · by_cases h2r:2*r+2<hi
    · obtain⟨y,hy⟩:=ZaE (l:=l) (i:=f+(2*r+1)+1) (by omega)
      simp only[gAnd,show decide (((2*r+2:Nat):Int)<(hi:Int))=true by simp;omega,if_true,ZaF hx,ZaF hy,Option.bind_some,hg]
      cases hlt:lt x y with
      | true =>
        rw[if_pos rfl]
        refine⟨_,rfl,2*r+2,rfl,.inr rfl,h2r,fun c' u v hc1 hc2 hu hv=>?_⟩
        rw[show f+(2*r+2)=f+(2*r+1)+1 by omega,hy] at hu;cases hu
        rcases hc1 with rfl | rfl
        · rw[hx] at hv;cases hv;exact hc.asym _ _ hlt
        · rw[show f+(2*r+2)=f+(2*r+1)+1 by omega,hy] at hv;cases hv;exact hc.irrefl _
      | false =>
        rw[if_neg (by simp)]
        refine⟨_,rfl,2*r+1,rfl,.inl rfl,by omega,fun c' u v hc1 hc2 hu hv=>?_⟩
        rw[hx] at hu;cases hu
        rcases hc1 with rfl | rfl
        · rw[hx] at hv;cases hv;exact hc.irrefl _
        · rw[show f+(2*r+2)=f+(2*r+1)+1 by omega,hy] at hv;cases hv;exact hlt
    · simp only[gAnd,show decide (((2*r+2:Nat):Int)<(hi:Int))=false by simp;omega,Bool.false_eq_true,if_false,Option.bind_some]
      refine⟨_,rfl,2*r+1,rfl,.inl rfl,by omega,fun c' u v hc1 hc2 hu hv=>?_⟩
      obtain rfl:c'=2*r+1:=by omega
      rw[hu] at hv;cases hv;exact hc.irrefl _
  · rintro n ⟨c,rfl,c1,c2,c3⟩
    have e7:w64 ((f:Int)+(c:Int))=((f+c:Nat):Int):=ZbD (by omega) (by unfold top;omega)
    simp only[e7]
    obtain⟨u,hu⟩:=ZaE (l:=l) (i:=f+r) (by omega)
    obtain⟨v,hv⟩:=ZaE (l:=l) (i:=f+c) (by omega)
    have hs:=ZcK hu hv
    rw[if_neg (by omega)] at hs
    simp only[ZaF hu,ZaF hv,Option.bind_some,hg,Int.toNat_natCast,hs]
    cases hlt:lt u v with
    | false =>
      rw[if_pos (by simp)]
      refine⟨_,rfl,h3,fun i hi'=>?_⟩
      by_cases e:i=r
      · subst e
        intro c' p q hc1 hc2 hp hq
        rw[hu] at hp;cases hp
        exact hc.trans _ _ _ (c3 c' v q hc1 hc2 hv hq) hlt
      · exact h4 i hi' e
    | true =>
      rw[if_neg (by simp)]
      have hsw:=Zcz hu hv
      refine⟨_,rfl,⟨c,rfl,by omega,by omega,h3.trans (RP.swap hu hv (by omega) (by omega)),fun i hi' hic c' p q hc1 hc2 hp hq=>?_,fun i c' p q hi' hc0 hc1 hc2 hp hq=>?_⟩,by simp only[Int.toNat_natCast];omega⟩
      · dsimp only at hp hq
        rw[hsw] at hp hq
        by_cases e:i=r
        · subst e
          rw[sw_l,hv] at hp;cases hp
          by_cases e2:c'=c
          · subst e2;rw[sw_r,hu] at hq;cases hq;exact hc.asym _ _ hlt
          · rw[sw_o (by omega) (by omega)] at hq
            exact c3 c' _ q hc1 hc2 hv hq
        · rw[sw_o (by omega) (by omega)] at hp
          by_cases e2:c'=r
          · subst e2;rw[sw_l] at hq
            exact h5 i c p q hi' hc1 c1 c2 hp hq
          · have:c'≠c:=by omega
            rw[sw_o (by omega) (by omega)] at hq
            exact h4 i hi' e c' p q hc1 hc2 hp hq
      · dsimp only at hp hq
        rw[hsw] at hp hq
        obtain rfl:i=r:=by omega
        rw[sw_l,hv] at hp;cases hp
        rw[sw_o (by omega) (by omega)] at hq
        exact h4 c (by omega) (by omega) c' v q hc1 hc2 hv hq
theorem HP.top (hc:LtOk lt) {d:List α} {f hi:Nat} (hb:f+hi≤d.length) (h:∀i,HP lt d f hi i):∀n i x y,i≤n→i<hi→d[f]? =some x→d[f+i]? =some y→lt x y=false:=by
 intro n
 induction n with
 | zero =>
  intro i x y h1 h2 hx hy
  obtain rfl:i=0:=by omega
  rw[Nat.add_zero,hx] at hy;cases hy;exact hc.irrefl _
 | succ n ih =>
  intro i x y h1 h2 hx hy
  rcases Nat.eq_zero_or_pos i with rfl | h0
  ·rw[Nat.add_zero,hx] at hy;cases hy;exact hc.irrefl _
  ·obtain⟨z,hz⟩:=ZaE (l:=d) (i:=f+(i - 1) / 2) (by omega)
   exact hc.trans _ _ _ (h ((i - 1) / 2) i z y (by omega) h2 hz hy) (ih ((i - 1) / 2) x z (by omega) (by omega) hx hz)
theorem gph_ok (hg:∀x y,less x y=some (lt x y)) (hc:LtOk lt) {d:List α} {a b:Nat} (hab:a<b) (hb:b≤d.length) (hd:d.length≤lim) :
    ∃r,ZeZ less d a b=some r∧RP a b d r∧SB lt r a b:=by
  have hd':d.length≤140737488355328:=hd
  unfold ZeZ
  have e0:w64 ((b:Int) - (a:Int))=((b - a:Nat):Int):=ZbD (by omega) (by unfold top;omega)
  have e1:w64 (((b - a:Nat):Int) - 1)=((b - a:Nat):Int) - 1:=Zdy (by omega)
  have e2:w64 ((((b - a:Nat):Int) - 1).tdiv 2)=(((b - a - 1) / 2+1:Nat):Int) - 1:=by
    rw[Int.tdiv_eq_ediv_of_nonneg (by omega),show (((b - a:Nat):Int) - 1) / 2=(((b - a - 1) / 2:Nat):Int) by omega,ZbD rfl (by unfold top;omega)]
    omega
  simp only[e0,e1,e2]
  have hab':a+(b - a)=b:=by omega
  refine ZaL (B:=fun l=>RP a b d l∧∀i,HP lt l a (b - a) i) (R:=fun _=>False)
    (ZaZ (fun s=>∃k:Nat,s.1=(k:Int) - 1∧k≤b∧RP a b d s.2∧∀i,k≤i→HP lt s.2 a (b - a) i) (fun s=>(s.1+1).toNat) ?_ _
      ⟨(b - a - 1) / 2+1,rfl,by omega,RP.refl _ _ _,fun i hi c x y h1 h2=>by omega⟩) ?_ (fun _ h=>h.elim)
  · rintro⟨n,l⟩ ⟨k,e,h1,h2,h3⟩
    dsimp only at e h2 h3 ⊢
    subst e
    have hlen:=h2.len
    rcases Nat.eq_zero_or_pos k with rfl | hk
    · rw[if_neg (by simp)]
      exact⟨_,rfl,h2,fun i=>h3 i (Nat.zero_le _)⟩
    · rw[if_pos (by simp;omega),show (k:Int) - 1=((k - 1:Nat):Int) by omega]
      obtain⟨r,hr,r1,r2⟩:=gps_ok hg hc (d:=l) (f:=a) (lo:=k - 1) (hi:=b - a) (by omega) (by omega) (by rw[hlen];exact hd) (fun i hi=>h3 i (by omega))
      rw[hab'] at r1
      rw[hr,Option.bind_some]
      rw[chk_eq (by rw[r1.len];simp),Option.bind_some]
      exact⟨_,rfl,⟨k - 1,Zdy (by omega),by omega,h2.trans r1,r2⟩,by dsimp only;rw[Zdy (by omega)];omega⟩
  · rintro l ⟨hR,hH⟩
    have hlen:=hR.len
    refine ZaL (B:=fun l=>RP a b d l∧SB lt l a b) (R:=fun _=>False)
      (ZaZ (fun s=>∃k:Nat,s.1=(k:Int) - 1∧k≤b - a∧RP a b d s.2∧(∀i,HP lt s.2 a k i)∧∀i j x y,a≤i→i<j→a+k≤j→j<b→s.2[i]? =some x→s.2[j]? =some y→lt y x=false) (fun s=>(s.1+1).toNat) ?_ _
        ⟨b - a,rfl,Nat.le_refl _,hR,hH,fun i j x y h1 h2 h3 h4=>by omega⟩) (fun l h=>⟨l,rfl,h⟩) (fun _ h=>h.elim)
    rintro⟨n,l⟩ ⟨k,e,h1,h2,h3,h4⟩
    dsimp only at e h2 h3 h4 ⊢
    subst e
    have hlen:=h2.len
    rcases Nat.eq_zero_or_pos k with rfl | hk
    · rw[if_neg (by simp)]
      exact⟨_,rfl,h2,fun i j x y q1 q2 q3=>h4 i j x y q1 q2 (by omega) q3⟩
    · rw[if_pos (by simp;omega),show (k:Int) - 1=((k - 1:Nat):Int) by omega]
      have e5:w64 ((a:Int)+((k - 1:Nat):Int))=((a+(k - 1):Nat):Int):=ZbD (by omega) (by unfold top;omega)
      obtain⟨x,hx⟩:=ZaE (l:=l) (i:=a+(k - 1)) (by omega)
      obtain⟨y,hy⟩:=ZaE (l:=l) (i:=a) (by omega)
      have hs:=ZcK hy hx
      simp only[e5,ZaF hx,ZaF hy,Option.bind_some,Int.toNat_natCast,hs]
      have hsw:=Zcz hy hx
      have hR1:RP a (a+k) l ((l.set a x).set (a+(k - 1)) y):=RP.swap hy hx ⟨by omega,by omega⟩ ⟨by omega,by omega⟩
      have hT:=HP.top hc (f:=a) (hi:=k) (d:=l) (by omega) h3
      have hH1:∀i,0<i→HP lt ((l.set a x).set (a+(k - 1)) y) a (k - 1) i:=fun i hi c p q hc1 hc2 hp hq=>by
        rw[hsw,sw_o (by omega) (by omega)] at hp hq
        exact h3 i c p q hc1 (by omega) hp hq
      have hat:((l.set a x).set (a+(k - 1)) y)[a+(k - 1)]? =some y:=by rw[hsw,sw_r];exact hy
      generalize (l.set a x).set (a+(k - 1)) y=l1 at hR1 hH1 hat
      have hl1:=hR1.len
      obtain⟨r,hr,r1,r2⟩:=gps_ok hg hc (d:=l1) (f:=a) (lo:=0) (hi:=k - 1) (by omega) (by omega) (by rw[hl1,hlen];exact hd) hH1
      rw[show (0:Int)=((0:Nat):Int) from rfl,hr,Option.bind_some]
      rw[chk_eq (by rw[r1.len];simp),Option.bind_some]
      have hRk:RP a (a+k) l r:=hR1.trans (r1.mono (Nat.le_refl _) (by omega))
      refine⟨_,rfl,⟨k - 1,Zdy (by omega),by omega,h2.trans (hRk.mono (Nat.le_refl _) (by omega)),fun i=>r2 i (Nat.zero_le _),fun i j p q q1 q2 q3 q4 hp hq=>?_⟩,by dsimp only;rw[Zdy (by omega)];omega⟩
      dsimp only at hp hq
      rcases Nat.lt_or_ge j (a+k) with hj | hj
      · obtain rfl:j=a+(k - 1):=by omega
        rw[r1.out _ (by omega),hat] at hq;cases hq
        obtain⟨m,m1,m2,hm⟩:=hRk.get q1 (by omega) hp
        refine hT (m - a) (m - a) _ _ (Nat.le_refl _) (by omega) hy ?_
        rw[show a+(m - a)=m by omega];exact hm
      · rw[hRk.out j (by omega)] at hq
        rcases Nat.lt_or_ge i (a+k) with hi | hi
        · obtain⟨m,m1,m2,hm⟩:=hRk.get q1 hi hp
          exact h4 m j p q m1 (by omega) hj q4 hm hq
        · rw[hRk.out i (by omega)] at hp
          exact h4 i j p q q1 q2 hj q4 hp hq
end Go.Abs
