/-
  Sorting,the plain law:a stable sort by insertions and merges in place yields the same elements in order (no program is in sight).
-/
import Derived.Test.YtiohnbmhmhljbaaGreatDoorM4
namespace Go.Abs
open Go
set_option maxRecDepth 8000
noncomputable def Zbp {α:Type} (v0:List α) (v1:Int) (v2:Int) (g3:α→α→Option Int):Option (List α) :=
 seqK (loopW (σ:=Int × (List α)) (τ:=(List α)) (fun (n47,l48)=>if (decide (n47<v2))=true then (seqK (loopW (σ:=Int × (List α)) (τ:=(List α)) (fun (n111,l112)=>Option.bind (gAnd (decide (n111>v1)) (Option.bind (idx l112 n111) fun x129=>Option.bind (idx l112 (w64 (n111 - 1))) fun x131=>Option.bind (g3 x129 x131) fun y133=>some (decide (y133<0)))) fun b135=>if b135=true then (Option.bind (idx l112 (w64 (n111 - 1))) fun x144=>Option.bind (idx l112 n111) fun x146=>Option.bind (idx (l112.set n111.toNat x144) (w64 (n111 - 1))) fun x148=>some (.next (w64 (n111 - 1),((l112.set n111.toNat x144).set ((w64 (n111 - 1)).toNat) x146)))) else (some (.brk l112))) (n47,l48)) fun l127=>some (.next (w64 (n47+1),l127))) else (some (.brk l48))) (w64 (v1+1),v0)) fun l95=>some l95
noncomputable def ZbI {α:Type} (v0:List α) (v1:Int) (v2:Int) (v3:Int) (g4:α→α→Option Int):Option (List α) :=
 seqK (loopW (σ:=Int × (List α)) (τ:=(List α)) (fun (n7,l8)=>if (decide (n7<v3))=true then (Option.bind (idx l8 (w64 (v2+n7))) fun x17=>Option.bind (idx l8 (w64 (v1+n7))) fun x19=>Option.bind (idx (l8.set ((w64 (v1+n7)).toNat) x17) (w64 (v2+n7))) fun x21=>some (.next (w64 (n7+1),((l8.set ((w64 (v1+n7)).toNat) x17).set ((w64 (v2+n7)).toNat) x19)))) else (some (.brk l8))) (0,v0)) fun l15=>some l15
noncomputable def Zcs {α:Type} (v0:List α) (v1:Int) (v2:Int) (v3:Int) (g4:α→α→Option Int):Option (List α) :=
 seqK (loopW (σ:=Int × Int × (List α)) (τ:=Int × (List α)) (fun (n7,n8,l9)=>if (n7 != n8)=true then (if (decide (n7>n8))=true then (Option.bind (ZbI l9 (w64 (v2 - n7)) v2 n8 g4) fun l19=>Option.bind (chk (l19.length == l9.length)) fun _=>some (.next (w64 (n7 - n8),n8,l19))) else (Option.bind (ZbI l9 (w64 (v2 - n7)) (w64 ((w64 (v2+n8)) - n7)) n7 g4) fun l22=>Option.bind (chk (l22.length == l9.length)) fun _=>some (.next (n7,w64 (n8 - n7),l22)))) else (some (.brk (n7,l9)))) (w64 (v2 - v1),w64 (v3 - v2),v0)) fun (n16,l17)=>Option.bind (ZbI l17 (w64 (v2 - n16)) v2 n16 g4) fun l25=>Option.bind (chk (l25.length == l17.length)) fun _=>some l25
noncomputable def g_symA {α:Type} (v0:List α) (v1 v2 v3:Int) (g4:α→α→Option Int):Option (List α) :=
 seqK (loopW (σ:=Int × Int) (τ:=Int) (fun (n8,n9)=>if (decide (n8<n9))=true then (Option.bind (idx v0 (w64 (((IntKind.u64.wrap) (w64 (n8+n9))).fdiv 2))) fun x20=>Option.bind (idx v0 v1) fun x22=>Option.bind (g4 x20 x22) fun y24=>if (decide (y24<0))=true then (some (.next (w64 ((w64 (((IntKind.u64.wrap) (w64 (n8+n9))).fdiv 2))+1),n9))) else (some (.next (n8,w64 (((IntKind.u64.wrap) (w64 (n8+n9))).fdiv 2))))) else (some (.brk n8))) (v2,v3)) fun n17=>seqK (loopW (σ:=Int × (List α)) (τ:=(List α)) (fun (n32,l33)=>if (decide (n32<w64 (n17 - 1)))=true then (Option.bind (idx l33 (w64 (n32+1))) fun x42=>Option.bind (idx l33 n32) fun x44=>Option.bind (idx (l33.set n32.toNat x42) (w64 (n32+1))) fun x46=>some (.next (w64 (n32+1),((l33.set n32.toNat x42).set ((w64 (n32+1)).toNat) x44)))) else (some (.brk l33))) (v1,v0)) fun l40=>some l40
noncomputable def g_symB {α:Type} (v0:List α) (v1 v2 v3:Int) (g4:α→α→Option Int):Option (List α) :=
 seqK (loopW (σ:=Int × Int) (τ:=Int) (fun (n55,n56)=>if (decide (n55<n56))=true then (Option.bind (idx v0 v2) fun x67=>Option.bind (idx v0 (w64 (((IntKind.u64.wrap) (w64 (n55+n56))).fdiv 2))) fun x69=>Option.bind (g4 x67 x69) fun y71=>if (!(decide (y71<0)))=true then (some (.next (w64 ((w64 (((IntKind.u64.wrap) (w64 (n55+n56))).fdiv 2))+1),n56))) else (some (.next (n55,w64 (((IntKind.u64.wrap) (w64 (n55+n56))).fdiv 2))))) else (some (.brk n55))) (v1,v2)) fun n64=>seqK (loopW (σ:=Int × (List α)) (τ:=(List α)) (fun (n79,l80)=>if (decide (n79>n64))=true then (Option.bind (idx l80 (w64 (n79 - 1))) fun x89=>Option.bind (idx l80 n79) fun x91=>Option.bind (idx (l80.set n79.toNat x89) (w64 (n79 - 1))) fun x93=>some (.next (w64 (n79 - 1),((l80.set n79.toNat x89).set ((w64 (n79 - 1)).toNat) x91)))) else (some (.brk l80))) (v2,v0)) fun l87=>some l87
noncomputable def g_symC {α:Type} (rec:List α→Int→Int→Int→(α→α→Option Int)→Option (List α)) (v0:List α) (v1 v2 v3:Int) (g4:α→α→Option Int):Option (List α) :=
 seqK (τ:=Int × Int) (if (decide (v2>w64 (((IntKind.u64.wrap) (w64 (v1+v3))).fdiv 2)))=true then (some (.inl (w64 ((w64 ((w64 (((IntKind.u64.wrap) (w64 (v1+v3))).fdiv 2))+v2)) - v3),w64 (((IntKind.u64.wrap) (w64 (v1+v3))).fdiv 2)))) else (some (.inl (v1,v2)))) fun (n96,n97)=>seqK (loopW (σ:=Int × Int) (τ:=Int) (fun (n106,n107)=>if (decide (n106<n107))=true then (Option.bind (idx v0 (w64 ((w64 ((w64 ((w64 (((IntKind.u64.wrap) (w64 (v1+v3))).fdiv 2))+v2)) - 1)) - (w64 (((IntKind.u64.wrap) (w64 (n106+n107))).fdiv 2))))) fun x118=>Option.bind (idx v0 (w64 (((IntKind.u64.wrap) (w64 (n106+n107))).fdiv 2))) fun x120=>Option.bind (g4 x118 x120) fun y122=>if (!(decide (y122<0)))=true then (some (.next (w64 ((w64 (((IntKind.u64.wrap) (w64 (n106+n107))).fdiv 2))+1),n107))) else (some (.next (n106,w64 (((IntKind.u64.wrap) (w64 (n106+n107))).fdiv 2))))) else (some (.brk n106))) (n96,n97)) fun n115=>seqK (τ:=(List α)) (if ((decide (n115<v2)) && (decide (v2<w64 ((w64 ((w64 (((IntKind.u64.wrap) (w64 (v1+v3))).fdiv 2))+v2)) - n115))))=true then (Option.bind (Zcs v0 n115 v2 (w64 ((w64 ((w64 (((IntKind.u64.wrap) (w64 (v1+v3))).fdiv 2))+v2)) - n115)) g4) fun l130=>Option.bind (chk (l130.length == v0.length)) fun _=>some (.inl l130)) else (some (.inl v0))) fun l127=>seqK (τ:=(List α)) (if ((decide (v1<n115)) && (decide (n115<w64 (((IntKind.u64.wrap) (w64 (v1+v3))).fdiv 2))))=true then (Option.bind (rec l127 v1 n115 (w64 (((IntKind.u64.wrap) (w64 (v1+v3))).fdiv 2)) g4) fun l139=>Option.bind (chk (l139.length == l127.length)) fun _=>some (.inl l139)) else (some (.inl l127))) fun l136=>if ((decide (w64 (((IntKind.u64.wrap) (w64 (v1+v3))).fdiv 2)<w64 ((w64 ((w64 (((IntKind.u64.wrap) (w64 (v1+v3))).fdiv 2))+v2)) - n115))) && (decide (w64 ((w64 ((w64 (((IntKind.u64.wrap) (w64 (v1+v3))).fdiv 2))+v2)) - n115)<v3)))=true then (Option.bind (rec l136 (w64 (((IntKind.u64.wrap) (w64 (v1+v3))).fdiv 2)) (w64 ((w64 ((w64 (((IntKind.u64.wrap) (w64 (v1+v3))).fdiv 2))+v2)) - n115)) v3 g4) fun l143=>Option.bind (chk (l143.length == l136.length)) fun _=>some l143) else (some l136)
noncomputable def Zbh {α:Type}:Nat→(List α)→Int→Int→Int→(α→α→Option Int)→Option (List α)
 | 0,_,_,_,_,_=>none
 | fuel+1,v0,v1,v2,v3,g4=>if (w64 (v2 - v1) == 1)=true then g_symA v0 v1 v2 v3 g4 else if (w64 (v3 - v2) == 1)=true then g_symB v0 v1 v2 v3 g4 else g_symC (Zbh fuel) v0 v1 v2 v3 g4
noncomputable def Zcc {α:Type} (fuel:Nat) (v0:List α) (v1:Int) (g2:α→α→Option Int):Option (List α) :=
 seqK (loopW (σ:=Int × Int × (List α)) (τ:=Int × (List α)) (fun (n4,n5,l6)=>if (decide (n5≤v1))=true then (Option.bind (Zbp l6 n4 n5 g2) fun l13=>Option.bind (chk (l13.length == l6.length)) fun _=>some (.next (n5,w64 (n5+20),l13))) else (some (.brk (n4,l6)))) (0,20,v0)) fun (n10,l11)=>Option.bind (Zbp l11 n10 v1 g2) fun l16=>Option.bind (chk (l16.length == l11.length)) fun _=>seqK (loopW (σ:=Int × (List α)) (τ:=(List α)) (fun (n37,l38)=>if (decide (n37<v1))=true then (seqK (loopW (σ:=Int × Int × (List α)) (τ:=Int × (List α)) (fun (n62,n63,l64)=>if (decide (n63≤v1))=true then (Option.bind (Zbh fuel l64 n62 (w64 (n62+n37)) n63 g2) fun l71=>Option.bind (chk (l71.length == l64.length)) fun _=>some (.next (n63,w64 (n63+(w64 (2*n37))),l71))) else (some (.brk (n62,l64)))) (0,w64 (2*n37),l38)) fun (n68,l69)=>if (decide (w64 (n68+n37)<v1))=true then (Option.bind (Zbh fuel l69 n68 (w64 (n68+n37)) v1 g2) fun l74=>Option.bind (chk (l74.length == l69.length)) fun _=>some (.next (w64 (n37*2),l74))) else (some (.next (w64 (n37*2),l69)))) else (some (.brk l38))) (20,l16)) fun l57=>some l57
noncomputable def Zce {α:Type} (fuel:Nat) (v0:List α) (g1:α→α→Option Int):Option (List α) :=
 Option.bind (Zcc fuel v0 ((v0.length:Nat):Int) g1) fun l1=>Option.bind (chk (l1.length == v0.length)) fun _=>some l1
structure Cmp3 {α:Type} (c:α→α→Int):Prop where
 asym:∀x y,c x y<0→¬c y x<0
 trans:∀x y z,¬c y x<0→¬c z y<0→¬c z x<0
def Srt {α:Type} (c:α→α→Int) (d:List α) (a b:Nat):Prop:=∀i j x y,a≤i→i<j→j<b→d[i]? =some x→d[j]? =some y→¬c y x<0
theorem Srt.mono {α:Type} {c:α→α→Int} {d:List α} {a b a' b':Nat} (h:Srt c d a b) (ha:a≤a') (hb:b'≤b):Srt c d a' b':=fun i j x y h1 h2 h3=>h i j x y (by omega) h2 (by omega)
theorem Srt.out {α:Type} {c:α→α→Int} {d e:List α} {a b:Nat} (h:Srt c d a b) (he:∀i,a≤i→i<b→e[i]? =d[i]?):Srt c e a b:=fun i j x y h1 h2 h3 h4 h5=>h i j x y h1 h2 h3 (by rw[←he i h1 (by omega)];exact h4) (by rw[←he j (by omega) h3];exact h5)
theorem half_w (i j:Nat) (h:i+j≤top):w64 ((IntKind.u64.wrap (w64 ((i:Int)+(j:Int)))).fdiv 2)=(((i+j) / 2:Nat):Int):=by
 unfold top at h
 have h1:w64 ((i:Int)+(j:Int))=((i+j:Nat):Int):=by rw[ZcW (by omega) (by omega)];omega
 have h2:IntKind.u64.wrap ((i+j:Nat):Int)=((i+j:Nat):Int):=by
  simp[IntKind.wrap,IntKind.bits,IntKind.signed]
  omega
 rw[h1,h2,show (2:Int)=((2:Nat):Int) from rfl,Int.fdiv_eq_ediv_of_nonneg _ (by omega),←Int.natCast_ediv,ZcW (by omega) (by omega)]
theorem ZaF {α:Type} {l:List α} {i:Nat} {x:α} (h:l[i]? =some x):idx l (i:Int)=some x:=by rw[ZfN];exact h
theorem ZaE {α:Type} {l:List α} {i:Nat} (h:i<l.length):∃x,l[i]? =some x:=⟨l[i],List.getElem?_eq_getElem h⟩
theorem pred_w {j:Nat} (h0:0<j) (h:j≤top):w64 ((j:Int) - 1)=((j - 1:Nat):Int):=by
 unfold top at h
 rw[ZcW (by omega) (by omega)];omega
theorem Zbq {j:Nat} (h:j<top):w64 ((j:Int)+1)=((j+1:Nat):Int):=by
 unfold top at h
 rw[ZcW (by omega) (by omega)];omega
theorem ins_ok {α:Type} {c:α→α→Int} {g:α→α→Option Int} (hg:∀x y,g x y=some (c x y)) (hc:Cmp3 c) {a b:Nat} {d:List α} (ha:a≤d.length) (hb:b≤d.length) (hd:d.length<top) :
  ∃r,Zbp d a b g=some r∧RP a b d r∧Srt c r a b:=by
 unfold Zbp
 by_cases hab:b≤a+1
 ·rw[Zd9]
  dsimp only
  rw[if_neg (by rw[Zbq (by omega)];simp;omega)]
  exact⟨d,rfl,RP.refl _ _ _,fun i j x y h1 h2 h3=>by omega⟩
 refine ZaL (B:=fun l=>RP a b d l∧Srt c l a b) (R:=fun _=>False) (ZaZ (fun s=>∃i:Nat,s.1=(i:Int)∧a<i∧i≤b∧RP a b d s.2∧Srt c s.2 a i) (fun s=>b - s.1.toNat) ?_ _ ⟨a+1,by rw[Zbq (by omega)],by omega,by omega,RP.refl _ _ _,fun i j x y h1 h2 h3=>by omega⟩) (fun l h=>⟨l,rfl,h⟩) (fun _ h=>h.elim)
 rintro⟨n,l⟩ ⟨i,rfl,h1,h2,h3,h4⟩
 dsimp only at h3 h4 ⊢
 have hlen:=h3.len
 by_cases hib:i<b
 ·rw[if_pos (by simp;omega)]
  refine ZaL (B:=fun e=>RP a b l e∧Srt c e a (i+1)) (R:=fun _=>False) (ZaZ (fun s=>∃j:Nat,s.1=(j:Int)∧a≤j∧j≤i∧RP a b l s.2∧∀p q x y,a≤p→p<q→q≤i→q≠j→s.2[p]? =some x→s.2[q]? =some y→¬c y x<0) (fun s=>s.1.toNat) ?_ _ ⟨i,rfl,by omega,Nat.le_refl _,RP.refl _ _ _,fun p q x y q1 q2 q3 q4=>h4 p q x y q1 q2 (by omega)⟩)
   (fun e he=>⟨_,rfl,⟨i+1,Zbq (by omega),by omega,by omega,h3.trans he.1,he.2⟩,by rw[Zbq (by omega)];omega⟩) (fun _ h=>h.elim)
  rintro⟨n,e⟩ ⟨j,rfl,k1,k2,k3,k4⟩
  dsimp only at k3 k4 ⊢
  have hlen2:=k3.len
  by_cases hj:j=a
  ·subst hj
   simp only[gAnd,show decide ((j:Int)>(j:Int))=false by simp,Bool.false_eq_true,if_false,Option.bind_some]
   exact⟨_,rfl,k3,fun p q x y q1 q2 q3=>k4 p q x y q1 q2 (by omega) (by omega)⟩
  obtain⟨x,hx⟩:=ZaE (l:=e) (i:=j) (by omega)
  obtain⟨y,hy⟩:=ZaE (l:=e) (i:=j - 1) (by omega)
  simp only[gAnd,show decide ((j:Int)>(a:Int))=true by simp;omega,if_true,pred_w (j:=j) (by omega) (by omega),ZaF hx,ZaF hy,Option.bind_some,hg]
  by_cases hlt:c x y<0
  ·rw[if_pos (by simpa using hlt)]
   have hy':(e.set j y)[j - 1]? =some y:=by
    rw[List.getElem?_set_ne (by omega)];exact hy
   simp only[Int.toNat_natCast,ZaF hy',Option.bind_some]
   have hsw:=Zcz hx hy
   refine⟨_,rfl,⟨j - 1,rfl,by omega,by omega,k3.trans (RP.swap hx hy (by omega) (by omega)),fun p q u v q1 q2 q3 q4 hu hv=>?_⟩,by simp only[Int.toNat_natCast];omega⟩
   dsimp only at hu hv
   rw[hsw] at hu hv
   by_cases e1:q=j
   ·subst e1
    rw[sw_l] at hv
    rw[hy] at hv;cases hv
    by_cases e2:p=q - 1
    ·subst e2
     rw[sw_r] at hu
     rw[hx] at hu;cases hu
     exact hc.asym _ _ hlt
    ·rw[sw_o (by omega) e2] at hu
     exact k4 p (q - 1) u y q1 (by omega) (by omega) (by omega) hu hy
   ·rw[sw_o e1 q4] at hv
    by_cases e2:p=j - 1
    ·subst e2
     rw[sw_r] at hu
     exact k4 j q u v (by omega) (by omega) q3 e1 hu hv
    ·by_cases e3:p=j
     ·subst e3
      rw[sw_l] at hu
      exact k4 (p - 1) q u v (by omega) (by omega) q3 e1 hu hv
     ·rw[sw_o e3 e2] at hu
      exact k4 p q u v q1 q2 q3 e1 hu hv
  ·rw[if_neg (by simpa using hlt)]
   refine⟨_,rfl,k3,fun p q u v q1 q2 q3 hu hv=>?_⟩
   by_cases e1:q=j
   ·subst e1
    rw[hx] at hv;cases hv
    by_cases e2:p=q - 1
    ·subst e2
     rw[hy] at hu;cases hu
     exact hlt
    ·exact hc.trans _ _ _ (k4 p (q - 1) u y q1 (by omega) (by omega) (by omega) hu hy) hlt
   ·exact k4 p q u v q1 q2 (by omega) e1 hu hv
 ·rw[if_neg (by simp;omega)]
  exact⟨_,rfl,h3,h4.mono (Nat.le_refl _) (by omega)⟩
def sx (a b n k:Nat):Nat:=if a≤k∧k<a+n then k - a+b else if b≤k∧k<b+n then k - b+a else k
def rx (a m b k:Nat):Nat:=if k<a then k else if k<a+(b - m) then k+(m - a) else if k<b then k - (b - m) else k
theorem ZbD {z:Int} {n:Nat} (h:z=(n:Int)) (hn:n≤top):w64 z=(n:Int):=by
 unfold top at hn
 rw[ZcW (by omega) (by omega),h]
theorem swr_ok {α:Type} {g:α→α→Option Int} {a b n:Nat} {d:List α} (hab:a+n≤b) (hb:b+n≤d.length) (hd:d.length≤lim) :
    ∃r,ZbI d a b n g=some r∧d.Perm r∧∀k,r[k]? =d[sx a b n k]? :=by
  unfold ZbI
  have hd':d.length≤140737488355328:=hd
  refine ZaL (B:=fun l=>d.Perm l∧∀k,l[k]? =d[sx a b n k]?) (R:=fun _=>False) (ZaZ (fun s=>∃i:Nat,s.1=(i:Int)∧i≤n∧d.Perm s.2∧∀k,s.2[k]? =d[sx a b i k]?) (fun s=>n - s.1.toNat) ?_ _ ⟨0,rfl,by omega,.refl _,fun k=>by
    congr 1;unfold sx;split
    · omega
    · split<;>omega⟩) (fun l h=>⟨l,rfl,h⟩) (fun _ h=>h.elim)
  rintro⟨n',l⟩ ⟨i,rfl,h1,h2,h3⟩
  dsimp only at h2 h3 ⊢
  have hlen:=h2.length_eq
  by_cases hi:i<n
  · rw[if_pos (by simp;omega)]
    obtain⟨x,hx⟩:=ZaE (l:=l) (i:=b+i) (by omega)
    obtain⟨y,hy⟩:=ZaE (l:=l) (i:=a+i) (by omega)
    have hx':(l.set (a+i) x)[b+i]? =some x:=by
      rw[List.getElem?_set_ne (by omega)];exact hx
    simp only[ZbD (n:=b+i) (z:=(b:Int)+(i:Int)) (by omega) (by unfold top;omega),ZbD (n:=a+i) (z:=(a:Int)+(i:Int)) (by omega) (by unfold top;omega),ZbD (n:=i+1) (z:=(i:Int)+1) (by omega) (by unfold top;omega),ZaF hx,ZaF hy,Option.bind_some,Int.toNat_natCast,ZaF hx']
    refine⟨_,rfl,⟨i+1,rfl,by omega,h2.trans (Zgd hy hx),fun k=>?_⟩,by simp only[Int.toNat_natCast];omega⟩
    rw[Zcz hy hx,h3]
    congr 1
    unfold sx sw
    repeat' split
    all_goals omega
  · rw[if_neg (by simp;omega)]
    obtain rfl:i=n:=by omega
    exact⟨_,rfl,h2,h3⟩
theorem rot_ok {α:Type} {g:α→α→Option Int} {a m b:Nat} {d:List α} (ham:a<m) (hmb:m<b) (hb:b≤d.length) (hd:d.length≤lim) :
    ∃r,Zcs d a m b g=some r∧d.Perm r∧∀k,r[k]? =d[rx a m b k]? :=by
  unfold Zcs
  have hd':d.length≤140737488355328:=hd
  refine ZaL (B:=fun s=>∃i:Nat,s.1=(i:Int)∧0<i∧i≤m - a∧i≤b - m∧d.Perm s.2∧∀k,d[rx a m b k]? =s.2[rx (m - i) m (m+i) k]?) (R:=fun _=>False)
    (ZaZ (fun s=>∃i j:Nat,s.1=(i:Int)∧s.2.1=(j:Int)∧0<i∧0<j∧i≤m - a∧j≤b - m∧d.Perm s.2.2∧∀k,d[rx a m b k]? =s.2.2[rx (m - i) m (m+j) k]?) (fun s=>s.1.toNat+s.2.1.toNat) ?_ _
      ⟨m - a,b - m,ZbD (by omega) (by unfold top;omega),ZbD (by omega) (by unfold top;omega),by omega,by omega,by omega,by omega,.refl _,fun k=>by rw[show m - (m - a)=a by omega,show m+(b - m)=b by omega]⟩) ?_ (fun _ h=>h.elim)
  · rintro⟨n1,n2,l⟩ ⟨i,j,rfl,rfl,h1,h2,h3,h4,h5,h6⟩
    dsimp only at h5 h6 ⊢
    have hlen:=h5.length_eq
    by_cases hij:i=j
    · subst hij
      rw[if_neg (by simp)]
      exact⟨_,rfl,i,rfl,h1,h3,h4,h5,h6⟩
    rw[if_pos (by simp;omega)]
    by_cases hgt:j<i
    · rw[if_pos (by simp;omega)]
      obtain⟨r,r1,r2,r3⟩:=swr_ok (g:=g) (a:=m - i) (b:=m) (n:=j) (d:=l) (by omega) (by omega) (by rw[←hlen];exact hd)
      simp only[ZbD (n:=m - i) (z:=(m:Int) - (i:Int)) (by omega) (by unfold top;omega),ZbD (n:=i - j) (z:=(i:Int) - (j:Int)) (by omega) (by unfold top;omega),r1,Option.bind_some,ZbB r2.length_eq.symm]
      refine⟨_,rfl,⟨i - j,j,rfl,rfl,by omega,by omega,by omega,by omega,h5.trans r2,fun k=>?_⟩,by simp only[Int.toNat_natCast];omega⟩
      rw[h6,r3]
      congr 1
      unfold sx rx
      repeat' split
      all_goals omega
    · rw[if_neg (by simp;omega)]
      obtain⟨r,r1,r2,r3⟩:=swr_ok (g:=g) (a:=m - i) (b:=m+j - i) (n:=i) (d:=l) (by omega) (by omega) (by rw[←hlen];exact hd)
      simp only[ZbD (n:=m - i) (z:=(m:Int) - (i:Int)) (by omega) (by unfold top;omega),ZbD (n:=m+j) (z:=(m:Int)+(j:Int)) (by omega) (by unfold top;omega),ZbD (n:=m+j - i) (z:=((m+j:Nat):Int) - (i:Int)) (by omega) (by unfold top;omega),ZbD (n:=j - i) (z:=(j:Int) - (i:Int)) (by omega) (by unfold top;omega),r1,Option.bind_some,ZbB r2.length_eq.symm]
      refine⟨_,rfl,⟨i,j - i,rfl,rfl,by omega,by omega,by omega,by omega,h5.trans r2,fun k=>?_⟩,by simp only[Int.toNat_natCast];omega⟩
      rw[h6,r3]
      congr 1
      unfold sx rx
      repeat' split
      all_goals omega
  · rintro⟨n1,l⟩ ⟨i,rfl,h1,h2,h3,h5,h6⟩
    dsimp only at h5 h6 ⊢
    have hlen:=h5.length_eq
    obtain⟨r,r1,r2,r3⟩:=swr_ok (g:=g) (a:=m - i) (b:=m) (n:=i) (d:=l) (by omega) (by omega) (by rw[←hlen];exact hd)
    simp only[ZbD (n:=m - i) (z:=(m:Int) - (i:Int)) (by omega) (by unfold top;omega),r1,Option.bind_some,ZbB r2.length_eq.symm]
    refine⟨_,rfl,h5.trans r2,fun k=>?_⟩
    rw[h6,r3]
    congr 1
    unfold sx rx
    repeat' split
    all_goals omega
theorem Cmp3.lt_le {α:Type} {c:α→α→Int} (hc:Cmp3 c) {x y z:α} (h1:c y z<0) (h2:¬c y x<0):c x z<0:=Classical.byContradiction fun h=>hc.trans z x y h h2 h1
theorem Cmp3.refl {α:Type} {c:α→α→Int} (hc:Cmp3 c) (x:α):¬c x x<0:=fun h=>hc.asym x x h h
theorem Srt.le {α:Type} {c:α→α→Int} (hc:Cmp3 c) {d:List α} {a b:Nat} (h:Srt c d a b) {i j:Nat} {x y:α} (h1:a≤i) (h2:i≤j) (h3:j<b) (hx:d[i]? =some x) (hy:d[j]? =some y):¬c y x<0:=by
 rcases Nat.lt_or_ge i j with h4 | h4
 ·exact h i j x y h1 h4 h3 hx hy
 ·obtain rfl:i=j:=by omega
  rw[hx] at hy;cases hy
  exact hc.refl _
theorem search_ok {ρ:Type} {body:Int × Int→Option (Ex (Int × Int) Int ρ)} {lo hi:Nat} (P:Nat→Prop) (hb:∀i j:Nat,lo≤i→i<j→j≤hi→∃h:Nat,i≤h∧h<j∧(body ((i:Int),(j:Int))=some (.next (((h+1:Nat):Int),(j:Int)))∧P h∨body ((i:Int),(j:Int))=some (.next ((i:Int),(h:Int)))∧¬P h))
  (he:∀i:Nat,body ((i:Int),(i:Int))=some (.brk (i:Int))) (hP:∀i j,lo≤i→i≤j→j<hi→P j→P i) (hlh:lo≤hi) :
  ∃y,loopW body ((lo:Int),(hi:Int))=some y∧Out (fun n=>∃i:Nat,n=(i:Int)∧lo≤i∧i≤hi∧(∀k,lo≤k→k<i→P k)∧∀k,i≤k→k<hi→¬P k) (fun _=>False) y:=by
 refine ZaZ (fun s=>∃i j:Nat,s.1=(i:Int)∧s.2=(j:Int)∧lo≤i∧i≤j∧j≤hi∧(∀k,lo≤k→k<i→P k)∧∀k,j≤k→k<hi→¬P k) (fun s=>s.2.toNat - s.1.toNat) ?_ _ ⟨lo,hi,rfl,rfl,Nat.le_refl _,hlh,Nat.le_refl _,fun k _ _=>by omega,fun k _ _=>by omega⟩
 rintro⟨n1,n2⟩ ⟨i,j,rfl,rfl,h1,h2,h3,h4,h5⟩
 rcases Nat.lt_or_ge i j with hij | hij
 ·obtain⟨h,q1,q2,q3 | q3⟩:=hb i j h1 hij h3
  ·exact⟨_,q3.1,⟨h+1,j,rfl,rfl,by omega,by omega,h3,fun k k1 k2=>hP k h k1 (by omega) (by omega) q3.2,h5⟩,by simp only[Int.toNat_natCast];omega⟩
  ·exact⟨_,q3.1,⟨i,h,rfl,rfl,h1,q1,by omega,h4,fun k k1 k2 hp=>q3.2 (hP h k (by omega) k1 k2 hp)⟩,by simp only[Int.toNat_natCast];omega⟩
 ·obtain rfl:i=j:=by omega
  exact⟨_,he i,i,rfl,h1,h3,h4,h5⟩
theorem half_n (i j:Nat) (hi:i+j≤1000000000000000):w64 ((IntKind.u64.wrap (w64 ((i:Int)+(j:Int)))).fdiv 2)=(((i+j) / 2:Nat):Int):=half_w i j (by unfold top;omega)
theorem rx_perm {α:Type} {a m b:Nat} {d e:List α} (hp:d.Perm e) (hr:∀k,e[k]? =d[rx a m b k]?) (ham:a≤m) (hmb:m≤b) {a' b':Nat} (ha:a'≤a) (hb:b≤b'):RP a' b' d e :=
 ⟨hp,fun i hi=>by rw[hr];congr 1;unfold rx;(repeat' split)<;>omega⟩
theorem symA_ok {α:Type} {c:α→α→Int} {g:α→α→Option Int} (hg:∀x y,g x y=some (c x y)) (hc:Cmp3 c) {a m b:Nat} {d:List α} (ham:a<m) (hmb:m<b) (hb:b≤d.length) (hd:d.length≤lim) (hs1:Srt c d a m) (hs2:Srt c d m b) (c1:m - a=1) :
  ∃r,g_symA d a m b g=some r∧RP a b d r∧Srt c r a b:=by
 have hd':d.length≤140737488355328:=hd
 unfold g_symA
 obtain⟨x0,hx0⟩:=ZaE (l:=d) (i:=a) (by omega)
 refine ZaL (B:=fun n=>∃i:Nat,n=(i:Int)∧m≤i∧i≤b∧(∀k,m≤k→k<i→∀x,d[k]? =some x→c x x0<0)∧∀k,i≤k→k<b→¬ ∀x,d[k]? =some x→c x x0<0) (R:=fun _=>False)
  (search_ok (fun k=>∀x,d[k]? =some x→c x x0<0) ?_ ?_ ?_ (by omega)) ?_ (fun _ h=>h.elim)
 ·intro i j h1 h2 h3
  refine⟨(i+j) / 2,by omega,by omega,?_⟩
  obtain⟨x,hx⟩:=ZaE (l:=d) (i:=(i+j) / 2) (by omega)
  dsimp only
  rw[if_pos (by simp;omega)]
  simp only[half_n i j (by omega),ZaF hx,ZaF hx0,Option.bind_some,hg]
  by_cases hlt:c x x0<0
  ·left
   rw[if_pos (by simpa using hlt),Zbq (by unfold top;omega)]
   exact⟨rfl,fun y hy=>by rw[hx] at hy;cases hy;exact hlt⟩
  ·right
   rw[if_neg (by simpa using hlt)]
   exact⟨rfl,fun h=>hlt (h x hx)⟩
 ·intro i
  dsimp only
  rw[if_neg (by simp)]
 ·intro i j h1 h2 h3 h4 x hx
  obtain⟨y,hy⟩:=ZaE (l:=d) (i:=j) (by omega)
  exact hc.lt_le (h4 y hy) (hs2.le hc h1 h2 h3 hx hy)
 ·rintro n ⟨i,rfl,h1,h2,h3,h4⟩
  rw[pred_w (j:=i) (by omega) (by unfold top;omega)]
  refine ZaL (B:=fun l=>d.Perm l∧∀k,l[k]? =d[rx a m i k]?) (R:=fun _=>False) (ZaZ (fun s=>∃n:Nat,s.1=(n:Int)∧a≤n∧n≤i - 1∧d.Perm s.2∧∀k,s.2[k]? =d[rx a m (n+1) k]?) (fun s=>i - s.1.toNat) ?_ _ ⟨a,rfl,Nat.le_refl _,by omega,.refl _,fun k=>by congr 1;unfold rx;(repeat' split)<;>omega⟩) ?_ (fun _ h=>h.elim)
  ·rintro⟨n',l⟩ ⟨n,rfl,k1,k2,k3,k4⟩
   dsimp only at k3 k4 ⊢
   have hlen:=k3.length_eq
   by_cases hn:n<i - 1
   ·rw[if_pos (by simp;omega)]
    obtain⟨x,hx⟩:=ZaE (l:=l) (i:=n+1) (by omega)
    obtain⟨y,hy⟩:=ZaE (l:=l) (i:=n) (by omega)
    have hx':(l.set n x)[n+1]? =some x:=by
     rw[List.getElem?_set_ne (by omega)];exact hx
    simp only[Zbq (j:=n) (by unfold top;omega),ZaF hx,ZaF hy,Option.bind_some,Int.toNat_natCast,ZaF hx']
    refine⟨_,rfl,⟨n+1,rfl,by omega,by omega,k3.trans (Zgd hy hx),fun k=>?_⟩,by simp only[Int.toNat_natCast];omega⟩
    rw[Zcz hy hx,k4]
    congr 1
    unfold rx sw
    repeat' split
    all_goals omega
   ·rw[if_neg (by simp;omega)]
    obtain rfl:n=i - 1:=by omega
    rw[show i - 1+1=i by omega] at k4
    exact⟨_,rfl,k3,k4⟩
  ·rintro l ⟨k1,k2⟩
   refine⟨l,rfl,rx_perm k1 k2 (by omega) (by omega) (Nat.le_refl _) h2,fun p q x y q1 q2 q3 hx hy=>?_⟩
   rw[k2] at hx hy
   have r1:∀p,a≤p→p<i - 1→rx a m i p=p+1:=fun p _ _=>by unfold rx;(repeat' split)<;>omega
   have r2:rx a m i (i - 1)=a:=by unfold rx;(repeat' split)<;>omega
   have r3:∀p,i≤p→rx a m i p=p:=fun p _=>by unfold rx;(repeat' split)<;>omega
   rcases Nat.lt_trichotomy q (i - 1) with e | e | e
   ·rw[r1 q (by omega) e] at hy
    rw[r1 p q1 (by omega)] at hx
    exact hs2 _ _ x y (by omega) (by omega) (by omega) hx hy
   ·subst e
    rw[r2,hx0] at hy;cases hy
    rw[r1 p q1 q2] at hx
    exact hc.asym _ _ (h3 _ (by omega) (by omega) x hx)
   ·rw[r3 q (by omega)] at hy
    rcases Nat.lt_trichotomy p (i - 1) with e' | e' | e'
    ·rw[r1 p q1 e'] at hx
     exact hs2 _ _ x y (by omega) (by omega) q3 hx hy
    ·subst e'
     rw[r2,hx0] at hx;cases hx
     intro hlt
     exact h4 q (by omega) q3 (fun z hz=>by rw[hy] at hz;cases hz;exact hlt)
    ·rw[r3 p (by omega)] at hx
     exact hs2 _ _ x y (by omega) q2 q3 hx hy
theorem symB_ok {α:Type} {c:α→α→Int} {g:α→α→Option Int} (hg:∀x y,g x y=some (c x y)) (hc:Cmp3 c) {a m b:Nat} {d:List α} (ham:a<m) (hmb:m<b) (hb:b≤d.length) (hd:d.length≤lim) (hs1:Srt c d a m) (hs2:Srt c d m b) (c2:b - m=1) :
  ∃r,g_symB d a m b g=some r∧RP a b d r∧Srt c r a b:=by
 have hd':d.length≤140737488355328:=hd
 unfold g_symB
 obtain⟨xm,hxm⟩:=ZaE (l:=d) (i:=m) (by omega)
 refine ZaL (B:=fun n=>∃i:Nat,n=(i:Int)∧a≤i∧i≤m∧(∀k,a≤k→k<i→∀x,d[k]? =some x→¬c xm x<0)∧∀k,i≤k→k<m→¬ ∀x,d[k]? =some x→¬c xm x<0) (R:=fun _=>False)
  (search_ok (fun k=>∀x,d[k]? =some x→¬c xm x<0) ?_ ?_ ?_ (by omega)) ?_ (fun _ h=>h.elim)
 ·intro i j h1 h2 h3
  refine⟨(i+j) / 2,by omega,by omega,?_⟩
  obtain⟨x,hx⟩:=ZaE (l:=d) (i:=(i+j) / 2) (by omega)
  dsimp only
  rw[if_pos (by simp;omega)]
  simp only[half_n i j (by omega),ZaF hx,ZaF hxm,Option.bind_some,hg]
  by_cases hlt:c xm x<0
  ·right
   rw[if_neg (by simpa using hlt)]
   exact⟨rfl,fun h=>h x hx hlt⟩
  ·left
   rw[if_pos (by simpa using hlt),Zbq (by unfold top;omega)]
   exact⟨rfl,fun y hy=>by rw[hx] at hy;cases hy;exact hlt⟩
 ·intro i
  dsimp only
  rw[if_neg (by simp)]
 ·intro i j h1 h2 h3 h4 x hx
  obtain⟨y,hy⟩:=ZaE (l:=d) (i:=j) (by omega)
  exact hc.trans _ _ _ (hs1.le hc h1 h2 h3 hx hy) (h4 y hy)
 ·rintro n ⟨i,rfl,h1,h2,h3,h4⟩
  refine ZaL (B:=fun l=>d.Perm l∧∀k,l[k]? =d[rx i m b k]?) (R:=fun _=>False) (ZaZ (fun s=>∃n:Nat,s.1=(n:Int)∧i≤n∧n≤m∧d.Perm s.2∧∀k,s.2[k]? =d[rx n m b k]?) (fun s=>s.1.toNat) ?_ _ ⟨m,rfl,h2,Nat.le_refl _,.refl _,fun k=>by congr 1;unfold rx;(repeat' split)<;>omega⟩) ?_ (fun _ h=>h.elim)
  ·rintro⟨n',l⟩ ⟨n,rfl,k1,k2,k3,k4⟩
   dsimp only at k3 k4 ⊢
   have hlen:=k3.length_eq
   by_cases hn:i<n
   ·rw[if_pos (by simp;omega)]
    obtain⟨x,hx⟩:=ZaE (l:=l) (i:=n - 1) (by omega)
    obtain⟨y,hy⟩:=ZaE (l:=l) (i:=n) (by omega)
    have hx':(l.set n x)[n - 1]? =some x:=by
     rw[List.getElem?_set_ne (by omega)];exact hx
    simp only[pred_w (j:=n) (by omega) (by unfold top;omega),ZaF hx,ZaF hy,Option.bind_some,Int.toNat_natCast,ZaF hx']
    refine⟨_,rfl,⟨n - 1,rfl,by omega,by omega,k3.trans (Zgd hy hx),fun k=>?_⟩,by simp only[Int.toNat_natCast];omega⟩
    rw[Zcz hy hx,k4]
    congr 1
    unfold rx sw
    repeat' split
    all_goals omega
   ·rw[if_neg (by simp;omega)]
    obtain rfl:n=i:=by omega
    exact⟨_,rfl,k3,k4⟩
  ·rintro l ⟨k1,k2⟩
   refine⟨l,rfl,rx_perm k1 k2 (by omega) (by omega) h1 (Nat.le_refl _),fun p q x y q1 q2 q3 hx hy=>?_⟩
   rw[k2] at hx hy
   have r1:∀p,p<i→rx i m b p=p:=fun p _=>by unfold rx;(repeat' split)<;>omega
   have r2:rx i m b i=m:=by unfold rx;(repeat' split)<;>omega
   have r3:∀p,i<p→p<b→rx i m b p=p - 1:=fun p _ _=>by unfold rx;(repeat' split)<;>omega
   rcases Nat.lt_trichotomy q i with e | e | e
   ·rw[r1 q e] at hy
    rw[r1 p (by omega)] at hx
    exact hs1 _ _ x y q1 q2 (by omega) hx hy
   ·subst e
    rw[r2,hxm] at hy;cases hy
    rw[r1 p q2] at hx
    exact h3 p q1 q2 x hx
   ·rw[r3 q e q3] at hy
    rcases Nat.lt_trichotomy p i with e' | e' | e'
    ·rw[r1 p e'] at hx
     exact hs1 _ _ x y q1 (by omega) (by omega) hx hy
    ·subst e'
     rw[r2,hxm] at hx;cases hx
     refine fun hlt=>h4 (q - 1) (by omega) (by omega) (fun z hz=>?_)
     rw[hy] at hz;cases hz
     exact hc.asym _ _ hlt
    ·rw[r3 p e' (by omega)] at hx
     exact hs1 _ _ x y (by omega) (by omega) (by omega) hx hy
theorem symC_ok {α:Type} {c:α→α→Int} {g:α→α→Option Int} (hg:∀x y,g x y=some (c x y)) (hc:Cmp3 c) {a m b:Nat} {d:List α} (ham:a<m) (hmb:m<b) (hb:b≤d.length) (hd:d.length≤lim) (hs1:Srt c d a m) (hs2:Srt c d m b) (c1:¬m - a=1) (c2:¬b - m=1) {fuel:Nat} (hf:b - a≤fuel+1) {rec:List α→Int→Int→Int→(α→α→Option Int)→Option (List α)}
    (ih:∀ {a m b:Nat} {d:List α} (_:b - a≤fuel) (_:a<m) (_:m<b) (_:b≤d.length) (_:d.length≤lim) (_:Srt c d a m) (_:Srt c d m b),∃r,rec d a m b g=some r∧RP a b d r∧Srt c r a b) :
    ∃r,g_symC rec d a m b g=some r∧RP a b d r∧Srt c r a b:=by
  have hd':d.length≤140737488355328:=hd
  unfold g_symC
  obtain⟨mid,hmid⟩:∃mid,mid=(a+b) / 2:=⟨_,rfl⟩
  simp only[half_n a b (by omega),←hmid,ZbD (n:=mid+m) (z:=(mid:Int)+(m:Int)) (by omega) (by unfold top;omega),ZbD (n:=mid+m - 1) (z:=((mid+m:Nat):Int) - 1) (by omega) (by unfold top;omega)]
  obtain⟨lo,hi,e,hF⟩:∃lo hi:Nat,(if (decide ((m:Int)>(mid:Int)))=true then (some (.inl (w64 (((mid+m:Nat):Int) - (b:Int)),(mid:Int)))) else (some (.inl ((a:Int),(m:Int)))))=some (Sum.inl (((lo:Nat):Int),((hi:Nat):Int)):Sum (Int × Int) (List α))∧((mid<m∧lo=mid+m - b∧hi=mid)∨(m≤mid∧lo=a∧hi=m)):=by
    by_cases hm:mid<m
    · rw[if_pos (by simp;omega)]
      exact⟨mid+m - b,mid,by rw[ZbD (n:=mid+m - b) (by omega) (by unfold top;omega)],.inl ⟨hm,rfl,rfl⟩⟩
    · rw[if_neg (by simp;omega)]
      exact⟨a,m,rfl,.inr ⟨by omega,rfl,rfl⟩⟩
  rw[e,Zba]
  dsimp only
  refine ZaL (B:=fun n=>∃s:Nat,n=(s:Int)∧lo≤s∧s≤hi∧(∀k,lo≤k→k<s→∀x y,d[k]? =some x→d[mid+m - 1 - k]? =some y→¬c y x<0)∧∀k,s≤k→k<hi→¬ ∀x y,d[k]? =some x→d[mid+m - 1 - k]? =some y→¬c y x<0) (R:=fun _=>False)
      (search_ok (fun k=>∀x y,d[k]? =some x→d[mid+m - 1 - k]? =some y→¬c y x<0) ?_ ?_ ?_ (by omega)) ?_ (fun _ h=>h.elim)
  · intro i j h1 h2 h3
    obtain⟨h,hh⟩:∃h,h=(i+j) / 2:=⟨_,rfl⟩
    refine⟨h,by omega,by omega,?_⟩
    obtain⟨x,hx⟩:=ZaE (l:=d) (i:=h) (by omega)
    obtain⟨y,hy⟩:=ZaE (l:=d) (i:=mid+m - 1 - h) (by omega)
    dsimp only
    rw[if_pos (by simp;omega)]
    simp only[half_n i j (by omega),←hh,ZbD (n:=mid+m - 1 - h) (z:=((mid+m - 1:Nat):Int) - (h:Int)) (by omega) (by unfold top;omega),ZaF hx,ZaF hy,Option.bind_some,hg]
    by_cases hlt:c y x<0
    · right
      rw[if_neg (by simpa using hlt)]
      exact⟨rfl,fun h=>h x y hx hy hlt⟩
    · left
      rw[if_pos (by simpa using hlt),Zbq (by unfold top;omega)]
      exact⟨rfl,fun u v hu hv=>by rw[hx] at hu;cases hu;rw[hy] at hv;cases hv;exact hlt⟩
  · intro i
    dsimp only
    rw[if_neg (by simp)]
  · intro i j h1 h2 h3 h4 x y hx hy
    obtain⟨x',hx'⟩:=ZaE (l:=d) (i:=j) (by omega)
    obtain⟨y',hy'⟩:=ZaE (l:=d) (i:=mid+m - 1 - j) (by omega)
    exact hc.trans _ _ _ (hs1.le hc (by omega) h2 (by omega) hx hx') (hc.trans _ _ _ (h4 x' y' hx' hy') (hs2.le hc (by omega) (by omega) (by omega) hy' hy))
  · rintro n ⟨s,rfl,h1,h2,h3,h4⟩
    obtain⟨en,hen⟩:∃en,en=mid+m - s:=⟨_,rfl⟩
    simp only[ZbD (n:=en) (z:=((mid+m:Nat):Int) - (s:Int)) (by omega) (by unfold top;omega)]
    obtain⟨f0,e0,hp0,hr0⟩:∃e,(if ((decide ((s:Int)<(m:Int))) && (decide ((m:Int)<(en:Int))))=true then (Option.bind (Zcs d s m en g) fun l130=>Option.bind (chk (l130.length == d.length)) fun _=>some (.inl l130)) else (some (.inl d)))=some (Sum.inl e:Sum (List α) (List α))∧d.Perm e∧∀k,e[k]? =d[rx s m en k]? :=by
      by_cases hcs:s<m∧m<en
      · rw[if_pos (by simp;omega)]
        obtain⟨r,r1,r2,r3⟩:=rot_ok (g:=g) hcs.1 hcs.2 (d:=d) (by omega) hd
        simp only[r1,Option.bind_some,ZbB r2.length_eq.symm]
        exact⟨r,rfl,r2,r3⟩
      · rw[if_neg (by simp;omega)]
        exact⟨d,rfl,.refl _,fun k=>by congr 1;unfold rx;(repeat' split)<;>omega⟩
    rw[e0,Zba]
    have hRP0:RP a b d f0:=rx_perm hp0 hr0 (by omega) (by omega) (by omega) (by omega)
    have hlen0:=hp0.length_eq
    have v1:∀k,k<s→f0[k]? =d[k]? :=fun k _=>by rw[hr0];congr 1;unfold rx;(repeat' split)<;>omega
    have v2:∀k,s≤k→k<mid→f0[k]? =d[k+(m - s)]? :=fun k _ _=>by rw[hr0];congr 1;unfold rx;(repeat' split)<;>omega
    have v3:∀k,mid≤k→k<en→f0[k]? =d[k - (mid - s)]? :=fun k _ _=>by rw[hr0];congr 1;unfold rx;(repeat' split)<;>omega
    have v4:∀k,en≤k→f0[k]? =d[k]? :=fun k _=>by rw[hr0];congr 1;unfold rx;(repeat' split)<;>omega
    have L1:Srt c f0 a s:=fun p q x y q1 q2 q3 hx hy=>by
      rw[v1 p (by omega)] at hx;rw[v1 q q3] at hy
      exact hs1 p q x y q1 q2 (by omega) hx hy
    have L2:Srt c f0 s mid:=fun p q x y q1 q2 q3 hx hy=>by
      rw[v2 p q1 (by omega)] at hx;rw[v2 q (by omega) q3] at hy
      exact hs2 _ _ x y (by omega) (by omega) (by omega) hx hy
    have R1:Srt c f0 mid en:=fun p q x y q1 q2 q3 hx hy=>by
      rw[v3 p q1 (by omega)] at hx;rw[v3 q (by omega) q3] at hy
      exact hs1 _ _ x y (by omega) (by omega) (by omega) hx hy
    have R2:Srt c f0 en b:=fun p q x y q1 q2 q3 hx hy=>by
      rw[v4 p q1] at hx;rw[v4 q (by omega)] at hy
      exact hs2 p q x y (by omega) q2 q3 hx hy
    have X0:∀p q x y,a≤p→p<mid→mid≤q→q<b→f0[p]? =some x→f0[q]? =some y→¬c y x<0:=by
      intro p q x y q1 q2 q3 q4 hx hy
      rcases Nat.lt_or_ge p s with e1 | e1<;>rcases Nat.lt_or_ge q en with e2 | e2
      · rw[v1 p e1] at hx;rw[v3 q q3 e2] at hy
        exact hs1 _ _ x y q1 (by omega) (by omega) hx hy
      · rw[v1 p e1] at hx;rw[v4 q e2] at hy
        obtain⟨u,hu⟩:=ZaE (l:=d) (i:=s - 1) (by omega)
        obtain⟨v,hv⟩:=ZaE (l:=d) (i:=en) (by omega)
        have h5:=h3 (s - 1) (by omega) (by omega) u v hu (by rw[show mid+m - 1 - (s - 1)=en by omega];exact hv)
        exact hc.trans _ _ _ (hs1.le hc q1 (by omega) (by omega) hx hu) (hc.trans _ _ _ h5 (hs2.le hc (by omega) e2 q4 hv hy))
      · rw[v2 p e1 q2] at hx;rw[v3 q q3 e2] at hy
        obtain⟨u,hu⟩:=ZaE (l:=d) (i:=s) (by omega)
        obtain⟨v,hv⟩:=ZaE (l:=d) (i:=en - 1) (by omega)
        have h5:c v u<0:=Classical.byContradiction fun hn=>h4 s (Nat.le_refl _) (by omega) (fun u' v' hu' hv'=>by
          rw[hu] at hu';cases hu'
          rw[show mid+m - 1 - s=en - 1 by omega,hv] at hv';cases hv'
          exact hn)
        exact hc.trans _ _ _ (hs2.le hc (by omega) (by omega) (by omega) hx hv) (hc.trans _ _ _ (hc.asym _ _ h5) (hs1.le hc (by omega) (by omega) (by omega) hu hy))
      · rw[v2 p e1 q2] at hx;rw[v4 q e2] at hy
        exact hs2 _ _ x y (by omega) (by omega) q4 hx hy
    obtain⟨f1,e1,hRP1,hS1⟩:∃e,(if ((decide ((a:Int)<(s:Int))) && (decide ((s:Int)<(mid:Int))))=true then (Option.bind (rec f0 a s mid g) fun l139=>Option.bind (chk (l139.length == f0.length)) fun _=>some (.inl l139)) else (some (.inl f0)))=some (Sum.inl e:Sum (List α) (List α))∧RP a mid f0 e∧Srt c e a mid:=by
      by_cases hcs:a<s∧s<mid
      · rw[if_pos (by simp;omega)]
        obtain⟨r,r1,r2,r3⟩:=ih (a:=a) (m:=s) (b:=mid) (d:=f0) (by omega) hcs.1 hcs.2 (by omega) (by omega) L1 L2
        simp only[r1,Option.bind_some,ZbB r2.len]
        exact⟨r,rfl,r2,r3⟩
      · rw[if_neg (by simp;omega)]
        refine⟨f0,rfl,RP.refl _ _ _,?_⟩
        rcases Nat.lt_or_ge a s with e5 | e5
        · exact L1.mono (Nat.le_refl _) (by omega)
        · exact L2.mono (by omega) (Nat.le_refl _)
    rw[e1,Zba]
    have hlen1:=hRP1.len
    have w1:∀k,mid≤k→f1[k]? =f0[k]? :=fun k hk=>hRP1.out k (by omega)
    obtain⟨f2,e2,hRP2,hS2⟩:∃e,(if ((decide ((mid:Int)<(en:Int))) && (decide ((en:Int)<(b:Int))))=true then (Option.bind (rec f1 mid en b g) fun l143=>Option.bind (chk (l143.length == f1.length)) fun _=>some l143) else (some f1))=some e∧RP mid b f1 e∧Srt c e mid b:=by
      by_cases hcs:mid<en∧en<b
      · rw[if_pos (by simp;omega)]
        obtain⟨r,r1,r2,r3⟩:=ih (a:=mid) (m:=en) (b:=b) (d:=f1) (by omega) hcs.1 hcs.2 (by omega) (by omega) (R1.out fun i _ _=>w1 i (by omega)) (R2.out fun i _ _=>w1 i (by omega))
        simp only[r1,Option.bind_some,ZbB r2.len]
        exact⟨r,rfl,r2,r3⟩
      · rw[if_neg (by simp;omega)]
        refine⟨f1,rfl,RP.refl _ _ _,?_⟩
        rcases Nat.lt_or_ge mid en with e5 | e5
        · exact (R1.out fun i _ _=>w1 i (by omega)).mono (Nat.le_refl _) (by omega)
        · exact (R2.out fun i _ _=>w1 i (by omega)).mono (by omega) (Nat.le_refl _)
    rw[e2]
    refine⟨f2,rfl,(hRP0.trans (hRP1.mono (Nat.le_refl _) (by omega))).trans (hRP2.mono (by omega) (Nat.le_refl _)),?_⟩
    have w2:∀k,k<mid→f2[k]? =f1[k]? :=fun k hk=>hRP2.out k (by omega)
    have X1:=hRP1.all (p:=fun x=>∀q y,mid≤q→q<b→f0[q]? =some y→¬c y x<0) (fun p x p1 p2 hx q y q1 q2 hy=>X0 p q x y p1 p2 q1 q2 hx hy)
    have X2:=hRP2.all (p:=fun y=>∀p x,a≤p→p<mid→f1[p]? =some x→¬c y x<0) (fun q y q1 q2 hy p x p1 p2 hx=>X1 p x p1 p2 hx q y q1 q2 (by rw[←w1 q q1];exact hy))
    intro p q x y q1 q2 q3 hx hy
    rcases Nat.lt_or_ge q mid with e5 | e5
    · rw[w2 p (by omega)] at hx;rw[w2 q e5] at hy
      exact hS1 p q x y q1 q2 e5 hx hy
    · rcases Nat.lt_or_ge p mid with e6 | e6
      · rw[w2 p e6] at hx
        exact X2 q y e5 q3 hy p x q1 e6 hx
      · exact hS2 p q x y e6 q2 q3 hx hy
theorem sym_ok {α:Type} {c:α→α→Int} {g:α→α→Option Int} (hg:∀x y,g x y=some (c x y)) (hc:Cmp3 c):∀(fuel:Nat) {a m b:Nat} {d:List α} (_:b - a≤fuel) (_:a<m) (_:m<b) (_:b≤d.length) (_:d.length≤lim) (_:Srt c d a m) (_:Srt c d m b),
  ∃r,Zbh fuel d a m b g=some r∧RP a b d r∧Srt c r a b
 | 0,a,m,b,d,hf,ham,hmb,hb,hd,hs1,hs2=>by omega
 | fuel+1,a,m,b,d,hf,ham,hmb,hb,hd,hs1,hs2=>by
  have hd':d.length≤140737488355328:=hd
  unfold Zbh
  rw[ZbD (n:=m - a) (z:=(m:Int) - (a:Int)) (by omega) (by unfold top;omega),ZbD (n:=b - m) (z:=(b:Int) - (m:Int)) (by omega) (by unfold top;omega)]
  by_cases c1:m - a=1
  ·rw[if_pos (by simp[c1])]
   exact symA_ok hg hc ham hmb hb hd hs1 hs2 c1
  rw[if_neg (by simp;omega)]
  by_cases c2:b - m=1
  ·rw[if_pos (by simp[c2])]
   exact symB_ok hg hc ham hmb hb hd hs1 hs2 c2
  rw[if_neg (by simp;omega)]
  exact symC_ok hg hc ham hmb hb hd hs1 hs2 c1 c2 hf (fun h1 h2 h3 h4 h5 h6 h7=>sym_ok hg hc fuel h1 h2 h3 h4 h5 h6 h7)
theorem stable_ok {α:Type} {c:α→α→Int} {g:α→α→Option Int} (hg:∀x y,g x y=some (c x y)) (hc:Cmp3 c) {fuel:Nat} {d:List α} (hf:d.length≤fuel) (hd:d.length≤lim) :
    ∃r,Zcc fuel d (d.length:Int) g=some r∧d.Perm r∧Srt c r 0 d.length:=by
  have hd':d.length≤140737488355328:=hd
  unfold Zcc
  refine ZaL (B:=fun s=>∃t:Nat,s.1=((t*20:Nat):Int)∧t*20≤d.length∧d.length<t*20+20∧d.Perm s.2∧∀q,q<t→Srt c s.2 (q*20) (q*20+20)) (R:=fun _=>False)
    (ZaZ (fun s=>∃t:Nat,s.1=((t*20:Nat):Int)∧s.2.1=((t*20+20:Nat):Int)∧t*20≤d.length∧d.Perm s.2.2∧∀q,q<t→Srt c s.2.2 (q*20) (q*20+20)) (fun s=>d.length+20 - s.1.toNat) ?_ _ ⟨0,rfl,rfl,by omega,.refl _,fun q hq=>by omega⟩) ?_ (fun _ h=>h.elim)
  · rintro⟨n1,n2,l⟩ ⟨t,rfl,rfl,h1,h2,h3⟩
    dsimp only at h2 h3 ⊢
    have hlen:=h2.length_eq
    by_cases hb:t*20+20≤d.length
    · rw[if_pos (by simp;omega)]
      obtain⟨r,r1,r2,r3⟩:=ins_ok hg hc (a:=t*20) (b:=t*20+20) (d:=l) (by omega) (by omega) (by unfold top;omega)
      simp only[r1,Option.bind_some,ZbB r2.len]
      refine⟨_,rfl,⟨t+1,by simp only[];omega,by dsimp only;rw[ZbD (n:=t*20+40) (by omega) (by unfold top;omega)];omega,by omega,h2.trans r2.perm,fun q hq=>?_⟩,by simp only[Int.toNat_natCast];omega⟩
      rcases Nat.lt_or_ge q t with e | e
      · exact (h3 q e).out fun i _ _=>r2.out i (by omega)
      · obtain rfl:q=t:=by omega
        exact r3
    · rw[if_neg (by simp;omega)]
      exact⟨_,rfl,t,rfl,h1,by omega,h2,h3⟩
  rintro⟨n1,l⟩ ⟨t,rfl,h1,h2,h3,h4⟩
  dsimp only at h3 h4 ⊢
  have hlen:=h3.length_eq
  obtain⟨r,r1,r2,r3⟩:=ins_ok hg hc (a:=t*20) (b:=d.length) (d:=l) (by omega) (by omega) (by unfold top;omega)
  simp only[r1,Option.bind_some,ZbB r2.len]
  have hB:∀q,Srt c r (q*20) (min (q*20+20) d.length):=fun q=>by
    rcases Nat.lt_or_ge q t with e | e
    · exact ((h4 q e).out fun i _ _=>r2.out i (by omega)).mono (Nat.le_refl _) (by omega)
    · exact r3.mono (by omega) (by omega)
  refine ZaL (B:=fun l=>d.Perm l∧Srt c l 0 d.length) (R:=fun _=>False)
    (ZaZ (fun s=>∃bs:Nat,s.1=(bs:Int)∧0<bs∧bs≤2*d.length+20∧d.Perm s.2∧∀q,Srt c s.2 (q*bs) (min (q*bs+bs) d.length)) (fun s=>2*d.length+20 - s.1.toNat) ?_ _ ⟨20,rfl,by omega,by omega,h3.trans r2.perm,hB⟩) (fun l h=>⟨l,rfl,h⟩) (fun _ h=>h.elim)
  rintro⟨n1,e⟩ ⟨bs,rfl,k1,k2,k3,k4⟩
  dsimp only at k3 k4 ⊢
  have hle:=k3.length_eq
  by_cases hbs:bs<d.length
  · rw[if_pos (by simp;omega)]
    rw[ZbD (n:=2*bs) (z:=2*(bs:Int)) (by omega) (by unfold top;omega),ZbD (n:=2*bs) (z:=(bs:Int)*2) (by omega) (by unfold top;omega)]
    refine ZaL (B:=fun s=>∃t:Nat,s.1=((t*(2*bs):Nat):Int)∧t*(2*bs)≤d.length∧d.length<t*(2*bs)+2*bs∧d.Perm s.2∧(∀q,q<t→Srt c s.2 (q*(2*bs)) (q*(2*bs)+2*bs))∧∀q,t*(2*bs)≤q*bs→Srt c s.2 (q*bs) (min (q*bs+bs) d.length)) (R:=fun _=>False)
      (ZaZ (fun s=>∃t:Nat,s.1=((t*(2*bs):Nat):Int)∧s.2.1=((t*(2*bs)+2*bs:Nat):Int)∧t*(2*bs)≤d.length∧d.Perm s.2.2∧(∀q,q<t→Srt c s.2.2 (q*(2*bs)) (q*(2*bs)+2*bs))∧∀q,t*(2*bs)≤q*bs→Srt c s.2.2 (q*bs) (min (q*bs+bs) d.length)) (fun s=>d.length+2*bs - s.1.toNat) ?_ _
        ⟨0,by simp,by simp,by omega,k3,fun q hq=>by omega,fun q _=>k4 q⟩) ?_ (fun _ h=>h.elim)
    · rintro⟨n1,n2,f⟩ ⟨t,rfl,rfl,j1,j2,j3,j4⟩
      dsimp only at j2 j3 j4 ⊢
      have hlf:=j2.length_eq
      by_cases hb:t*(2*bs)+2*bs≤d.length
      · rw[if_pos (by simp only[decide_eq_true_eq];omega)]
        have e1:(2*t)*bs=t*(2*bs):=by rw[Nat.mul_comm 2 t,Nat.mul_assoc]
        have e2:(2*t+1)*bs=t*(2*bs)+bs:=by rw[Nat.add_mul,e1,Nat.one_mul]
        have s1:=j4 (2*t) (by omega)
        have s2:=j4 (2*t+1) (by omega)
        rw[e1,Nat.min_eq_left (by omega)] at s1
        rw[e2,Nat.min_eq_left (by omega)] at s2
        obtain⟨r,r1,r2,r3⟩:=sym_ok hg hc fuel (a:=t*(2*bs)) (m:=t*(2*bs)+bs) (b:=t*(2*bs)+2*bs) (d:=f) (by omega) (by omega) (by omega) (by omega) (by omega) s1 (s2.mono (Nat.le_refl _) (by omega))
        simp only[ZbD (n:=t*(2*bs)+bs) (z:=((t*(2*bs):Nat):Int)+(bs:Int)) (by omega) (by unfold top;omega),ZbD (n:=t*(2*bs)+2*bs+2*bs) (z:=((t*(2*bs)+2*bs:Nat):Int)+((2*bs:Nat):Int)) (by omega) (by unfold top;omega),r1,Option.bind_some,ZbB r2.len]
        have e3:(t+1)*(2*bs)=t*(2*bs)+2*bs:=by rw[Nat.add_mul,Nat.one_mul]
        refine⟨_,rfl,⟨t+1,by dsimp only;rw[e3],by dsimp only;rw[e3],by omega,j2.trans r2.perm,fun q hq=>?_,fun q hq=>?_⟩,by simp only[Int.toNat_natCast];omega⟩
        · rcases Nat.lt_or_ge q t with e | e
          · have:q*(2*bs)+2*bs≤t*(2*bs):=by
              have:=Nat.mul_le_mul_right (2*bs) (show q+1≤t from e)
              rw[Nat.add_mul,Nat.one_mul] at this;exact this
            exact (j3 q e).out fun i _ _=>r2.out i (by omega)
          · obtain rfl:q=t:=by omega
            exact r3
        · exact (j4 q (by omega)).out fun i _ _=>r2.out i (by omega)
      · rw[if_neg (by simp only[decide_eq_true_eq];omega)]
        exact⟨_,rfl,t,rfl,j1,by omega,j2,j3,j4⟩
    · rintro⟨n1,f⟩ ⟨t,rfl,j1,j2,j3,j4,j5⟩
      dsimp only at j3 j4 j5 ⊢
      have hlf:=j3.length_eq
      rw[ZbD (n:=t*(2*bs)+bs) (z:=((t*(2*bs):Nat):Int)+(bs:Int)) (by omega) (by unfold top;omega)]
      have e1:(2*t)*bs=t*(2*bs):=by rw[Nat.mul_comm 2 t,Nat.mul_assoc]
      have e2:(2*t+1)*bs=t*(2*bs)+bs:=by rw[Nat.add_mul,e1,Nat.one_mul]
      have s1:=j5 (2*t) (by omega)
      rw[e1] at s1
      have fin:∀r:List α,RP (t*(2*bs)) d.length f r→Srt c r (t*(2*bs)) d.length→∀q,Srt c r (q*(2*bs)) (min (q*(2*bs)+2*bs) d.length):=fun r r2 r3 q=>by
        rcases Nat.lt_or_ge q t with e | e
        · have:q*(2*bs)+2*bs≤t*(2*bs):=by
            have:=Nat.mul_le_mul_right (2*bs) (show q+1≤t from e)
            rw[Nat.add_mul,Nat.one_mul] at this;exact this
          exact ((j4 q e).out fun i _ _=>r2.out i (by omega)).mono (Nat.le_refl _) (by omega)
        · have:=Nat.mul_le_mul_right (2*bs) e
          exact r3.mono (by omega) (by omega)
      by_cases hm:t*(2*bs)+bs<d.length
      · rw[if_pos (by simp only[decide_eq_true_eq];omega)]
        have s2:=j5 (2*t+1) (by omega)
        rw[e2] at s2
        obtain⟨r,r1,r2,r3⟩:=sym_ok hg hc fuel (a:=t*(2*bs)) (m:=t*(2*bs)+bs) (b:=d.length) (d:=f) (by omega) (by omega) (by omega) (by omega) (by omega) (s1.mono (Nat.le_refl _) (by omega)) (s2.mono (Nat.le_refl _) (by omega))
        simp only[r1,Option.bind_some,ZbB r2.len]
        exact⟨_,rfl,⟨2*bs,rfl,by omega,by omega,j3.trans r2.perm,fin r r2 r3⟩,by simp only[Int.toNat_natCast];omega⟩
      · rw[if_neg (by simp only[decide_eq_true_eq];omega)]
        exact⟨_,rfl,⟨2*bs,rfl,by omega,by omega,j3,fin f (RP.refl _ _ _) (s1.mono (Nat.le_refl _) (by omega))⟩,by simp only[Int.toNat_natCast];omega⟩
  · rw[if_neg (by simp;omega)]
    refine⟨_,rfl,k3,?_⟩
    have:=k4 0
    exact this.mono (by omega) (by omega)
theorem sort_stable {α:Type} {c:α→α→Int} {g:α→α→Option Int} (hg:∀x y,g x y=some (c x y)) (hc:Cmp3 c) {fuel:Nat} {d:List α} (hf:d.length≤fuel) (hd:d.length≤lim) :
  ∃r,Zce fuel d g=some r∧d.Perm r∧r.Pairwise (fun x y=>¬c y x<0):=by
 obtain⟨r,r1,r2,r3⟩:=stable_ok hg hc hf hd
 refine⟨r,by simp only[Zce,r1,Option.bind_some,ZbB r2.length_eq.symm],r2,?_⟩
 rw[List.pairwise_iff_getElem]
 intro i j hi hj hij
 exact r3 i j _ _ (Nat.zero_le _) hij (by rw[r2.length_eq];exact hj) (List.getElem?_eq_getElem hi) (List.getElem?_eq_getElem hj)
end Go.Abs
