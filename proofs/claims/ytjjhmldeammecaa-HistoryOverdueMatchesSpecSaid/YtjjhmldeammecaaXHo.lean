/-
  Plain facts of history:what is overdue;the law on Overdue.
-/
import Derived.Test.YtjjhmldeammecaaFHo
import Derived.Test.YtjjhmldeammecaaXHd
import Derived.Test.YtjjhmldeammecaaXHy
import Derived.Test.YtjjhmldeammecaaW6
namespace Go.Abs
open Go
theorem half_big (i j:Nat) (h:i+j≤2*top):w64 ((IntKind.u64.wrap (w64 ((i:Int)+(j:Int)))).fdiv 2)=(((i+j) / 2:Nat):Int):=by
 unfold top at h
 have h1:IntKind.u64.wrap (w64 ((i:Int)+(j:Int)))=(i:Int)+j:=by
  rw[w64,IntKind.wrap_i64,IntKind.wrap_u64];omega
 rw[h1,show ((i:Int)+j).fdiv 2=(((i+j) / 2:Nat):Int) by rw[Int.fdiv_eq_ediv_of_nonneg _ (by omega)];omega,ZcW (by omega) (by omega)]
theorem less_int (a b:Int):ZaP a b=some (decide (a<b)):=by
 simp[ZaP,Zcm,gAnd]
theorem find_ok (l:List Int) (x:Int) (hl:l.length≤top):∃at_ b,ZgW l x=some (at_,b)∧0≤at_∧at_≤l.length:=by
  unfold ZgW
  have fin:∀o:Option (Int × Bool),(∃r,o=some r∧(0≤r.1∧r.1≤(l.length:Int)))→∃at_ b,o=some (at_,b)∧0≤at_∧at_≤(l.length:Int):=by
    rintro o ⟨⟨a,b⟩,h1,h2⟩
    exact⟨a,b,h1,h2⟩
  refine fin _ (ZaL (Q:=fun (r:Int × Bool)=>0≤r.1∧r.1≤l.length) (ZaZ (σ:=Int × Int) (τ:=Int) (ρ:=Int × Bool) (fun s=>∃i j:Nat,s=((i:Int),(j:Int))∧i≤j∧j≤l.length) (fun s=>(s.2 - s.1).toNat)
    (B:=fun t=>0≤t∧t≤l.length) (R:=fun _=>False) ?_ (0,(l.length:Int)) ⟨0,l.length,rfl,by omega,by omega⟩) ?_ (fun _ h=>h.elim))
  · rintro _ ⟨i,j,rfl,hij,hj⟩
    by_cases h:i<j
    · have hh:(i+j) / 2<l.length:=by omega
      simp only[show decide ((i:Int)<(j:Int))=true by simpa using h,if_true,half_big i j (by omega),ZfN,List.getElem?_eq_getElem hh,Option.bind_some,less_int]
      cases hc:decide (l[(i+j) / 2]<x) with
      | true =>
        refine⟨_,rfl,⟨(i+j) / 2+1,j,?_,by omega,hj⟩,?_⟩
        · rw[w64_succ (by unfold top at hl;omega)]
        · dsimp only
          rw[w64_succ (by unfold top at hl;omega)];omega
      | false =>
        refine⟨_,rfl,⟨i,(i+j) / 2,rfl,by omega,by omega⟩,?_⟩
        dsimp only
        omega
    · simp only[show decide ((i:Int)<(j:Int))=false by simpa using h,Bool.false_eq_true,if_false]
      exact⟨_,rfl,by show (0:Int)≤(i:Int)∧(i:Int)≤l.length;omega⟩
  · rintro t ⟨h0,h1⟩
    obtain⟨i,rfl⟩:=Int.eq_ofNat_of_zero_le h0
    by_cases h:i<l.length
    · simp only[show decide (((i:Nat):Int)<(l.length:Int))=true by simpa using h,gAnd,if_true,ZfN,List.getElem?_eq_getElem h,Option.bind_some]
      cases hx:(l[i] == x) with
      | true=>exact⟨_,rfl,h0,h1⟩
      | false =>
        simp only[gOr,Zhe,bne_self_eq_false,Option.bind_some,Bool.false_eq_true,if_false]
        exact⟨_,rfl,h0,h1⟩
    · simp only[show decide (((i:Nat):Int)<(l.length:Int))=false by simpa using h,gAnd,Bool.false_eq_true,if_false,Option.bind_some]
      exact⟨_,rfl,h0,h1⟩
def dueB (c:ZaN) (l:List Za6) (w:Zab):Option Int:=(lastT w.Severity l none).map fun t=>w.From+(addK c.Free c.Holidays w.From t.Days:Int)
def late (c:ZaN) (w:Zab) (d:Int):ZgT:=ZgT.mk w d (cw c.Free c.Holidays d (w.To - d).toNat)
def ovL (c:ZaN) (l:List Za6):Wins→List ZgT→List ZgT × Int
 | [],out=>(out,0)
 | w :: r,out=>match dueB c l w with
  | none=>ovL c l r out
  | some d=>if d≤1000000 then (if d<w.To then ovL c l r (out++ [late c w d]) else ovL c l r out) else ([],3)
def ovStep (c:ZaN) (l:List Za6) (w:Zab) (out:List ZgT):Ex (List ZgT) (List ZgT) (List ZgT × Int) :=
 match dueB c l w with
 | none=> .next out
 | some d=>if d≤1000000 then (if d<w.To then .next (out++ [late c w d]) else .next out) else .ret ([],3)
theorem ovL_go {c:ZaN} {l:List Za6} {body:Nat→Zab→List ZgT→Option (Ex (List ZgT) (List ZgT) (List ZgT × Int))} :
  ∀(r:Wins) (i:Nat) (out:List ZgT),out.length+r.length≤250000→(∀i,∀w∈r,∀out:List ZgT,out.length<250000→body i w out=some (ovStep c l w out)) →
   seqK (goL body (fun x=>x) r i out) (fun o=>some (o,0))=some (ovL c l r out)
 | [],_,_,_,_=>rfl
 | w :: r,i,out,hl,h=>by
  simp only[List.length_cons] at hl
  have ih:=fun out' (h':out'.length+r.length≤250000)=>ovL_go (c:=c) (l:=l) (body:=body) r (i+1) out' h' (fun i x hx=>h i x (List.mem_cons_of_mem _ hx))
  rw[goL,h i w (List.mem_cons_self ..) out (by omega),Option.bind_some]
  unfold ovStep
  rw[ovL]
  cases dueB c l w with
  | none=>exact ih out (by omega)
  | some d =>
   dsimp only
   by_cases h1:d≤1000000
   ·rw[if_pos h1,if_pos h1]
    by_cases h2:d<w.To
    ·rw[if_pos h2,if_pos h2];exact ih _ (by simp;omega)
    ·rw[if_neg h2,if_neg h2];exact ih out (by omega)
   ·rw[if_neg h1,if_neg h1];rfl
theorem pcs_le {m:Pubs} {u:Int}:∀ {l:List Zag},(∀r∈l,r.Day≤u)→∀p∈pcs m u l,p.to'≤u
 | [],_,p,hp=>by simp[pcs] at hp
 | r :: l,h,p,hp=>by
  simp only[pcs,List.mem_append] at hp
  rcases hp with hp | hp
  ·have h1:=(ZhE hp).2.2
   cases l with
   | nil=>exact h1
   | cons r' l =>
    have:=h r' (by simp)
    simp only[endOf] at h1
    omega
  ·exact pcs_le (fun x hx=>h x (List.mem_cons_of_mem _ hx)) p hp
theorem win_days {s:Zam} (h:StoryOk s) {r:Wins} (hr:Wdw s r) {w:Zab} (hw:w∈r):0≤w.From∧w.From≤1000000∧w.From<w.To∧w.To≤1000000:=by
 have hf:=wfacts h hr
 have hp:=hf.pos w hw
 have hd:∀x∈s.Releases,0≤x.Day∧x.Day≤s.Until:=fun x hx=>by
  obtain⟨i,hi⟩:=List.getElem?_of_mem hx
  exact⟨(h.rel i x hi).1,(h.rel i x hi).2.1⟩
 obtain⟨p,hp1,_,hp2,_⟩:=(hf.cov (acW w) w.From).1 ⟨w,hw,rfl,by omega,hp⟩
 obtain⟨q,hq1,_,_,hq2⟩:=(hf.cov (acW w) (w.To - 1)).1 ⟨w,hw,rfl,by omega,by omega⟩
 have h1:=pcs_ge (d:=0) (fun x hx=>(hd x hx).1) p hp1
 have h2:=pcs_le (fun x hx=>(hd x hx).2) q hq1
 have:=h.until1
 omega
theorem win_len {s:Zam} (h:StoryOk s) {r:Wins} (hr:Wdw s r):r.length≤250000:=by
 rw[←hr.perm.length_eq];exact Zgz h
theorem late_app {out:List ZgT} (x:ZgT) (h:out.length<250000):app 80 out [x]=some (out++ [x]):=ZfS (n:=250000) h (by unfold lim;omega) (by unfold lim;omega)
theorem hist_ov {c:ZaN} (hc:calFault c.Free c.Holidays=0) {l:List Za6} (hl:tsF l=0) {w:Zab} (h0:0≤w.From) (h1:w.From≤1000000) (h2:w.From<w.To) (h3:w.To≤1000000) {out:List ZgT} (ho:out.length<250000) :
  (Option.bind (Zg7 (ZaD.mk c.Free c.Holidays) l w) fun (y48,y49,y50)=>if (y50 != 0)=true then (some (.ret (([]:List ZgT),y50))) else (if (y49 && (decide (w.To>y48)))=true then (Option.bind (ZgY (ZaD.mk c.Free c.Holidays) w.To) fun y53=>Option.bind (ZgY (ZaD.mk c.Free c.Holidays) y48) fun y55=>Option.bind (app 80 out [(ZgT.mk w y48 (w64 (y53 - y55)))]) fun l57=>some (.next l57)) else (some (.next out))))=some (ovStep c l w out):=by
 rw[ZhJ hc hl (by simp[dayOk];omega)]
 unfold ovStep dueB
 cases lastT w.Severity l none with
 | none=>simp
 | some t =>
  simp only[Option.map_some]
  obtain⟨k,hk⟩:∃k:Nat,k=addK c.Free c.Holidays w.From t.Days:=⟨_,rfl⟩
  rw[←hk]
  by_cases hd:w.From+(k:Int)≤1000000
  ·rw[if_pos hd,if_pos hd]
   simp only[Option.bind_some,bne_self_eq_false,Bool.false_eq_true,if_false,Bool.true_and,gt_iff_lt,decide_eq_true_eq]
   by_cases ht:w.From+(k:Int)<w.To
   ·have hcal:=calOk hc
    rw[if_pos ht,if_pos ht,ZgY,ZgY,if_pos ⟨hc,by omega,by omega⟩,if_pos ⟨hc,by omega,by omega⟩]
    have hb1:=ZgE hcal (d:=w.To) (by omega) (by omega)
    have hb2:=ZgE hcal (d:=w.From+k) (by omega) (by omega)
    simp only[Option.bind_some]
    rw[ZcW (by omega) (by omega),ZhA hcal (by omega) (by omega),late_app _ ho]
    rfl
   ·rw[if_neg ht,if_neg ht]
  ·rw[if_neg hd,if_neg hd]
   rfl
theorem ref_ov {c:ZaN} {l:List Za6} (hl:tsF l=0) {w:Zab} (h0:0≤w.From) (h1:w.From≤1000000) (h2:w.From<w.To) (h3:w.To≤1000000) {out:List ZgT} (ho:out.length<250000) :
  (Option.bind (Zhs l w.Severity) fun (y48,y49)=>if (!y49)=true then (some (.next out)) else (Option.bind (Zg8 (ZaA.mk c.Free c.Holidays) w.From y48.Days) fun (y51,y52)=>if (!y52)=true then (some (.ret (([]:List ZgT),3))) else (if (decide (w.To>y51))=true then (Option.bind (Zg3 (ZaA.mk c.Free c.Holidays) y51 w.To) fun y54=>Option.bind (app 80 out [(ZgT.mk w y51 y54)]) fun l56=>some (.next l56)) else (some (.next out)))))=some (ovStep c l w out):=by
 rw[ref11_term_eq]
 unfold ovStep dueB
 cases ht:lastT w.Severity l none with
 | none=>simp
 | some t =>
  have hm:t∈l:=by rcases lastT_mem _ _ _ ht with h | h;exact h;cases h
  have hts:=terms_ok hl t hm
  simp only[Option.map_some,Option.bind_some,Bool.not_true,Bool.false_eq_true,if_false,Zg8]
  rw[if_pos ⟨h0,h1,hts.1,by omega⟩]
  simp only[Option.bind_some]
  have hcw:=addK_cw' (fr:=c.Free) (hol:=c.Holidays) (d:=w.From) (n:=t.Days) h0
  obtain⟨k,hk⟩:∃k:Nat,k=addK c.Free c.Holidays w.From t.Days:=⟨_,rfl⟩
  rw[←hk] at hcw ⊢
  by_cases hd:w.From+(k:Int)≤1000000
  ·rw[if_pos hd]
   simp only[decide_eq_true (show t.Days≤(cw c.Free c.Holidays w.From k:Int)∧w.From+(k:Int)≤1000000 from ⟨hcw hd,hd⟩),Bool.not_true,Bool.false_eq_true,if_false,gt_iff_lt,decide_eq_true_eq]
   by_cases ht:w.From+(k:Int)<w.To
   ·rw[if_pos ht,if_pos ht,Zg3,if_pos ⟨by omega,by omega⟩]
    simp only[Option.bind_some]
    rw[late_app _ ho]
    rfl
   ·rw[if_neg ht,if_neg ht]
  ·rw[if_neg hd]
   simp[hd]
def ovA (c:ZaN) (l:List Za6) (s:Zam) (r:Wins):List ZgT × Int :=
 if calFault c.Free c.Holidays≠0 then ([],calFault c.Free c.Holidays) else if tsF l≠0 then ([],tsF l) else if sFault s≠0 then ([],sFault s) else ovL c l r []
theorem overdue_eq (s:Zam):∃r,(sFault s=0→Wdw s r)∧∀c l,Zg6 bigFuel c l s=some (ovA c l s r)∧Zhb bigFuel c l s=some (ovA c l s r):=by
 by_cases h3:sFault s=0
 ·obtain⟨r,hw1,hw2,hr⟩:=windows_eq (storyOk h3)
  refine⟨r,fun _=>hr,fun c l=>?_⟩
  have hs:=storyOk h3
  have hlen:=win_len hs hr
  unfold Zg6 Zhb ovA
  simp only[ZgZ,Zg9,Zhp,Zhi,Zfb,Zc2,Option.bind_some]
  by_cases h1:calFault c.Free c.Holidays=0
  ·by_cases h2:tsF l=0
   ·simp only[h1,h2,h3,bne_self_eq_false,Bool.false_eq_true,if_false,ne_eq,not_true_eq_false,Zho,Zhh,if_true,Option.bind_some,hw1,hw2]
    rw[ZcS,ZcS]
    refine⟨ovL_go r 0 [] (by simpa using hlen) (fun i w hw out ho=>?_),ovL_go r 0 [] (by simpa using hlen) (fun i w hw out ho=>?_)⟩
    ·have hd:=win_days hs hr hw
     exact hist_ov h1 h2 hd.1 hd.2.1 hd.2.2.1 hd.2.2.2 ho
    ·have hd:=win_days hs hr hw
     exact ref_ov h2 hd.1 hd.2.1 hd.2.2.1 hd.2.2.2 ho
   ·simp[h1,h2]
  ·simp[h1]
 ·refine⟨[],fun e=>absurd e h3,fun c l=>?_⟩
  unfold Zg6 Zhb ovA
  simp only[ZgZ,Zg9,Zhp,Zhi,Zfb,Zc2,Option.bind_some]
  by_cases h1:calFault c.Free c.Holidays=0
  ·by_cases h2:tsF l=0
   ·simp[h1,h2,h3]
   ·simp[h1,h2]
  ·simp[h1]
theorem isWork_mono {fr hol hol':List Int} (h:∀x∈hol,x∈hol') {d:Int} (hw:isWork fr hol' d=true):isWork fr hol d=true:=by
 unfold isWork at *
 simp only[Bool.and_eq_true,Bool.not_eq_true',decide_eq_false_iff_not] at *
 exact⟨hw.1,fun hd=>hw.2 (h d hd)⟩
theorem cw_more {fr hol hol':List Int} (h:∀x∈hol,x∈hol') (a:Int):∀n,cw fr hol' a n≤cw fr hol a n
 | 0=>Nat.le_refl _
 | n+1=>by
  have ih:=cw_more h (fr:=fr) a n
  simp only[cw]
  by_cases hw:isWork fr hol' (a+n)=true
  ·rw[if_pos hw,if_pos (isWork_mono h hw)];omega
  ·rw[if_neg hw];omega
theorem firstF_le {p q:Nat→Bool} (h:∀i,q i=true→p i=true):∀(n i:Nat),firstF p i n≤firstF q i n
 | 0,i=>Nat.le_refl _
 | n+1,i=>by
  have hle:∀(n i:Nat),i≤firstF q i n:=by
   intro n
   induction n with
   | zero=>intro i;exact Nat.le_refl _
   | succ n ih =>
    intro i
    simp only[firstF]
    split
    ·exact Nat.le_refl _
    ·have:=ih (i+1);omega
  simp only[firstF]
  by_cases hq:q i=true
  ·rw[if_pos hq,if_pos (h i hq)];exact Nat.le_refl _
  ·rw[if_neg hq]
   by_cases hp:p i=true
   ·rw[if_pos hp];have:=hle n (i+1);omega
   ·rw[if_neg hp];exact firstF_le h n (i+1)
theorem addK_more {fr hol hol':List Int} (h:∀x∈hol,x∈hol') (d n:Int):addK fr hol d n≤addK fr hol' d n :=
  firstF_le (fun i hi=>by
    have hi:=of_decide_eq_true hi
    have:=cw_more h (fr:=fr) d i
    exact decide_eq_true (by omega)) _ _
theorem ovL_mem {c:ZaN} {l:List Za6}:∀(r:Wins) (out:List ZgT),(ovL c l r out).2=0 →
  (∀x∈(ovL c l r out).1,x∈out∨∃w∈r,∃d,dueB c l w=some d∧d<w.To∧x=late c w d)∧(∀x∈out,x∈(ovL c l r out).1)∧∀w∈r,∀d,dueB c l w=some d→d<w.To→late c w d∈(ovL c l r out).1
 | [],out,_=>⟨fun x hx=> .inl hx,fun x hx=>hx,fun w hw=>by cases hw⟩
 | w :: r,out,h=>by
  rw[ovL] at h ⊢
  cases hd:dueB c l w with
  | none =>
   rw[hd] at h
   obtain⟨a1,a2,a3⟩:=ovL_mem r out h
   refine⟨fun x hx=>?_,a2,fun v hv d he ht=>?_⟩
   ·rcases a1 x hx with h | ⟨w',h1,h2⟩
    ·exact .inl h
    ·exact .inr ⟨w',List.mem_cons_of_mem _ h1,h2⟩
   ·rcases List.mem_cons.1 hv with rfl | hv
    ·rw[hd] at he;cases he
    ·exact a3 v hv d he ht
  | some d =>
   rw[hd] at h
   dsimp only at h ⊢
   split at h
   ·rename_i hle
    rw[if_pos hle]
    split at h
    ·rename_i hlt
     rw[if_pos hlt]
     obtain⟨a1,a2,a3⟩:=ovL_mem r _ h
     refine⟨fun x hx=>?_,fun x hx=>a2 x (List.mem_append_left _ hx),fun v hv d' he ht=>?_⟩
     ·rcases a1 x hx with h | ⟨w',h1,h2⟩
      ·rcases List.mem_append.1 h with h | h
       ·exact .inl h
       ·simp only[List.mem_singleton] at h
        exact .inr ⟨w,List.mem_cons_self ..,d,hd,hlt,h⟩
      ·exact .inr ⟨w',List.mem_cons_of_mem _ h1,h2⟩
     ·rcases List.mem_cons.1 hv with rfl | hv
      ·rw[hd] at he;cases he
       exact a2 _ (by simp)
      ·exact a3 v hv d' he ht
    ·rename_i hlt
     rw[if_neg hlt]
     obtain⟨a1,a2,a3⟩:=ovL_mem r out h
     refine⟨fun x hx=>?_,a2,fun v hv d' he ht=>?_⟩
     ·rcases a1 x hx with h | ⟨w',h1,h2⟩
      ·exact .inl h
      ·exact .inr ⟨w',List.mem_cons_of_mem _ h1,h2⟩
     ·rcases List.mem_cons.1 hv with rfl | hv
      ·rw[hd] at he;cases he;exact absurd ht hlt
      ·exact a3 v hv d' he ht
   ·cases h
theorem eqL_self (l:List ZgT):Zg1 l l=some true:=by
 unfold Zg1
 rw[if_neg (by simp),Zfn (fun _ _=>false) (fun _ _=>false)]
 ·have:firstI (fun (_:Nat) (_:ZgT)=>false) l 0=none:=Zeg.2 fun _ _ _=>rfl
  rw[this];rfl
 ·intro i x hx
  rw[ZfN,hx]
  simp[sEq_self]
theorem contains_late {l:List ZgT} {x:ZgT} (h:∃y∈l,y.Window=x.Window∧y.Due≤x.Due):ZgV l (fun a0=>ZgU a0 x)=some true:=by
 obtain⟨p,hp⟩:∃p:ZgT→Bool,∀y,ZgU y x=some (p y):=⟨_,fun _=>rfl⟩
 have hp1:∀y,y.Window=x.Window→y.Due≤x.Due→p y=true:=fun y h1 h2=>by
  have:=hp y
  unfold ZgU at this
  rw[h1] at this
  simp only[sEq_self,beq_self_eq_true,Bool.and_self,decide_eq_true h2,Option.some.injEq] at this
  exact this.symm
 unfold ZgV Zg0
 rw[Zfn (fun _ y=>p y) (fun i _=>(i:Int))]
 ·cases hf:firstI (fun (_:Nat) (y:ZgT)=>p y) l 0 with
  | some e =>
   simp only[seqK,Option.bind_some]
   simp
  | none =>
   obtain⟨y,hy,h1,h2⟩:=h
   obtain⟨i,hi⟩:=List.getElem?_of_mem hy
   have:=Zeg.1 hf i y hi
   rw[hp1 y h1 h2] at this;cases this
 ·intro i y _
  dsimp only
  rw[hp y,Option.bind_some]
  cases p y<;>rfl
theorem law_Overdue (c:ZaN) (l:List Za6) (s:Zam) (x:Int) (hlen:c.Holidays.length≤top):ZgX bigFuel c l s x=some true:=by
 obtain⟨r,hr,ho⟩:=overdue_eq s
 obtain⟨at_,b,hs,h0,h1⟩:=find_ok c.Holidays x hlen
 unfold ZgX
 simp only[(ho _ _).1,(ho _ _).2,Option.bind_some,eqL_self,Bool.not_true,bne_self_eq_false,Bool.or_self,Bool.false_eq_true,if_false,hs]
 have hg:∀a:Bool,gOr a (Option.bind (ZgZ c) fun y13=>some (y13 != 0))=some (a || (calFault c.Free c.Holidays != 0)):=fun a=>by cases a<;>rfl
 rw[hg,Option.bind_some]
 split
 ·rfl
 ·rename_i hb
  simp only[Bool.or_eq_true,not_or,bne_iff_ne,ne_eq,Classical.not_not] at hb
  obtain⟨⟨he,_⟩,hc⟩:=hb
  have hcal:=calOk hc
  have hcl:Zg2 c.Holidays=some c.Holidays:=by
   unfold Zg2
   have:=hcal.holL
   rw[app_ok (by simp;unfold lim;omega) (by simp;unfold lim;omega)]
   simp
  have hins:ins8 c.Holidays at_ x=some (insI c.Holidays at_.toNat x):=by
   have:=hcal.holL
   rw[ins8,if_pos ⟨h0,h1,by unfold lim;omega⟩]
  rw[hcl,Option.bind_some,hins,Option.bind_some]
  have hsub:∀z∈c.Holidays,z∈insI c.Holidays at_.toNat x:=fun z hz=>by
   unfold insI
   rw[←List.take_append_drop at_.toNat c.Holidays] at hz
   rcases List.mem_append.1 hz with h | h
   ·exact List.mem_append_left _ h
   ·exact List.mem_append_right _ (List.mem_cons_of_mem _ h)
  split
  ·simp[gAnd,ZdH]
  ·rename_i hg0
   simp only[bne_iff_ne,ne_eq,Classical.not_not] at hg0
   have hts:tsF l=0∧sFault s=0∧ovA c l s r=ovL c l r []:=by
    unfold ovA at he ⊢
    rw[if_neg (by simpa using hc)] at he ⊢
    split at he
    ·exact absurd he (by assumption)
    ·rename_i h1
     split at he
     ·exact absurd he (by assumption)
     ·rename_i h2
      rw[if_neg h1,if_neg h2]
      exact⟨by simpa using h1,by simpa using h2,rfl⟩
   obtain⟨ht,hsf,hA⟩:=hts
   have hA':ovA (ZaN.mk c.Free (insI c.Holidays at_.toNat x)) l s r=ovL (ZaN.mk c.Free (insI c.Holidays at_.toNat x)) l r []:=by
    unfold ovA at hg0 ⊢
    split at hg0
    ·exact absurd hg0 (by assumption)
    ·rename_i h1
     rw[if_neg h1,if_neg (by simpa using ht),if_neg (by simpa using hsf)]
   rw[hA] at he ⊢
   rw[hA'] at hg0 ⊢
   obtain⟨_,_,a3⟩:=ovL_mem r [] he
   obtain⟨b1,_,_⟩:=ovL_mem r [] hg0
   rw[Zfn (fun _ _=>false) (fun _ _=>false)]
   ·rw[Zeg.2 fun _ _ _=>rfl]
    rfl
   ·intro i y hy
    have hmem:=List.mem_of_getElem? hy
    rw[contains_late]
    ·rfl
    ·rcases b1 y hmem with h | ⟨w,hw,d',hd',hlt,rfl⟩
     ·cases h
     ·unfold dueB at hd'
      rw[Option.map_eq_some_iff] at hd'
      obtain⟨t,ht1,rfl⟩:=hd'
      have hm:=addK_more (fr:=c.Free) hsub w.From t.Days
      dsimp only at hlt
      refine⟨late c w (w.From+(addK c.Free c.Holidays w.From t.Days:Int)),a3 w hw _ (by unfold dueB;rw[ht1];rfl) (by omega),rfl,?_⟩
      show w.From+(addK c.Free c.Holidays w.From t.Days:Int)≤w.From+(addK c.Free (insI c.Holidays at_.toNat x) w.From t.Days:Int)
      omega
end Go.Abs
