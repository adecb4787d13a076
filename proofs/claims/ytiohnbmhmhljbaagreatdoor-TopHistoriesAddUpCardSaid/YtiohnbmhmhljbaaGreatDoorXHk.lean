/-
  Plain facts of history:stories,the release that is used,what is open.
-/
import Derived.Test.YtiohnbmhmhljbaaGreatDoorFHk
import Derived.Test.YtiohnbmhmhljbaaGreatDoorXHc
namespace Go.Abs
open Go
theorem mget_mset {β:Type} (k k':Str) (v:β):∀(m:List (Str × β)),mget kEqS k (mset kEqS k' v m)=if k=k' then some v else mget kEqS k m
 | []=>by simp[mset,mget,kEqS,Zd3]
 | e :: m=>by
  simp only[mset,kEqS,Zd3,decide_eq_true_eq]
  by_cases h:k'=e.1
  ·rw[if_pos h]
   simp only[mget,kEqS,Zd3,decide_eq_true_eq]
   by_cases h2:k=k'
   ·simp[h2]
   ·rw[if_neg h2,if_neg h2,if_neg (by rw[←h];exact h2)]
  ·rw[if_neg h]
   simp only[mget,kEqS,Zd3,decide_eq_true_eq,mget_mset k k' v m]
   by_cases h2:k=e.1
   ·rw[if_pos h2,if_pos h2,if_neg (by rw[h2];exact fun e=>h e.symm)]
   ·rw[if_neg h2,if_neg h2]
theorem mget_fold {α β:Type} (f:α→Str) (g:α→β) (k:Str):∀(l:List α) (m:List (Str × β)),mget kEqS k (l.foldl (fun m x=>mset kEqS (f x) (g x) m) m)=match l.reverse.find? (fun x=>decide (k=f x)) with | some x=>some (g x) | none=>mget kEqS k m
 | [],m=>rfl
 | x :: l,m=>by
  rw[List.foldl_cons,mget_fold f g k l,List.reverse_cons,List.find?_append]
  cases l.reverse.find? (fun x=>decide (k=f x)) with
  | some y=>rfl
  | none =>
   simp only[Option.none_or,mget_mset,List.find?_cons,List.find?_nil]
   by_cases h:k=f x<;>simp[h]
theorem goL_total {α σ τ ρ:Type} {body:Nat→α→σ→Option (Ex σ τ ρ)} {fin:σ→τ} {l:List α} (h:∀i x s,l[i]? =some x→(∃s',body i x s=some (.next s'))∨∃r,body i x s=some (.ret r)) (s:σ):∃y,forL l body fin s=some y:=by
 rw[ZcS]
 have key:∀(q:List α) (i:Nat) (s:σ),l.drop i=q→∃y,goL body fin q i s=some y:=by
  intro q
  induction q with
  | nil=>intro i s _;exact⟨_,rfl⟩
  | cons x q ih =>
   intro i s hd
   have hx:l[i]? =some x:=by rw[←Nat.add_zero i,←List.getElem?_drop,hd];rfl
   rcases h i x s hx with ⟨s',h1⟩ | ⟨r,h1⟩
   ·simp only[goL,h1,Option.bind_some]
    exact ih (i+1) s' (by rw[←List.drop_drop,hd];rfl)
   ·exact⟨.inr r,by simp only[goL,h1,Option.bind_some]⟩
 exact key l 0 s rfl
theorem forL_inv {α σ τ ρ:Type} {body:Nat→α→σ→Option (Ex σ τ ρ)} {fin:σ→τ} {l:List α} {s:σ} {t:τ} (hF:forL l body fin s=some (.inl t)) (I:Nat→σ→Prop) (h0:I 0 s)
  (hb:∀i x s t',l[i]? =some x→I i s→body i x s≠some (.brk t')) (h:∀i x s s',l[i]? =some x→I i s→body i x s=some (.next s')→I (i+1) s'):∃s',t=fin s'∧I l.length s':=by
 rw[ZcS] at hF
 have key:∀(q:List α) (i:Nat) (s:σ),l.drop i=q→i+q.length=l.length→I i s→goL body fin q i s=some (.inl t)→∃s',t=fin s'∧I l.length s':=by
  intro q
  induction q with
  | nil=>intro i s _ hl hi h;exact⟨s,by simpa [goL] using h.symm,by simp at hl;rw[←hl];exact hi⟩
  | cons x q ih =>
   intro i s hd hl hi hg
   have hx:l[i]? =some x:=by rw[←Nat.add_zero i,←List.getElem?_drop,hd];rfl
   simp only[goL] at hg
   obtain⟨z,h1,h2⟩:=Zae hg
   cases z with
   | next s'=>exact ih (i+1) s' (by rw[←List.drop_drop,hd];rfl) (by simp at hl;omega) (h i x s s' hx hi h1) h2
   | brk t'=>exact absurd h1 (hb i x s t' hx hi)
   | ret r=>cases h2
 exact key l 0 s rfl (by simp) h0 hF
theorem forL_all {α σ τ ρ:Type} {body:Nat→α→σ→Option (Ex σ τ ρ)} {fin:σ→τ} {l:List α} {s:σ} {t:τ} (hF:forL l body fin s=some (.inl t)) (Q:Nat→α→Prop)
    (hb:∀i x s t',l[i]? =some x→body i x s≠some (.brk t')) (h:∀i x s s',l[i]? =some x→body i x s=some (.next s')→Q i x):∀i x,l[i]? =some x→Q i x:=by
  obtain⟨_,_,hI⟩:=forL_inv hF (fun n _=>∀i x,i<n→l[i]? =some x→Q i x) (fun i x hi=>by omega) (fun i x s t' hx _=>hb i x s t' hx) (fun i x s s' hx hI hb' j y hj hy=>by
    rcases Nat.lt_or_ge j i with h1 | h1
    · exact hI j y h1 hy
    · obtain rfl:j=i:=by omega
      rw[hx] at hy;cases hy
      exact h j x s s' hx hb')
  exact fun i x hx=>hI i x (ZaB hx) hx
theorem forL_ret {α σ τ ρ:Type} {body:Nat→α→σ→Option (Ex σ τ ρ)} {fin:σ→τ} {l:List α} {s:σ} {r:ρ} (hF:forL l body fin s=some (.inr r)):∃i x s',l[i]? =some x∧body i x s'=some (.ret r):=by
 rw[ZcS] at hF
 have key:∀(q:List α) (i:Nat) (s:σ),l.drop i=q→goL body fin q i s=some (.inr r)→∃i x s',l[i]? =some x∧body i x s'=some (.ret r):=by
  intro q
  induction q with
  | nil=>intro i s _ h;simp[goL] at h
  | cons x q ih =>
   intro i s hd hg
   have hx:l[i]? =some x:=by rw[←Nat.add_zero i,←List.getElem?_drop,hd];rfl
   simp only[goL] at hg
   obtain⟨z,h1,h2⟩:=Zae hg
   cases z with
   | next s'=>exact ih (i+1) s' (by rw[←List.drop_drop,hd];rfl) h2
   | brk t'=>cases h2
   | ret r'=>cases h2;exact⟨i,x,s,hx,h1⟩
 exact key l 0 s rfl hF
def prevB {α:Type} (l:List α) (i:Nat) (f:α→Bool):Bool:=match i with | 0=>false | i+1=>match l[i]? with | some y=>f y | none=>false
theorem gAnd_idx {α:Type} {l:List α} (hl:l.length≤9223372036854775807) {i:Nat} {x:α} (hx:l[i]? =some x) (f:α→Bool) {β:Type} (K:Bool→Option β) :
  (gAnd (decide ((i:Int)>0)) (Option.bind (idx l (w64 ((i:Int) - 1))) fun y=>some (f y))).bind K=K (prevB l i f):=by
 have hi:=ZaB hx
 cases i with
 | zero=>simp[gAnd,prevB]
 | succ i =>
  have hy:l[i]? =some l[i]:=by simp
  rw[w64_pred (by omega),ZfN,hy]
  simp only[gAnd,Option.bind_some,prevB,hy]
  rw[if_pos (by simp),Option.bind_some]
def kFault (l:List Zac) (i:Nat) (x:Zac):Int :=
 if nameOk x.Advisory=false then 8 else if prevB l i (fun y=>sLt x.Advisory.b y.Advisory.b || sEq x.Advisory.b y.Advisory.b)=true then 10
 else if ((!dayOk x.Day) || ((x.Ended != (-1)) && ((decide (x.Ended<x.Day)) || (decide (x.Ended>1000000)))))=true then 9 else 0
def ksFault (l:List Zac):Int:=match firstI (fun i x=>decide (kFault l i x≠0)) l 0 with | some e=>kFault l e.1 e.2 | none=>0
theorem ZfU {l:List Zac} (hl:l.length≤2000):ZcB l=some (ksFault l):=by
 unfold ZcB ksFault
 rw[Zfn (fun i x=>decide (kFault l i x≠0)) (kFault l)]
 ·cases firstI (fun i x=>decide (kFault l i x≠0)) l 0<;>rfl
 ·intro i x hx
  simp only[Zdr,ZfI,Option.bind_some]
  rw[gAnd_idx (by omega) hx]
  unfold kFault
  cases nameOk x.Advisory with
  | false=>rfl
  | true =>
   cases prevB l i (fun y=>sLt x.Advisory.b y.Advisory.b || sEq x.Advisory.b y.Advisory.b) with
   | true=>rfl
   | false=>cases ((!dayOk x.Day) || ((x.Ended != (-1)) && ((decide (x.Ended<x.Day)) || (decide (x.Ended>1000000)))))<;>rfl
def relLoop (s:Zam):Option (Sum Unit Int) :=
  forL (σ:=List (Str × Bool)) (τ:=Unit) s.Releases (fun i x m=>if (!nameOk x.Version)=true then some (.ret 8) else if ((mget kEqS x.Version m).getD false)=true then some (.ret 5)
    else if ((decide (x.Day<0)) || (decide (x.Day>s.Until)))=true then some (.ret 9)
    else (if prevB s.Releases i (fun y=>decide (x.Day≤y.Day))=true then some (.ret 10)
      else if (esFault x.Exposures != 0)=true then some (.ret (esFault x.Exposures)) else some (.next (mset kEqS x.Version true m)))) (fun _=>()) []
theorem Zgn {α σ τ ρ:Type} {body body':Nat→α→σ→Option (Ex σ τ ρ)} {fin:σ→τ} {l:List α} {s:σ} (h:∀i x s,l[i]? =some x→body i x s=body' i x s):forL l body fin s=forL l body' fin s:=by
 rw[ZcS,ZcS]
 have key:∀(q:List α) (i:Nat) (s:σ),l.drop i=q→goL body fin q i s=goL body' fin q i s:=by
  intro q
  induction q with
  | nil=>intro i s _;rfl
  | cons x q ih =>
   intro i s hd
   have hx:l[i]? =some x:=by rw[←Nat.add_zero i,←List.getElem?_drop,hd];rfl
   simp only[goL,h i x s hx]
   congr 1
   funext z
   cases z with
   | next s'=>exact ih (i+1) s' (by rw[←List.drop_drop,hd];rfl)
   | brk t=>rfl
   | ret r=>rfl
 exact key l 0 s rfl
theorem Ze5 (s:Zam):∃y,relLoop s=some y:=by
 refine goL_total ?_ _
 intro i x m _
 repeat' split
 all_goals first | exact .inl ⟨_,rfl⟩ | exact .inr ⟨_,rfl⟩
theorem ks_zero {l:List Zac} (h:ksFault l=0):∀i x,l[i]? =some x→kFault l i x=0:=by
 unfold ksFault at h
 cases hf:firstI (fun i x=>decide (kFault l i x≠0)) l 0 with
 | some e =>
  rw[hf] at h
  obtain⟨j,_,_,h3⟩:=ZeW hf
  simp only[decide_eq_true_eq] at h3
  exact absurd h h3
 | none =>
  intro i x hx
  have:=Zeg.1 hf i x hx
  simpa using this
def knownMap (l:List Zac):List (Str × Bool):=l.foldl (fun m x=>mset kEqS x.Advisory true m) []
def allKnown (s:Zam):Bool:=s.Releases.all fun r=>r.Exposures.all fun e=>(mget kEqS e.Advisory (knownMap s.Known)).getD false
def sFault (s:Zam):Int :=
 if nameOk s.Product=false then 8 else if dayOk s.Until=false then 9 else if 500<s.Releases.length∨2000<s.Known.length then 3
 else match relLoop s with
  | some (.inr e)=>e
  | _=>if ksFault s.Known≠0 then ksFault s.Known else if allKnown s=true then 0 else 4
theorem last_loop (rs:List Zag) (known:List (Str × Bool)) :
  seqK (forL (σ:=Unit) (τ:=Unit) (ρ:=Int) rs (fun _ x _=>seqK (forL (σ:=Unit) (τ:=Unit) x.Exposures (fun _ e _=>if (!((mget kEqS e.Advisory known).getD false))=true then (some (.ret (.ret 4))) else (some (.next ()))) (fun _=>()) ()) fun _=>some (.next ())) (fun _=>()) ()) (fun _=>some 0) =
  some (if (rs.all fun r=>r.Exposures.all fun e=>(mget kEqS e.Advisory known).getD false)=true then 0 else 4):=by
 have inner:∀(l:List Zad),(seqK (forL (σ:=Unit) (τ:=Unit) (ρ:=Ex Unit Unit Int) l (fun _ e _=>if (!((mget kEqS e.Advisory known).getD false))=true then (some (.ret (.ret 4))) else (some (.next ()))) (fun _=>()) ()) fun _=>some (.next ())) =
   some (if (!(l.all fun e=>(mget kEqS e.Advisory known).getD false))=true then .ret 4 else .next ()):=by
  intro l
  rw[Zfn (fun _ e=> !((mget kEqS e.Advisory known).getD false)) (fun _ _=> .ret 4)]
  ·have:=Zgp (fun e:Zad=> !((mget kEqS e.Advisory known).getD false)) l 0
   rw[List.all_eq_not_any_not,←this]
   cases firstI (fun _ (e:Zad)=> !((mget kEqS e.Advisory known).getD false)) l 0<;>simp[seqK]
  ·intro i x _;exact ex_ite _ _
 rw[Zfn (fun _ r=> !(r.Exposures.all fun e=>(mget kEqS e.Advisory known).getD false)) (fun _ _=>4)]
 ·have:=Zgp (fun r:Zag=> !(r.Exposures.all fun e=>(mget kEqS e.Advisory known).getD false)) rs 0
  rw[List.all_eq_not_any_not,←this]
  cases firstI (fun _ (r:Zag)=> !(r.Exposures.all fun e=>(mget kEqS e.Advisory known).getD false)) rs 0<;>simp[seqK]
 ·intro i x _;exact inner x.Exposures
theorem mapLoop {ρ:Type} (l:List Zac):forL (σ:=List (Str × Bool)) (τ:=List (Str × Bool)) (ρ:=ρ) l (fun _ x m=>some (.next (mset kEqS x.Advisory true m))) (fun m=>m) []=some (.inl (knownMap l)) :=
 (forL_map (fun (x:Zac) m=>mset kEqS x.Advisory true m) [] (fun _ _=>True) trivial (fun _ _ _ _ _=>⟨rfl,trivial⟩)).1
theorem knownLoop {ρ:Type} (ret:Int→ρ) {l:List Zac} (hl:l.length≤2000):forL (σ:=List (Str × Bool)) (τ:=List (Str × Bool)) (ρ:=ρ) l (fun i x m=>if (!nameOk x.Advisory)=true then some (.ret (ret 8))
      else if prevB l i (fun y=>sLt x.Advisory.b y.Advisory.b || sEq x.Advisory.b y.Advisory.b)=true then some (.ret (ret 10))
      else if ((!dayOk x.Day) || ((x.Ended != (-1)) && ((decide (x.Ended<x.Day)) || (decide (x.Ended>1000000)))))=true then some (.ret (ret 9)) else some (.next (mset kEqS x.Advisory true m))) (fun m=>m) [] =
    some (if ksFault l≠0 then .inr (ret (ksFault l)) else .inl (knownMap l)):=by
  rw[ZcS]
  have key:∀(q:List Zac) (i:Nat) (m:List (Str × Bool)),l.drop i=q→goL (σ:=List (Str × Bool)) (τ:=List (Str × Bool)) (ρ:=ρ) (fun i x m=>if (!nameOk x.Advisory)=true then some (.ret (ret 8))
      else if prevB l i (fun y=>sLt x.Advisory.b y.Advisory.b || sEq x.Advisory.b y.Advisory.b)=true then some (.ret (ret 10))
      else if ((!dayOk x.Day) || ((x.Ended != (-1)) && ((decide (x.Ended<x.Day)) || (decide (x.Ended>1000000)))))=true then some (.ret (ret 9)) else some (.next (mset kEqS x.Advisory true m))) (fun m=>m) q i m =
      some (match firstI (fun i x=>decide (kFault l i x≠0)) q i with | some e=> .inr (ret (kFault l e.1 e.2)) | none=> .inl (q.foldl (fun m x=>mset kEqS x.Advisory true m) m)):=by
    intro q
    induction q with
    | nil=>intro i m _;rfl
    | cons x q ih =>
      intro i m hd
      have hn:=ih (i+1) (mset kEqS x.Advisory true m) (by rw[←List.drop_drop,hd];rfl)
      simp only[goL,firstI]
      have hk:kFault l i x=(if nameOk x.Advisory=false then 8 else if prevB l i (fun y=>sLt x.Advisory.b y.Advisory.b || sEq x.Advisory.b y.Advisory.b)=true then 10
        else if ((!dayOk x.Day) || ((x.Ended != (-1)) && ((decide (x.Ended<x.Day)) || (decide (x.Ended>1000000)))))=true then 9 else 0):=rfl
      cases h1:nameOk x.Advisory with
      | false=>rw[h1] at hk;simp at hk;simp[hk]
      | true =>
        cases h2:prevB l i (fun y=>sLt x.Advisory.b y.Advisory.b || sEq x.Advisory.b y.Advisory.b) with
        | true=>rw[h1,h2] at hk;simp at hk;simp[hk]
        | false =>
          cases h3:((!dayOk x.Day) || ((x.Ended != (-1)) && ((decide (x.Ended<x.Day)) || (decide (x.Ended>1000000))))) with
          | true=>rw[h1,h2,h3] at hk;simp at hk;simp[hk]
          | false =>
            rw[h1,h2,h3] at hk;simp at hk
            simp only[hk,Bool.not_true,Bool.false_eq_true,if_false,Option.bind_some,ne_eq,not_true_eq_false,decide_false]
            exact hn
  rw[key l 0 [] rfl]
  unfold ksFault
  cases hf:firstI (fun i x=>decide (kFault l i x≠0)) l 0 with
  | none=>simp[knownMap]
  | some e =>
    obtain⟨j,_,_,h3⟩:=ZeW hf
    simp only[decide_eq_true_eq] at h3
    simp[h3]
theorem Zhy {s:Zam} {e:Int} (h:relLoop s=some (.inr e)):e≠0:=by
 obtain⟨i,x,m,_,hb⟩:=forL_ret h
 revert hb;intro hb
 split at hb
 ·cases hb;decide
 ·split at hb
  ·cases hb;decide
  ·split at hb
   ·cases hb;decide
   ·split at hb
    ·cases hb;decide
    ·split at hb
     ·rename_i h5;cases hb;simpa using h5
     ·cases hb
theorem ref11_Check_eq (s:Zam):ZbS s=some (sFault s):=by
  unfold ZbS sFault
  simp only[Zdr,ZfI,Zdq,Option.bind_some]
  cases nameOk s.Product with
  | false=>rfl
  | true =>
    cases dayOk s.Until with
    | false=>rfl
    | true =>
      by_cases hl:500<s.Releases.length∨2000<s.Known.length
      · rw[if_neg (by simp),if_neg (by simp),if_pos (by simp;omega)]
        simp[hl]
      · rw[if_neg (by simp),if_neg (by simp),if_neg (by simp;omega)]
        rw[if_neg (by simp),if_neg (by simp),if_neg hl]
        rw[show forL (σ:=(List (Str × Bool))) (τ:=Unit) (ρ:=Int) s.Releases _ _ _=relLoop s from Zgn (fun i x m hx=>by
          rw[gAnd_idx (f:=fun y=>decide (x.Day≤y.Day)) (by omega) hx])]
        obtain⟨y,hy⟩:=Ze5 s
        rw[hy]
        cases y with
        | inr e=>rfl
        | inl u =>
          simp only[seqK,Option.bind_some,ZfU (l:=s.Known) (by omega)]
          by_cases hk:ksFault s.Known=0
          · simp only[hk,bne_self_eq_false,Bool.false_eq_true,if_false,ne_eq,not_true_eq_false]
            rw[mapLoop]
            exact last_loop _ _
          · rw[if_pos (by simpa using hk),if_pos hk]
theorem Zfb (s:Zam):ZbW s=some (sFault s):=by
  unfold ZbW sFault
  simp only[ZdK,ZgM,Option.bind_some]
  cases nameOk s.Product with
  | false=>rfl
  | true =>
    cases dayOk s.Until with
    | false=>rfl
    | true =>
      by_cases hl:500<s.Releases.length∨2000<s.Known.length
      · rw[if_neg (by simp),if_neg (by simp),if_pos (by simp;omega)]
        simp[hl]
      · rw[if_neg (by simp),if_neg (by simp),if_neg (by simp;omega)]
        rw[if_neg (by simp),if_neg (by simp),if_neg hl]
        have hr:ZbY s=seqK (relLoop s) (fun _=>some 0):=by
          unfold ZbY
          simp only[ZdK,ZeG,Option.bind_some]
          rw[show forL (σ:=(List (Str × Bool))) (τ:=Unit) (ρ:=Int) s.Releases _ _ _=relLoop s from Zgn (fun i x m hx=>by
            rw[gAnd_idx (f:=fun y=>decide (x.Day≤y.Day)) (by omega) hx])]
        rw[hr]
        obtain⟨y,hy⟩:=Ze5 s
        rw[hy]
        cases y with
        | inr e =>
          have he:=Zhy hy
          simp only[seqK,Option.bind_some]
          rw[if_pos (by simpa using he)]
        | inl u =>
          simp only[seqK,Option.bind_some,bne_self_eq_false,Bool.false_eq_true,if_false]
          rw[show forL (σ:=List (Str × Bool)) (τ:=List (Str × Bool)) (ρ:=Int) s.Known _ _ _=_ from (Zgn (fun i x m hx=>by
            rw[gAnd_idx (f:=fun y=>sLt x.Advisory.b y.Advisory.b || sEq x.Advisory.b y.Advisory.b) (by omega) hx])).trans (knownLoop (fun e=>e) (by omega))]
          by_cases hk:ksFault s.Known=0
          · rw[if_neg (by simp[hk])]
            simp only[Option.bind_some,hk,ne_eq,not_true_eq_false,if_false]
            exact last_loop _ _
          · rw[if_pos hk]
            simp[hk]
end Go.Abs
