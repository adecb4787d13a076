/-
  Plain facts of history:names,exposures,Compare.
-/
import Derived.Test.YtiohnbmhmhljbaaGreatDoorFHc
import Derived.Test.YtiohnbmhmhljbaaGreatDoorM3
namespace Go.Abs
open Go
def nameOk (s:Str):Bool:=visible s.b && decide (1≤s.b.size) && decide (s.b.size≤100)
theorem bytes_bad (s:ByteArray) {i:Nat} (hi:i<s.size):(decide (((s[i]'hi).toNat:Int)<33) || decide (((s[i]'hi).toNat:Int)>126))= !decide (33≤(s[i]'hi).toNat∧(s[i]'hi).toNat≤126):=by
 apply Bool.eq_iff_iff.2
 simp only[Bool.or_eq_true,decide_eq_true_eq,Bool.not_eq_true',decide_eq_false_iff_not]
 omega
theorem Zdr (v:Str):Zcg v=some (nameOk v):=by
 unfold Zcg
 have hs:=v.size_lim
 rw[show (0:Int)=((0:Nat):Int) from rfl,loopW_find v.b.size (fun i=>if h:i<v.b.size then !decide (33≤(v.b[i]'h).toNat∧(v.b[i]'h).toNat≤126) else false) (fun _=>false) (t:=()) ?_ v.b.size 0 (by omega) ?_]
 ·have hf:=find_vis v.b (fun i=>if h:i<v.b.size then !decide (33≤(v.b[i]'h).toNat∧(v.b[i]'h).toNat≤126) else false) (fun i hi=>by rw[dif_pos hi])
  cases hq:(List.range' 0 v.b.size).find? (fun i=>if h:i<v.b.size then !decide (33≤(v.b[i]'h).toNat∧(v.b[i]'h).toNat≤126) else false) with
  | none =>
   rw[hq] at hf
   have hv:visible v.b=true:=by simpa using hf.symm
   simp only[seqK,nameOk,hv,Option.bind_some,Bool.true_and,Option.some.injEq]
   congr 1<;>(apply decide_eq_decide.2;omega)
  | some j =>
   rw[hq] at hf
   have hv:visible v.b=false:=by simpa using hf.symm
   simp[seqK,nameOk,hv]
 ·simp
 ·intro j _ hj
  rw[if_pos (by simpa using hj),sidx_nat hj]
  simp only[Option.bind_some,bytes_bad v.b hj,dif_pos hj]
  rw[w64_succ (by omega)]
  cases decide (33≤(v.b[j]'hj).toNat∧(v.b[j]'hj).toNat≤126)<;>simp
theorem str_empty (v:Str):sEq v.b str_.b=decide (v.b.size=0):=by
 rw[Zd3]
 apply decide_eq_decide.2
 constructor
 ·rintro rfl;rfl
 ·intro h
  apply Str.ext'
  rw[str__b]
  apply ByteArray.ext
  apply Array.ext'
  have:v.b.data.toList.length=0:=h
  rw[List.eq_nil_of_length_eq_zero this]
theorem ZgJ (v:Str):ZdB v=some (visible v.b && decide (1≤v.b.size)):=by
 unfold ZdB
 rw[forN_find (fun i=>if h:i<v.b.size then !decide (33≤(v.b[i]'h).toNat∧(v.b[i]'h).toNat≤126) else false) (fun _=>false) v.b.size 0 ?_]
 ·have hf:=find_vis v.b (fun i=>if h:i<v.b.size then !decide (33≤(v.b[i]'h).toNat∧(v.b[i]'h).toNat≤126) else false) (fun i hi=>by rw[dif_pos hi])
  cases hq:(List.range' 0 v.b.size).find? (fun i=>if h:i<v.b.size then !decide (33≤(v.b[i]'h).toNat∧(v.b[i]'h).toNat≤126) else false) with
  | none =>
   rw[hq] at hf
   have hv:visible v.b=true:=by simpa using hf.symm
   simp only[seqK,hv,str_empty,Option.bind_some,Bool.true_and,Option.some.injEq]
   rw[←decide_not,decide_eq_decide];omega
  | some j =>
   rw[hq] at hf
   have hv:visible v.b=false:=by simpa using hf.symm
   simp[seqK,hv]
 ·intro j _ hj
  have hj:j<v.b.size:=by omega
  rw[sidx_nat hj]
  simp only[Option.bind_some,bytes_bad v.b hj,dif_pos hj]
  cases decide (33≤(v.b[j]'hj).toNat∧(v.b[j]'hj).toNat≤126)<;>simp
theorem ZdK (v:Str):ZbX v=some (nameOk v):=by
 simp only[ZbX,ZgJ,Option.bind_some,nameOk]
 congr 2
 apply decide_eq_decide.2;omega
def dayOk (d:Int):Bool:=decide (0≤d) && decide (d≤1000000)
theorem ZfI (d:Int):ZcN d=some (dayOk d):=by simp[ZcN,dayOk]
theorem ZgM (d:Int):Zcl d=some (dayOk d):=by simp[Zcl,dayOk]
def bef (a b:Zad):Bool:=sLt a.Advisory.b b.Advisory.b || (sEq a.Advisory.b b.Advisory.b && sLt a.Component.b b.Component.b)
theorem Zen (a b:Zad):ZdS a b=some (bef a b):=rfl
theorem ZdN (x y:Str):Zbm x y=some (cmpS x y):=by
 simp only[Zbm,ZcD,sEq_self,Bool.not_true,Option.bind_some,Bool.false_eq_true,if_false,cmpS,Zd3,Bool.not_eq_true',Bool.or_eq_false_iff,decide_eq_false_iff_not]
 split
 ·rfl
 ·split<;>simp_all
theorem cmp_Or_int_2 (a b:Int):Zdg [a,b]=some (if a≠0 then a else b):=by
 unfold Zdg
 rw[ZcS]
 by_cases ha:a=0
 ·by_cases hb:b=0<;>simp[goL,seqK,ha,hb]
 ·simp[goL,seqK,ha]
theorem Zfz (a b:Zal):Zcu a b=some (if cmpS a.advisory b.advisory≠0 then cmpS a.advisory b.advisory else cmpS a.component b.component):=by
 simp only[Zcu,ZdN,Option.bind_some,cmp_Or_int_2]
theorem order_bef (a b:Zad):decide ((if cmpS a.Advisory b.Advisory≠0 then cmpS a.Advisory b.Advisory else cmpS a.Component b.Component)≥0)= !bef a b:=by
 unfold cmpS bef
 rw[Zd3]
 cases sLt a.Advisory.b b.Advisory.b with
 | true=>simp
 | false =>
  by_cases h:a.Advisory=b.Advisory
  ·simp only[h,Bool.false_eq_true,if_false,if_true,ne_eq,not_true_eq_false,decide_true,Bool.true_and,Bool.false_or]
   cases sLt a.Component.b b.Component.b with
   | true=>simp
   | false=>simp;split<;>simp
  ·simp[h]
def eFault (l:List Zad) (i:Nat) (x:Zad):Int :=
 if (nameOk x.Advisory && nameOk x.Component)=false then 8 else if x.Severity<0∨100<x.Severity then 9
 else if 0<i∧∃y,l[i - 1]? =some y∧bef y x=false then 10 else 0
def esFault (l:List Zad):Int :=
 if 500<l.length then 3 else match firstI (fun i x=>decide (eFault l i x≠0)) l 0 with | some e=>eFault l e.1 e.2 | none=>0
theorem es_step {l:List Zad} (hl:l.length≤500) {i:Nat} {x:Zad} (hx:l[i]? =some x) {β:Type} (K:Bool→Option β) :
  (gAnd (decide ((i:Int)>0)) (Option.bind (idx l (w64 ((i:Int) - 1))) fun y=>some (!bef y x))).bind K=K (decide (0<i∧∃y,l[i - 1]? =some y∧bef y x=false)):=by
 have hi:=ZaB hx
 cases i with
 | zero=>simp[gAnd]
 | succ i =>
  have hy:l[i]? =some l[i]:=by simp
  rw[w64_pred (by omega),ZfN,hy]
  simp only[gAnd,Option.bind_some]
  rw[if_pos (by simp),Option.bind_some]
  congr 1
  apply Bool.eq_iff_iff.2
  rw[show i+1 - 1=i from rfl,hy]
  simp
theorem Zdq (l:List Zad):ZbK l=some (esFault l):=by
 unfold ZbK esFault
 by_cases hl:500<l.length
 ·rw[if_pos (by simp;omega),if_pos hl]
 ·rw[if_neg (by simp;omega),if_neg hl,Zfn (fun i x=>decide (eFault l i x≠0)) (eFault l)]
  ·cases firstI (fun i x=>decide (eFault l i x≠0)) l 0<;>rfl
  ·intro i x hx
   simp only[Zdr,Option.bind_some,Zen]
   rw[es_step (by omega) hx]
   unfold eFault
   cases h1:nameOk x.Advisory with
   | false=>simp[gOr]
   | true =>
    cases h2:nameOk x.Component with
    | false=>simp[gOr]
    | true =>
     by_cases h3:x.Severity<0∨100<x.Severity
     ·simp[gOr,h3]
     ·by_cases h4:0<i∧∃y,l[i - 1]? =some y∧bef y x=false
      ·simp only[gOr,h3,h4];simp;omega
      ·simp only[gOr,h3,h4];simp;omega
theorem ZeG (l:List Zad):ZbQ l=some (esFault l):=by
 rw[←Zdq]
 unfold ZbQ ZbK
 simp only[ZdK,Zdr,Option.bind_some,Zcf,Zfz,order_bef,Zen]
abbrev Exs:=List Zad
theorem esFault_len {l:Exs} (h:esFault l=0):l.length≤500:=by
 unfold esFault at h
 split at h
 ·cases h
 ·omega
theorem bef_trans {a b c:Zad} (h1:bef a b=true) (h2:bef b c=true):bef a c=true:=by
 unfold bef at *
 simp only[Zd3,Bool.or_eq_true,Bool.and_eq_true,decide_eq_true_eq] at *
 rcases h1 with h1 | ⟨e1,h1⟩<;>rcases h2 with h2 | ⟨e2,h2⟩
 ·exact .inl (ZhC h1 h2)
 ·rw[e2] at h1;exact .inl h1
 ·rw[e1];exact .inl h2
 ·exact .inr ⟨e1.trans e2,ZhC h1 h2⟩
theorem bef_ne {a b:Zad} (h:bef a b=true):(a.Advisory,a.Component)≠(b.Advisory,b.Component):=by
 intro e
 obtain⟨e1,e2⟩:=Prod.mk.inj e
 unfold bef at h
 rw[e1,e2,Zgw,Zgw] at h
 simp at h
theorem es_pairwise {l:Exs} (h:esFault l=0):l.Pairwise (fun a b=>bef a b=true):=by
 refine ZeH (R:=fun a b=>bef a b=true) (fun a b c h1 h2=>bef_trans h1 h2) ?_
 intro i a b ha hb
 unfold esFault at h
 split at h
 ·cases h
 ·cases hf:firstI (fun i x=>decide (eFault l i x≠0)) l 0 with
  | some e =>
   rw[hf] at h
   obtain⟨j,_,_,h3⟩:=ZeW hf
   simp only[decide_eq_true_eq] at h3
   exact absurd h h3
  | none =>
   have:=Zeg.1 hf (i+1) b hb
   simp only[Nat.zero_add,decide_eq_false_iff_not,ne_eq,Classical.not_not] at this
   unfold eFault at this
   split at this
   ·cases this
   ·split at this
    ·cases this
    ·split at this
     ·cases this
     ·rename_i h3
      cases hab:bef a b with
      | true=>rfl
      | false=>exact absurd ⟨by omega,a,by simpa using ha,hab⟩ h3
def keyE (x:Zad):Str × Str:=(x.Advisory,x.Component)
end Go.Abs
