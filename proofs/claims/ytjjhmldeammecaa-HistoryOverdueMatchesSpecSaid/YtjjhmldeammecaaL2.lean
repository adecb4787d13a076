/-
  Plain law:the quick count of work days is the count day by day.
-/
import Derived.Test.YtjjhmldeammecaaW5
namespace Go.Abs
open Go Go.Proofs
theorem part7_cons {a:Int} {l:List Int} (h0:0≤a) (h6:a≤6) (hn:a ∉ l):part (a :: l) 7+1=part l 7:=by
 have key:∀l:List Int,part l 7=(if (0:Int)∈l then 0 else 1)+(if (1:Int)∈l then 0 else 1)+(if (2:Int)∈l then 0 else 1)+(if (3:Int)∈l then 0 else 1)+(if (4:Int)∈l then 0 else 1)+(if (5:Int)∈l then 0 else 1)+(if (6:Int)∈l then 0 else 1):=by
  intro l
  rw[Zc9,Zc9,Zc9,Zc9,Zc9,Zc9,Zc9,show part l 0=0 from rfl,Nat.zero_add]
  rfl
 rw[key,key]
 rcases (by omega:a=0∨a=1∨a=2∨a=3∨a=4∨a=5∨a=6) with rfl | rfl | rfl | rfl | rfl | rfl | rfl<;>simp[hn]<;>omega
theorem part7:∀ {fr:List Int},(∀x∈fr,0≤x∧x≤6)→fr.Pairwise (· < ·)→part fr 7+fr.length=7
 | [],_,_=>rfl
 | a :: l,h,hs=>by
  rw[List.pairwise_cons] at hs
  have hn:a ∉ l:=fun hm=>absurd (hs.1 a hm) (by omega)
  have h1:=part7_cons (h a (by simp)).1 (h a (by simp)).2 hn
  have h2:=part7 (fun x hx=>h x (List.mem_cons_of_mem _ hx)) hs.2
  simp only[List.length_cons]
  omega
theorem below_cons (a:Int) (l:List Int) (t:Int):below (a :: l) t=below l t+if a<t then 1 else 0:=by
 by_cases h:a<t<;>simp[below,h]
theorem below_succ:∀ {l:List Int} (t:Int),l.Pairwise (· < ·)→below l (t+1)=below l t+if t∈l then 1 else 0
 | [],_,_=>by simp[below]
 | a :: l,t,hs=>by
  rw[List.pairwise_cons] at hs
  have ih:=below_succ t hs.2
  rw[below_cons,below_cons,ih]
  by_cases h1:a=t
  ·subst h1
   have hn:a ∉ l:=fun hm=>absurd (hs.1 a hm) (by omega)
   simp[hn];omega
  ·have h2:(a<t+1)↔(a<t):=by omega
   have h3:¬t=a:=fun e=>h1 e.symm
   simp only[h2,List.mem_cons,h3,false_or]
   omega
theorem wq_succ {fr hol:List Int} (hcal:CalOk fr hol) (n:Nat):(((n+1:Nat):Int).tdiv 7)*(7 - (fr.length:Int))+(part fr (((n+1:Nat):Int).tmod 7).toNat:Int)=((n:Int).tdiv 7)*(7 - (fr.length:Int))+(part fr ((n:Int).tmod 7).toNat:Int)+if (n:Int).tmod 7∈fr then 0 else 1:=by
 have e1:((n+1:Nat):Int).tdiv 7=(((n+1) / 7:Nat):Int):=by rw[Int.tdiv_eq_ediv_of_nonneg (by omega)];omega
 have e2:((n:Nat):Int).tdiv 7=((n / 7:Nat):Int):=by rw[Int.tdiv_eq_ediv_of_nonneg (by omega)];omega
 have e3:((n+1:Nat):Int).tmod 7=(((n+1) % 7:Nat):Int):=by rw[Int.tmod_eq_emod_of_nonneg (by omega)];omega
 have e4:((n:Nat):Int).tmod 7=((n % 7:Nat):Int):=by rw[Int.tmod_eq_emod_of_nonneg (by omega)];omega
 rw[e1,e2,e3,e4,Int.toNat_natCast,Int.toNat_natCast]
 have hp:=Zc9 fr (n % 7)
 by_cases h:n % 7=6
 ·have h7:=part7 hcal.fr7 hcal.frS
  have q:(n+1) / 7=n / 7+1:=by omega
  have r:(n+1) % 7=0:=by omega
  rw[q,r,show part fr 0=0 from rfl]
  rw[h] at hp ⊢
  rw[show 6+1=7 from rfl] at hp
  have hx:((n / 7+1:Nat):Int)*(7 - (fr.length:Int))=((n / 7:Nat):Int)*(7 - (fr.length:Int))+(7 - (fr.length:Int)):=by
   rw[Int.natCast_add,Int.add_mul];simp
  rw[hx]
  split<;>rename_i hm<;>simp only[hm,if_true,if_false] at hp<;>omega
 ·have q:(n+1) / 7=n / 7:=by omega
  have r:(n+1) % 7=n % 7+1:=by omega
  rw[q,r,hp]
  split<;>simp<;>omega
theorem Zge {fr hol:List Int} (hcal:CalOk fr hol):∀n:Nat,wcount fr hol n=cw fr hol 0 n
 | 0=>by
  have:below (hol.filter (notFree fr)) 0=0:=by
   rw[below,List.length_eq_zero_iff,List.filter_eq_nil_iff]
   intro x hx
   have:=(hcal.holM x (List.mem_filter.1 hx).1).1
   simp;omega
  simp only[wcount,cw]
  simp[this,part]
 | n+1=>by
  have ih:=Zge hcal n
  have h1:=wq_succ hcal n
  have h2:=below_succ (n:Int) (hcal.holS.filter (notFree fr))
  have hm:((n:Int)∈hol.filter (notFree fr))↔((n:Int)∈hol∧¬(n:Int).tmod 7∈fr):=by simp[List.mem_filter,notFree]
  have hw:isWork fr hol (0+(n:Int))=(!decide ((n:Int).tmod 7∈fr) && !decide ((n:Int)∈hol)):=by simp[isWork]
  simp only[wcount,cw,hw] at ih ⊢
  rw[h1,show ((n+1:Nat):Int)=(n:Int)+1 by simp,h2]
  generalize (n:Int).tdiv 7*(7 - (fr.length:Int))+(part fr ((n:Int).tmod 7).toNat:Int)=X at *
  generalize below (hol.filter (notFree fr)) (n:Int)=Y at *
  generalize cw fr hol 0 n=Z at *
  by_cases a:(n:Int).tmod 7∈fr<;>by_cases b:(n:Int)∈hol<;>simp only[a,b,hm,if_true,if_false,decide_true,decide_false,Bool.not_true,Bool.not_false,Bool.and_true,Bool.and_false,Bool.false_eq_true,not_true_eq_false,not_false_eq_true,and_true,and_false]<;>omega
theorem cw_split (fr hol:List Int) (a:Nat):∀n,cw fr hol a n+cw fr hol 0 a=cw fr hol 0 (a+n)
 | 0=>by simp[cw]
 | n+1=>by
  have:=cw_split fr hol a n
  rw[show a+(n+1)=(a+n)+1 from rfl]
  simp only[cw]
  rw[show (0:Int)+((a+n:Nat):Int)=(a:Int)+(n:Int) by simp]
  omega
theorem ZhA {fr hol:List Int} (hcal:CalOk fr hol) {a b:Int} (ha:0≤a) (hab:a≤b):wcount fr hol b - wcount fr hol a=cw fr hol a (b - a).toNat:=by
 obtain⟨m,rfl⟩:=Int.eq_ofNat_of_zero_le ha
 obtain⟨k,hk⟩:=Int.eq_ofNat_of_zero_le (show 0≤b - (m:Int) by omega)
 have hb:b=((m+k:Nat):Int):=by omega
 subst hb
 rw[Zge hcal,Zge hcal]
 have:=cw_split fr hol m k
 rw[show (((m+k:Nat):Int) - (m:Int)).toNat=k by omega]
 omega
end Go.Abs
