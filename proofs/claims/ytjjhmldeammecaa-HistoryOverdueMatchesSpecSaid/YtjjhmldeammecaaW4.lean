/-
  Walks of Go's library:search in what is in order.
-/
import Derived.Test.YtjjhmldeammecaaW3
namespace Go.Abs
open Go Go.Proofs
set_option maxRecDepth 4000
theorem isNaN140 (n:Int):APure Try.prog 140 [.p (vi n)] (.p (vb false)):=by
  refine apure 1 rf140_ok rfl ?_
  simp only[rf140,ro,rm,rb,rg,rF]
  (repeat (any_goals (first
    | ((first
        | refine Zaf fun K hK=>?_
        | refine ZaS fun K hK=>?_
        | refine Zaj ?_
        | refine aw_d ?_);simp only[go_sem,bne_self_eq_false];(try (refine IsK.go (by assumption) ?_;clear hK));(repeat (refine IsQ.go (by assumption) ?_;(try dsimp only);(try simp only[reduceCtorEq,E0]))))
    | (refine Zaw ?_;(repeat (refine IsQ.go (by assumption) ?_;(try dsimp only);(try simp only[reduceCtorEq,E0])));simp only[go_sem])
    | (refine Zah fun Q hQ=>?_)
    | (refine Zai fun Q hQ=>?_)
    | (refine Zan ?_;(repeat (refine IsQ.go (by assumption) ?_;(try dsimp only);(try simp only[reduceCtorEq,E0]))))
    | (refine Zax ?_;(repeat (refine IsQ.go (by assumption) ?_;(try dsimp only);(try simp only[reduceCtorEq,E0]))))
    | (refine Zay rfl ?_ ?_<;>intro hc<;>(try simp only[reduceCtorEq,HC0] at hc))
    | ((first
        | refine Zap rfl ?_ ?_
        | refine ZaI rfl ?_ ?_)<;>intro hg<;>simp only[hg,go_sem,bne_self_eq_false]<;>(try simp only[reduceCtorEq,HC0] at hg)<;>(try (refine IsK.go (by assumption) ?_;clear hK))<;>(repeat (refine IsQ.go (by assumption) ?_;(try dsimp only);(try simp only[reduceCtorEq,E0])))))))
theorem isNaN109 (n:Int):APure Try.prog 109 [.p (vi n)] (.p (vb false)):=by
  refine apure 1 rf109_ok rfl ?_
  simp only[rf109,ro,rm,rb,rg,rF]
  (repeat (any_goals (first
    | ((first
        | refine Zaf fun K hK=>?_
        | refine ZaS fun K hK=>?_
        | refine Zaj ?_
        | refine aw_d ?_);simp only[go_sem,bne_self_eq_false];(try (refine IsK.go (by assumption) ?_;clear hK));(repeat (refine IsQ.go (by assumption) ?_;(try dsimp only);(try simp only[reduceCtorEq,E0]))))
    | (refine Zaw ?_;(repeat (refine IsQ.go (by assumption) ?_;(try dsimp only);(try simp only[reduceCtorEq,E0])));simp only[go_sem])
    | (refine Zah fun Q hQ=>?_)
    | (refine Zai fun Q hQ=>?_)
    | (refine Zan ?_;(repeat (refine IsQ.go (by assumption) ?_;(try dsimp only);(try simp only[reduceCtorEq,E0]))))
    | (refine Zax ?_;(repeat (refine IsQ.go (by assumption) ?_;(try dsimp only);(try simp only[reduceCtorEq,E0]))))
    | (refine Zay rfl ?_ ?_<;>intro hc<;>(try simp only[reduceCtorEq,HC0] at hc))
    | ((first
        | refine Zap rfl ?_ ?_
        | refine ZaI rfl ?_ ?_)<;>intro hg<;>simp only[hg,go_sem,bne_self_eq_false]<;>(try simp only[reduceCtorEq,HC0] at hg)<;>(try (refine IsK.go (by assumption) ?_;clear hK))<;>(repeat (refine IsQ.go (by assumption) ?_;(try dsimp only);(try simp only[reduceCtorEq,E0])))))))
theorem less108 (a b:Int):APure Try.prog 108 [.p (vi a),.p (vi b)] (.p (vb (decide (a<b)))):=by
  refine apure 1 rf108_ok rfl ?_
  simp only[rf108,ro,rm,rp,rb,rg,rT,rF]
  (repeat (any_goals (first
    | ((first
        | refine Zaf fun K hK=>?_
        | refine ZaS fun K hK=>?_
        | refine Zaj ?_
        | refine aw_d ?_);simp only[go_sem];(try (refine IsK.go (by assumption) ?_;clear hK));(repeat (refine IsQ.go (by assumption) ?_;(try dsimp only);(try simp only[reduceCtorEq,E0]))))
    | (refine Zaw ?_;(repeat (refine IsQ.go (by assumption) ?_;(try dsimp only);(try simp only[reduceCtorEq,E0])));simp only[go_sem])
    | (refine Zah fun Q hQ=>?_)
    | (refine Zai fun Q hQ=>?_)
    | (refine Zan ?_;(repeat (refine IsQ.go (by assumption) ?_;(try dsimp only);(try simp only[reduceCtorEq,E0]))))
    | (refine Zax ?_;(repeat (refine IsQ.go (by assumption) ?_;(try dsimp only);(try simp only[reduceCtorEq,E0]))))
    | (refine Zay rfl ?_ ?_<;>intro hc<;>(try simp only[reduceCtorEq,HC0] at hc))
    | ((first
        | refine Zap rfl ?_ ?_
        | refine ZaI rfl ?_ ?_)<;>intro hg<;>simp only[hg,go_sem]<;>(try simp only[reduceCtorEq,HC0] at hg)<;>(try (refine IsK.go (by assumption) ?_;clear hK))<;>(repeat (refine IsQ.go (by assumption) ?_;(try dsimp only);(try simp only[reduceCtorEq,E0])))))))
  refine Zcd (isNaN140 a) 1 (by simp only[go_sem]) (by simp only[ZaC,ZaH,and_self]) rfl ?_;(try dsimp only);(try simp only[go_sem]);(try (refine IsK.go (by assumption) ?_;clear hK));(repeat (refine IsQ.go (by assumption) ?_;(try dsimp only);(try simp only[reduceCtorEq,E0])))
  (repeat (any_goals (first
    | ((first
        | refine Zaf fun K hK=>?_
        | refine ZaS fun K hK=>?_
        | refine Zaj ?_
        | refine aw_d ?_);simp only[go_sem];(try (refine IsK.go (by assumption) ?_;clear hK));(repeat (refine IsQ.go (by assumption) ?_;(try dsimp only);(try simp only[reduceCtorEq,E0]))))
    | (refine Zaw ?_;(repeat (refine IsQ.go (by assumption) ?_;(try dsimp only);(try simp only[reduceCtorEq,E0])));simp only[go_sem])
    | (refine Zah fun Q hQ=>?_)
    | (refine Zai fun Q hQ=>?_)
    | (refine Zan ?_;(repeat (refine IsQ.go (by assumption) ?_;(try dsimp only);(try simp only[reduceCtorEq,E0]))))
    | (refine Zax ?_;(repeat (refine IsQ.go (by assumption) ?_;(try dsimp only);(try simp only[reduceCtorEq,E0]))))
    | (refine Zay rfl ?_ ?_<;>intro hc<;>(try simp only[reduceCtorEq,HC0] at hc))
    | ((first
        | refine Zap rfl ?_ ?_
        | refine ZaI rfl ?_ ?_)<;>intro hg<;>simp only[hg,go_sem]<;>(try simp only[reduceCtorEq,HC0] at hg)<;>(try (refine IsK.go (by assumption) ?_;clear hK))<;>(repeat (refine IsQ.go (by assumption) ?_;(try dsimp only);(try simp only[reduceCtorEq,E0])))))))
theorem half (a b:Nat) (h:a≤b) (hb:b≤140737488355328):IntKind.i64.wrap ((IntKind.u64.wrap (IntKind.i64.wrap ((a:Int)+(b:Int)))).fdiv (2 ^ (Nat.min (Int.toNat 1) 64)))=(((a+b) / 2:Nat):Int):=by
 rw[show IntKind.i64.wrap ((a:Int)+(b:Int))=(a:Int)+b from wrap64 (by omega) (by omega),show IntKind.u64.wrap ((a:Int)+b)=(a:Int)+b from ?_]
 ·rw[show (2:Int) ^ (Nat.min (Int.toNat 1) 64)=2 from rfl,Int.fdiv_eq_ediv_of_nonneg _ (by decide),wrap64 (by omega) (by omega)]
  omega
 ·rw[show IntKind.u64.wrap ((a:Int)+b)=((a:Int)+b) % 18446744073709551616 by simp[IntKind.wrap,IntKind.bits,IntKind.signed]]
  omega
theorem search125 (f:FuncId) (caps:List AV) (n:Nat) (p:Nat→Bool) (hf:enters Try.prog f=true) (hcl:∀i,i<n→APure Try.prog f (.p (vi i) :: caps) (.p (vb (p i)))) (hb:ZaC 0 caps) (hm:∀i j,i≤j→j<n→p i=true→p j=true) (hn:n≤140737488355328) :
    APure Try.prog 125 [.p (vi n),.fn (.func f) [] caps] (.p (vi (first p n))):=by
  refine apure 1 rf125_ok rfl ?_
  simp only[rf125,rk,ro,rm,rb,rg]
  (repeat (any_goals (first
    | ((first
        | refine Zaf fun K hK=>?_
        | refine ZaS fun K hK=>?_
        | refine Zaj ?_
        | refine aw_d ?_);simp only[go_sem];(try (refine IsK.go (by assumption) ?_;clear hK));(repeat (refine IsQ.go (by assumption) ?_;(try dsimp only);(try simp only[reduceCtorEq,E0]))))
    | (refine Zaw ?_;(repeat (refine IsQ.go (by assumption) ?_;(try dsimp only);(try simp only[reduceCtorEq,E0])));simp only[go_sem])
    | (refine Zah fun Q hQ=>?_)
    | (refine Zai fun Q hQ=>?_)
    | (refine Zan ?_;(repeat (refine IsQ.go (by assumption) ?_;(try dsimp only);(try simp only[reduceCtorEq,E0]))))
    | (refine Zax ?_;(repeat (refine IsQ.go (by assumption) ?_;(try dsimp only);(try simp only[reduceCtorEq,E0]))))
    | (refine Zay rfl ?_ ?_<;>intro hc<;>(try simp only[reduceCtorEq,HC0] at hc))
    | ((first
        | refine Zap rfl ?_ ?_
        | refine ZaI rfl ?_ ?_)<;>intro hg<;>simp only[hg,go_sem]<;>(try simp only[reduceCtorEq,HC0] at hg)<;>(try (refine IsK.go (by assumption) ?_;clear hK))<;>(repeat (refine IsQ.go (by assumption) ?_;(try dsimp only);(try simp only[reduceCtorEq,E0])))))))
  refine Zf7 (fun ij:Nat × Nat=>⟨[(5,.p (vi ij.1)),(6,.p (vi ij.2)),(1,.fn (.func f) [] caps)],[],0⟩) (fun ij=>ij.2 - ij.1) (fun ij=>ij.1≤ij.2∧ij.2≤n∧(∀j,j<ij.1→p j=false)∧(ij.2<n→p ij.2=true)) (0,n) ⟨Nat.zero_le _,Nat.le_refl _,fun j hj=>by omega,fun h=>by simp at h⟩ (Upd.sub (Nat.le_refl _) (by simp[Zaq,Env.get,ZaH,ZaC,hb]) (by simp[Zao])) ?_
  rintro⟨i,j⟩ ⟨h1,h2,h3,h4⟩ Q hQ
  simp only at h1 h2 h3 h4
  by_cases hlt:i<j
  · have hd:decide ((i:Int)<(j:Int))=true:=by simp;omega
    have hh:=half i j h1 (by omega)
    have hw:IntKind.i64.wrap ((((i+j) / 2:Nat):Int)+1)=(((i+j) / 2+1:Nat):Int):=by rw[wrap64 (by omega) (by omega)];simp
    (repeat (any_goals (first
    | ((first
        | refine Zaf fun K hK=>?_
        | refine ZaS fun K hK=>?_
        | refine Zaj ?_
        | refine aw_d ?_);simp only[go_sem,hd,hh];(try (refine IsK.go (by assumption) ?_;clear hK));(repeat (refine IsQ.go (by assumption) ?_;(try dsimp only);(try simp only[reduceCtorEq,E0]))))
    | (refine Zaw ?_;(repeat (refine IsQ.go (by assumption) ?_;(try dsimp only);(try simp only[reduceCtorEq,E0])));simp only[go_sem,hd,hh,hw])
    | (refine Zah fun Q hQ=>?_)
    | (refine Zai fun Q hQ=>?_)
    | (refine Zan ?_;(repeat (refine IsQ.go (by assumption) ?_;(try dsimp only);(try simp only[reduceCtorEq,E0]))))
    | (refine Zax ?_;(repeat (refine IsQ.go (by assumption) ?_;(try dsimp only);(try simp only[reduceCtorEq,E0]))))
    | (refine Zay rfl ?_ ?_<;>intro hc<;>(try simp only[HC0] at hc))
    | ((first
        | refine Zap rfl ?_ ?_
        | refine ZaI rfl ?_ ?_)<;>intro hg<;>simp only[hg,go_sem,hd,hh,hw]<;>(try simp only[reduceCtorEq,HC0] at hg)<;>(try (refine IsK.go (by assumption) ?_;clear hK))<;>(repeat (refine IsQ.go (by assumption) ?_;(try dsimp only);(try simp only[reduceCtorEq,E0])))))))
    refine⟨hf,Zar (hcl ((i+j) / 2) (by omega)) rfl ⟨trivial,hb⟩ trivial ?_⟩
    simp only[go_sem]
    (try (refine IsK.go (by assumption) ?_;clear hK))
    (repeat (any_goals (first
    | ((first
        | refine Zaf fun K hK=>?_
        | refine ZaS fun K hK=>?_
        | refine Zaj ?_
        | refine aw_d ?_);simp only[go_sem,hw];(try (refine IsK.go (by assumption) ?_;clear hK));(repeat (refine IsQ.go (by assumption) ?_;(try dsimp only);(try simp only[reduceCtorEq,E0]))))
    | (refine Zaw ?_;(repeat (refine IsQ.go (by assumption) ?_;(try dsimp only);(try simp only[reduceCtorEq,E0])));simp only[go_sem,hw])
    | (refine Zah fun Q hQ=>?_)
    | (refine Zai fun Q hQ=>?_)
    | (refine Zan ?_;(repeat (refine IsQ.go (by assumption) ?_;(try dsimp only);(try simp only[reduceCtorEq,E0]))))
    | (refine Zax ?_;(repeat (refine IsQ.go (by assumption) ?_;(try dsimp only);(try simp only[reduceCtorEq,E0]))))
    | (refine Zay rfl ?_ ?_<;>intro hc<;>(try simp only[HC0] at hc))
    | ((first
        | refine Zap rfl ?_ ?_
        | refine ZaI rfl ?_ ?_)<;>intro hg<;>simp only[hg,go_sem,hw]<;>(try simp only[reduceCtorEq,HC0] at hg)<;>(try (refine IsK.go (by assumption) ?_;clear hK))<;>(repeat (refine IsQ.go (by assumption) ?_;(try dsimp only);(try simp only[reduceCtorEq,E0])))))))
    · have hp:p ((i+j) / 2)=false:=by simpa using hc
      refine⟨((i+j) / 2+1,j),⟨by simp only;omega,h2,fun k hk=>?_,h4⟩,by simp only;omega,(Upd.sub (Nat.le_refl _) (by simp[Zaq,Env.get,ZaH,ZaC,hb]) (by simp[Zao]))⟩
      cases hpk:p k with
      | false=>rfl
      | true=>rw[hm k ((i+j) / 2) (by simp only at hk;omega) (by omega) hpk] at hp;cases hp
    · have hp:p ((i+j) / 2)=true:=by simpa using hc
      exact⟨(i,(i+j) / 2),⟨by simp only;omega,by simp only;omega,h3,fun _=>hp⟩,by simp only;omega,(Upd.sub (Nat.le_refl _) (by simp[Zaq,Env.get,ZaH,ZaC,hb]) (by simp[Zao]))⟩
  · have hd:decide ((i:Int)<(j:Int))=false:=by simp;omega
    (repeat (any_goals (first
    | ((first
        | refine Zaf fun K hK=>?_
        | refine ZaS fun K hK=>?_
        | refine Zaj ?_
        | refine aw_d ?_);simp only[go_sem,hd];(try (refine IsK.go (by assumption) ?_;clear hK));(repeat (refine IsQ.go (by assumption) ?_;(try dsimp only);(try simp only[reduceCtorEq,E0]))))
    | (refine Zaw ?_;(repeat (refine IsQ.go (by assumption) ?_;(try dsimp only);(try simp only[reduceCtorEq,E0])));simp only[go_sem])
    | (refine Zah fun Q hQ=>?_)
    | (refine Zai fun Q hQ=>?_)
    | (refine Zan ?_;(repeat (refine IsQ.go (by assumption) ?_;(try dsimp only);(try simp only[reduceCtorEq,E0]))))
    | (refine Zax ?_;(repeat (refine IsQ.go (by assumption) ?_;(try dsimp only);(try simp only[E0]))))
    | (refine Zay rfl ?_ ?_<;>intro hc<;>(try simp only[HC0] at hc))
    | ((first
        | refine Zap rfl ?_ ?_
        | refine ZaI rfl ?_ ?_)<;>intro hg<;>simp only[hg,go_sem,hd]<;>(try simp only[reduceCtorEq,HC0] at hg)<;>(try (refine IsK.go (by assumption) ?_;clear hK))<;>(repeat (refine IsQ.go (by assumption) ?_;(try dsimp only);(try simp only[reduceCtorEq,E0])))))))
    have:i=j:=by omega
    subst this
    rw[first_eq h2 h3 h4]
theorem rising_lt {l:List Int} (hs:l.Pairwise (· < ·)) {i j:Nat} (h:i<j) {x y:Int} (hx:l[i]? =some x) (hy:l[j]? =some y):x<y:=by
 obtain⟨h1,rfl⟩:=List.getElem?_eq_some_iff.1 hx
 obtain⟨h2,rfl⟩:=List.getElem?_eq_some_iff.1 hy
 exact List.pairwise_iff_getElem.1 hs i j h1 h2 h
theorem below_eq {l:List Int} {t:Int} (hs:l.Pairwise (· < ·)):∀ {i:Nat},i≤l.length→(∀j x,j<i→l[j]? =some x→x<t)→(∀j x,i≤j→l[j]? =some x→t≤x)→below l t=i:=by
 induction l with
 | nil=>intro i hi _ _;simp at hi;simp[below,hi]
 | cons a l ih =>
  intro i hi h1 h2
  rw[List.pairwise_cons] at hs
  cases i with
  | zero =>
   have h0:∀x∈a :: l,¬x<t:=by
    intro x hx
    obtain⟨k,hk,he⟩:=List.getElem_of_mem hx
    have:=h2 k x (Nat.zero_le _) (List.getElem?_eq_some_iff.2 ⟨hk,he⟩)
    omega
   rw[below,List.filter_eq_nil_iff.2 (by simpa using h0)];rfl
  | succ i =>
   have ha:a<t:=h1 0 a (by omega) rfl
   have:=ih hs.2 (i:=i) (by simpa using hi) (fun j x hj hx=>h1 (j+1) x (by omega) (by simpa using hx)) (fun j x hj hx=>h2 (j+1) x (by omega) (by simpa using hx))
   rw[below] at this ⊢
   rw[List.filter_cons_of_pos (by simpa using ha),List.length_cons,this]
theorem bsearch53 (l:List Int) (t:Int) (hs:l.Pairwise (· < ·)) (hlim:l.length≤140737488355328):APure Try.prog 53 [.p (ints l),.p (vi t)] (.tup [.p (vi (below l t)),.p (vb (decide (t∈l)))]):=by
  refine apure 1 rf53_ok rfl ?_
  simp only[rf53,rk,ro,rm,rp,rb,rg,rT,rF]
  (repeat (any_goals (first
    | ((first
        | refine Zaf fun K hK=>?_
        | refine ZaS fun K hK=>?_
        | refine Zaj ?_
        | refine aw_d ?_);simp only[go_sem];(try (refine IsK.go (by assumption) ?_;clear hK));(repeat (refine IsQ.go (by assumption) ?_;(try dsimp only);(try simp only[reduceCtorEq,E0]))))
    | (refine Zaw ?_;(repeat (refine IsQ.go (by assumption) ?_;(try dsimp only);(try simp only[reduceCtorEq,E0])));simp only[go_sem])
    | (refine Zah fun Q hQ=>?_)
    | (refine Zai fun Q hQ=>?_)
    | (refine Zan ?_;(repeat (refine IsQ.go (by assumption) ?_;(try dsimp only);(try simp only[reduceCtorEq,E0]))))
    | (refine Zax ?_;(repeat (refine IsQ.go (by assumption) ?_;(try dsimp only);(try simp only[reduceCtorEq,E0]))))
    | (refine Zay rfl ?_ ?_<;>intro hc<;>(try simp only[reduceCtorEq,HC0] at hc))
    | ((first
        | refine Zap rfl ?_ ?_
        | refine ZaI rfl ?_ ?_)<;>intro hg<;>simp only[hg,go_sem]<;>(try simp only[reduceCtorEq,HC0] at hg)<;>(try (refine IsK.go (by assumption) ?_;clear hK))<;>(repeat (refine IsQ.go (by assumption) ?_;(try dsimp only);(try simp only[reduceCtorEq,E0])))))))
  refine Zf7 (fun ij:Nat × Nat=>⟨[(7,.p (vi ij.1)),(8,.p (vi ij.2)),(6,.p (vi l.length)),(0,.p (ints l)),(1,.p (vi t))],[],0⟩) (fun ij=>ij.2 - ij.1) (fun ij=>ij.1≤ij.2∧ij.2≤l.length∧(∀j x,j<ij.1→l[j]? =some x→x<t)∧(∀j x,ij.2≤j→l[j]? =some x→t≤x)) (0,l.length) ⟨Nat.zero_le _,Nat.le_refl _,fun j x hj=>by omega,fun j x hj hx=>by have:=ZaB hx;simp at hj;omega⟩ (Upd.sub (Nat.le_refl _) (by simp[Zaq,Env.get,ZaH]) (by simp[Zao])) ?_
  rintro⟨i,j⟩ ⟨h1,h2,h3,h4⟩ Q hQ
  simp only at h1 h2 h3 h4
  by_cases hlt:i<j
  · have hd:decide ((i:Int)<(j:Int))=true:=by simp;omega
    have hh:=half i j h1 (by omega)
    have hw:IntKind.i64.wrap ((((i+j) / 2:Nat):Int)+1)=(((i+j) / 2+1:Nat):Int):=by rw[wrap64 (by omega) (by omega)];simp
    obtain⟨y,hy⟩:∃y,l[(i+j) / 2]? =some y:=⟨l[(i+j) / 2]'(by omega),by simp[show (i+j) / 2<l.length by omega]⟩
    (repeat (any_goals (first
    | ((first
        | refine Zaf fun K hK=>?_
        | refine ZaS fun K hK=>?_
        | refine Zaj ?_
        | refine aw_d ?_);simp only[go_sem,hd,hh,List.getElem?_map,hy];(try (refine IsK.go (by assumption) ?_;clear hK));(repeat (refine IsQ.go (by assumption) ?_;(try dsimp only);(try simp only[reduceCtorEq,E0]))))
    | (refine Zaw ?_;(repeat (refine IsQ.go (by assumption) ?_;(try dsimp only);(try simp only[reduceCtorEq,E0])));simp only[go_sem,hd,hh,hw,List.getElem?_map,hy])
    | (refine Zah fun Q hQ=>?_)
    | (refine Zai fun Q hQ=>?_)
    | (refine Zan ?_;(repeat (refine IsQ.go (by assumption) ?_;(try dsimp only);(try simp only[reduceCtorEq,E0]))))
    | (refine Zax ?_;(repeat (refine IsQ.go (by assumption) ?_;(try dsimp only);(try simp only[reduceCtorEq,E0]))))
    | (refine Zay rfl ?_ ?_<;>intro hc<;>(try simp only[HC0] at hc))
    | ((first
        | refine Zap rfl ?_ ?_
        | refine ZaI rfl ?_ ?_)<;>intro hg<;>simp only[hg,go_sem,hd,hh,hw,List.getElem?_map,hy]<;>(try simp only[reduceCtorEq,HC0] at hg)<;>(try (refine IsK.go (by assumption) ?_;clear hK))<;>(repeat (refine IsQ.go (by assumption) ?_;(try dsimp only);(try simp only[reduceCtorEq,E0])))))))
    refine Zcd (less108 y t) 1 (by simp only[go_sem]) (by simp only[ZaC,ZaH,and_self]) rfl ?_;(try dsimp only);(try simp only[go_sem]);(try (refine IsK.go (by assumption) ?_;clear hK));(repeat (refine IsQ.go (by assumption) ?_;(try dsimp only);(try simp only[reduceCtorEq,E0])))
    (repeat (any_goals (first
    | ((first
        | refine Zaf fun K hK=>?_
        | refine ZaS fun K hK=>?_
        | refine Zaj ?_
        | refine aw_d ?_);simp only[go_sem,hw];(try (refine IsK.go (by assumption) ?_;clear hK));(repeat (refine IsQ.go (by assumption) ?_;(try dsimp only);(try simp only[reduceCtorEq,E0]))))
    | (refine Zaw ?_;(repeat (refine IsQ.go (by assumption) ?_;(try dsimp only);(try simp only[reduceCtorEq,E0])));simp only[go_sem,hw])
    | (refine Zah fun Q hQ=>?_)
    | (refine Zai fun Q hQ=>?_)
    | (refine Zan ?_;(repeat (refine IsQ.go (by assumption) ?_;(try dsimp only);(try simp only[reduceCtorEq,E0]))))
    | (refine Zax ?_;(repeat (refine IsQ.go (by assumption) ?_;(try dsimp only);(try simp only[reduceCtorEq,E0]))))
    | (refine Zay rfl ?_ ?_<;>intro hc<;>(try simp only[HC0] at hc))
    | ((first
        | refine Zap rfl ?_ ?_
        | refine ZaI rfl ?_ ?_)<;>intro hg<;>simp only[hg,go_sem,hw]<;>(try simp only[reduceCtorEq,HC0] at hg)<;>(try (refine IsK.go (by assumption) ?_;clear hK))<;>(repeat (refine IsQ.go (by assumption) ?_;(try dsimp only);(try simp only[reduceCtorEq,E0])))))))
    · refine⟨((i+j) / 2+1,j),⟨by simp only;omega,h2,fun k x hk hx=>?_,h4⟩,by simp only;omega,(Upd.sub (Nat.le_refl _) (by simp[Zaq,Env.get,ZaH]) (by simp[Zao]))⟩
      rcases Nat.lt_or_ge k ((i+j) / 2) with hk2 | hk2
      · have:=rising_lt hs hk2 hx hy;omega
      · have:k=(i+j) / 2:=by omega
        subst this
        rw[hy] at hx;cases hx;exact hc
    · refine⟨(i,(i+j) / 2),⟨by simp only;omega,by simp only;omega,h3,fun k x hk hx=>?_⟩,by simp only;omega,(Upd.sub (Nat.le_refl _) (by simp[Zaq,Env.get,ZaH]) (by simp[Zao]))⟩
      rcases Nat.lt_or_ge ((i+j) / 2) k with hk2 | hk2
      · have:=rising_lt hs hk2 hy hx;omega
      · have:k=(i+j) / 2:=by omega
        subst this
        rw[hy] at hx;cases hx;omega
  · have hd:decide ((i:Int)<(j:Int))=false:=by simp;omega
    have hij:i=j:=by omega
    subst hij
    have hbl:below l t=i:=below_eq hs h2 h3 h4
    cases hx:l[i]? with
    | none =>
      have hlen:=ZcE hx
      have hd2:decide ((i:Int)<(l.length:Int))=false:=by simp;omega
      have hno:¬t∈l:=by
        intro hm
        obtain⟨k,hk,he⟩:=List.getElem_of_mem hm
        have:=h3 k t (by omega) (by simp[hk,he])
        omega
      (repeat (any_goals (first
    | ((first
        | refine Zaf fun K hK=>?_
        | refine ZaS fun K hK=>?_
        | refine Zaj ?_
        | refine aw_d ?_);simp only[go_sem,hd,hd2];(try (refine IsK.go (by assumption) ?_;clear hK));(repeat (refine IsQ.go (by assumption) ?_;(try dsimp only);(try simp only[reduceCtorEq,E0]))))
    | (refine Zaw ?_;(repeat (refine IsQ.go (by assumption) ?_;(try dsimp only);(try simp only[reduceCtorEq,E0])));simp only[go_sem])
    | (refine Zah fun Q hQ=>?_)
    | (refine Zai fun Q hQ=>?_)
    | (refine Zan ?_;(repeat (refine IsQ.go (by assumption) ?_;(try dsimp only);(try simp only[reduceCtorEq,E0]))))
    | (refine Zax ?_;(repeat (refine IsQ.go (by assumption) ?_;(try dsimp only);(try simp only[E0]))))
    | (refine Zay rfl ?_ ?_<;>intro hc<;>(try simp only[HC0] at hc))
    | ((first
        | refine Zap rfl ?_ ?_
        | refine ZaI rfl ?_ ?_)<;>intro hg<;>simp only[hg,go_sem,hd,hd2]<;>(try simp only[reduceCtorEq,HC0] at hg)<;>(try (refine IsK.go (by assumption) ?_;clear hK))<;>(repeat (refine IsQ.go (by assumption) ?_;(try dsimp only);(try simp only[reduceCtorEq,E0])))))))
      rw[hbl,decide_eq_false hno]
    | some x =>
      have hlen:=ZaB hx
      have hd2:decide ((i:Int)<(l.length:Int))=true:=by simp;omega
      have hle:=h4 i x (Nat.le_refl _) hx
      (repeat (any_goals (first
    | ((first
        | refine Zaf fun K hK=>?_
        | refine ZaS fun K hK=>?_
        | refine Zaj ?_
        | refine aw_d ?_);simp only[go_sem,hd,hd2,List.getElem?_map,hx];(try (refine IsK.go (by assumption) ?_;clear hK));(repeat (refine IsQ.go (by assumption) ?_;(try dsimp only);(try simp only[reduceCtorEq,E0]))))
    | (refine Zaw ?_;(repeat (refine IsQ.go (by assumption) ?_;(try dsimp only);(try simp only[reduceCtorEq,E0])));simp only[go_sem])
    | (refine Zah fun Q hQ=>?_)
    | (refine Zai fun Q hQ=>?_)
    | (refine Zan ?_;(repeat (refine IsQ.go (by assumption) ?_;(try dsimp only);(try simp only[reduceCtorEq,E0]))))
    | (refine Zax ?_;(repeat (refine IsQ.go (by assumption) ?_;(try dsimp only);(try simp only[E0]))))
    | (refine Zay rfl ?_ ?_<;>intro hc<;>(try simp only[HC0] at hc))
    | ((first
        | refine Zap rfl ?_ ?_
        | refine ZaI rfl ?_ ?_)<;>intro hg<;>simp only[hg,go_sem,List.getElem?_map,hx]<;>(try simp only[HC0] at hg)<;>(try (refine IsK.go (by assumption) ?_;clear hK))<;>(repeat (refine IsQ.go (by assumption) ?_;(try dsimp only);(try simp only[reduceCtorEq,E0])))))))
      · have:t∈l:=by
          have e:x=t:=by simpa using hg
          rw[←e];exact List.mem_of_getElem? hx
        rw[hbl,decide_eq_true this]
      · have hne:¬x=t:=by simpa using hg
        have hno:¬t∈l:=by
          intro hm
          obtain⟨k,hk,he⟩:=List.getElem_of_mem hm
          have hk':l[k]? =some t:=by simp[hk,he]
          rcases Nat.lt_trichotomy k i with h | h | h
          · have:=h3 k t h hk';omega
          · subst h;rw[hx] at hk';cases hk';exact hne rfl
          · have:=rising_lt hs h hx hk';omega
        refine Zcd (isNaN109 x) 1 (by simp only[go_sem]) (by simp only[ZaC,ZaH,and_self]) rfl ?_;(try dsimp only);(try simp only[go_sem]);(try (refine IsK.go (by assumption) ?_;clear hK));(repeat (refine IsQ.go (by assumption) ?_;(try dsimp only);(try simp only[reduceCtorEq,E0])))
        (repeat (any_goals (first
    | ((first
        | refine Zaf fun K hK=>?_
        | refine ZaS fun K hK=>?_
        | refine Zaj ?_
        | refine aw_d ?_);simp only[go_sem];(try (refine IsK.go (by assumption) ?_;clear hK));(repeat (refine IsQ.go (by assumption) ?_;(try dsimp only);(try simp only[reduceCtorEq,E0]))))
    | (refine Zaw ?_;(repeat (refine IsQ.go (by assumption) ?_;(try dsimp only);(try simp only[reduceCtorEq,E0])));simp only[go_sem])
    | (refine Zah fun Q hQ=>?_)
    | (refine Zai fun Q hQ=>?_)
    | (refine Zan ?_;(repeat (refine IsQ.go (by assumption) ?_;(try dsimp only);(try simp only[reduceCtorEq,E0]))))
    | (refine Zax ?_;(repeat (refine IsQ.go (by assumption) ?_;(try dsimp only);(try simp only[reduceCtorEq,E0]))))
    | (refine Zay rfl ?_ ?_<;>intro hc<;>(try simp only[reduceCtorEq,HC0] at hc))
    | ((first
        | refine Zap rfl ?_ ?_
        | refine ZaI rfl ?_ ?_)<;>intro hg<;>simp only[hg,go_sem]<;>(try simp only[reduceCtorEq,HC0] at hg)<;>(try (refine IsK.go (by assumption) ?_;clear hK))<;>(repeat (refine IsQ.go (by assumption) ?_;(try dsimp only);(try simp only[reduceCtorEq,E0])))))))
        rw[hbl,decide_eq_false hno]
end Go.Abs
