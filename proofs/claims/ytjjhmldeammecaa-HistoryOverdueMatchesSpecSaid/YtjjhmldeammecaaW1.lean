/-
  Walks of history:calendars.
-/
import Derived.Test.YtjjhmldeammecaaM3
import Derived.Test.YtjjhmldeammecaaRD
namespace Go.Abs
open Go Go.Proofs
set_option maxRecDepth 4000
abbrev ints (l:List Int):PV:= .sl (l.map fun x=> [vi x])
abbrev calP (fr hol:List Int):PV:= .agg [ints fr,ints hol]
theorem isDay72 (n:Int):APure Try.prog 72 [.p (vi n)] (.p (vb (decide (0≤n∧n≤1000000)))):=by
  refine apure 1 rf72_ok rfl ?_
  simp only[rf72,rk,ro,rm,rp,rb,rg,rF]
  (repeat (any_goals (first
    | ((first
        | refine Zaf fun K hK=>?_
        | refine ZaS fun K hK=>?_
        | refine Zaj ?_
        | refine aw_d ?_);simp only[go_sem];(try (refine IsK.go (by assumption) ?_;clear hK));(repeat (refine IsQ.go (by assumption) ?_;(try dsimp only);(try simp only[reduceCtorEq,E0]))))
    | (refine Zaw ?_;(repeat (refine IsQ.go (by assumption) ?_;(try dsimp only);(try simp only[reduceCtorEq,E0])));simp only[go_sem])
    | (refine Zah fun Q hQ=>?_)
    | (refine Zai fun Q hQ=>?_)
    | (refine Zan ?_;(repeat (refine IsQ.go (by assumption) ?_;(try dsimp only);(try simp only[reduceCtorEq,E0]))))
    | (refine Zax ?_;(repeat (refine IsQ.go (by assumption) ?_;(try dsimp only);(try simp only[reduceCtorEq,E0]))))
    | (refine Zay rfl ?_ ?_<;>intro hc<;>(try simp only[reduceCtorEq,HC0] at hc))
    | ((first
        | refine Zap rfl ?_ ?_
        | refine ZaI rfl ?_ ?_)<;>intro hg<;>simp only[hg,go_sem]<;>(try simp only[HC0] at hg)<;>(try (refine IsK.go (by assumption) ?_;clear hK))<;>(repeat (refine IsQ.go (by assumption) ?_;(try dsimp only);(try simp only[reduceCtorEq,E0])))))))
  all_goals simp[hg]
theorem ZhS {m:Int} {l:List Int} {i:Nat} (h:l[i]? =none):riseAt m l i=0:=by
 rw[riseAt,List.drop_eq_nil_of_le (ZcE h),rise]
theorem ZhI {m:Int} {l:List Int} {i:Nat} {x:Int} (h:l[i]? =some x):riseAt m l i=if x<0∨m<x then 9 else if 0<i∧∃q,l[i - 1]? =some q∧x≤q then 10 else riseAt m l (i+1):=by
 obtain⟨hl,rfl⟩:=List.getElem?_eq_some_iff.1 h
 rw[riseAt,List.drop_eq_getElem_cons hl,rise,riseAt]
 simp only[Nat.add_one_ne_zero,if_false,Nat.add_sub_cancel,List.getElem?_eq_getElem hl]
 by_cases hi:i=0
 ·subst hi;simp
 ·simp[hi,Nat.pos_of_ne_zero hi]
theorem ints_lim {fz:Nat→Option Obj} {l:List Int} {v:Value} (h:PRep fz (ints l) v):l.length≤top:=by simpa using ZbU h
theorem rising78 (l:List Int) (m:Int):APure Try.prog 78 [.p (ints l),.p (vi m)] (.p (vi (riseAt m l 0))):=by
  refine apure 1 rf78_ok rfl ?_
  simp only[rf78,rk,ro,rm,rp,rb,rg,rT,rF]
  refine Zbb 0 rfl (fun _ _=>ints_lim) fun hlim=>?_
  unfold top at hlim
  refine Zaf fun K hK=>?_;simp only[go_sem];(try (refine IsK.go (by assumption) ?_;clear hK))
  refine Zah fun Q hQ=>?_
  refine Zaf fun K hK=>?_;simp only[go_sem];(try (refine IsK.go (by assumption) ?_;clear hK))
  refine Zai fun Q hQ=>?_
  refine Zf7 (fun i:Nat=>⟨[(9,.p (vi i)),(8,.p (vi l.length)),(7,.p (ints l)),(0,.p (ints l)),(1,.p (vi m))],[],0⟩) (fun i=>l.length - i) (fun i=>i≤l.length∧riseAt m l i=riseAt m l 0) 0 (by simp) (Upd.sub (Nat.le_refl _) (by simp[Zaq,Env.get,ZaH]) (by simp[Zao])) ?_
  rintro i ⟨hi,hr⟩ Q hQ
  cases hx:l[i]? with
  | none =>
    have hlen:=ZcE hx
    have hlt:decide ((i:Int)<(l.length:Int))=false:=by simp;omega
    rw[ZhS hx] at hr
    (repeat (any_goals (first
    | ((first
        | refine Zaf fun K hK=>?_
        | refine ZaS fun K hK=>?_
        | refine Zaj ?_
        | refine aw_d ?_);simp only[go_sem,hlt];(try (refine IsK.go (by assumption) ?_;clear hK));(repeat (refine IsQ.go (by assumption) ?_;(try dsimp only);(try simp only[reduceCtorEq,E0]))))
    | (refine Zaw ?_;(repeat (refine IsQ.go (by assumption) ?_;(try dsimp only);(try simp only[reduceCtorEq,E0])));simp only[go_sem])
    | (refine Zah fun Q hQ=>?_)
    | (refine Zai fun Q hQ=>?_)
    | (refine Zan ?_;(repeat (refine IsQ.go (by assumption) ?_;(try dsimp only);(try simp only[reduceCtorEq,E0]))))
    | (refine Zax ?_;(repeat (refine IsQ.go (by assumption) ?_;(try dsimp only);(try simp only[E0]))))
    | (refine Zay rfl ?_ ?_<;>intro hc<;>(try simp only[HC0] at hc))
    | ((first
        | refine Zap rfl ?_ ?_
        | refine ZaI rfl ?_ ?_)<;>intro hg<;>simp only[hg,go_sem,hlt]<;>(try simp only[reduceCtorEq,HC0] at hg)<;>(try (refine IsK.go (by assumption) ?_;clear hK))<;>(repeat (refine IsQ.go (by assumption) ?_;(try dsimp only);(try simp only[reduceCtorEq,E0])))))))
    all_goals simp_all
  | some x =>
    have hlen:=ZaB hx
    have hlt:decide ((i:Int)<(l.length:Int))=true:=by simp;omega
    have hw:IntKind.i64.wrap ((i:Int)+1)=((i+1:Nat):Int):=by rw[wrap64 (by omega) (by omega)];simp
    rw[ZhI hx] at hr
    cases i with
    | zero =>
      have hz:decide (((0:Nat):Int)>0)=false:=by decide
      (repeat (any_goals (first
    | ((first
        | refine Zaf fun K hK=>?_
        | refine ZaS fun K hK=>?_
        | refine Zaj ?_
        | refine aw_d ?_);simp only[go_sem,hlt,List.getElem?_map,hx,hw,hz];(try (refine IsK.go (by assumption) ?_;clear hK));(repeat (refine IsQ.go (by assumption) ?_;(try dsimp only);(try simp only[reduceCtorEq,E0]))))
    | (refine Zaw ?_;(repeat (refine IsQ.go (by assumption) ?_;(try dsimp only);(try simp only[reduceCtorEq,E0])));simp only[go_sem])
    | (refine Zah fun Q hQ=>?_)
    | (refine Zai fun Q hQ=>?_)
    | (refine Zan ?_;(repeat (refine IsQ.go (by assumption) ?_;(try dsimp only);(try simp only[reduceCtorEq,E0]))))
    | (refine Zax ?_;(repeat (refine IsQ.go (by assumption) ?_;(try dsimp only);(try simp only[reduceCtorEq,E0]))))
    | (refine Zay rfl ?_ ?_<;>intro hc<;>(try simp only[HC0] at hc))
    | ((first
        | refine Zap rfl ?_ ?_
        | refine ZaI rfl ?_ ?_)<;>intro hg<;>simp only[hg,go_sem]<;>(try simp only[HC0] at hg)<;>(try (refine IsK.go (by assumption) ?_;clear hK))<;>(repeat (refine IsQ.go (by assumption) ?_;(try dsimp only);(try simp only[reduceCtorEq,E0])))))))
      · rw[←hr];simp[hg]
      · rw[←hr];simp[hc]
      · exact⟨0+1,⟨by omega,by rw[←hr,if_neg (by omega),if_neg (by simp)]⟩,by omega,(Upd.sub (Nat.le_refl _) (by simp[Zaq,Env.get,ZaH]) (by simp[Zao]))⟩
    | succ i =>
      obtain⟨y,hy⟩:∃y,l[i]? =some y:=⟨l[i],by simp⟩
      have hz:decide (((i+1:Nat):Int)>0)=true:=by simp
      have hi0:((0:Int)≤(i:Int))=True:=by simp
      have hw2:IntKind.i64.wrap (((i+1:Nat):Int) - 1)=(i:Int):=by rw[wrap64 (by omega) (by omega)];simp
      (repeat (any_goals (first
    | ((first
        | refine Zaf fun K hK=>?_
        | refine ZaS fun K hK=>?_
        | refine Zaj ?_
        | refine aw_d ?_);simp only[go_sem,hlt,List.getElem?_map,hx,hw,hw2,hy,hz];(try (refine IsK.go (by assumption) ?_;clear hK));(repeat (refine IsQ.go (by assumption) ?_;(try dsimp only);(try simp only[reduceCtorEq,E0]))))
    | (refine Zaw ?_;(repeat (refine IsQ.go (by assumption) ?_;(try dsimp only);(try simp only[reduceCtorEq,E0])));simp only[go_sem])
    | (refine Zah fun Q hQ=>?_)
    | (refine Zai fun Q hQ=>?_)
    | (refine Zan ?_;(repeat (refine IsQ.go (by assumption) ?_;(try dsimp only);(try simp only[reduceCtorEq,E0]))))
    | (refine Zax ?_;(repeat (refine IsQ.go (by assumption) ?_;(try dsimp only);(try simp only[reduceCtorEq,E0]))))
    | (refine Zay rfl ?_ ?_<;>intro hc<;>(try simp only[HC0] at hc))
    | ((first
        | refine Zap rfl ?_ ?_
        | refine ZaI rfl ?_ ?_)<;>intro hg<;>simp only[hg,go_sem]<;>(try simp only[HC0] at hg)<;>(try (refine IsK.go (by assumption) ?_;clear hK))<;>(repeat (refine IsQ.go (by assumption) ?_;(try dsimp only);(try simp only[reduceCtorEq,E0])))))))
      · rw[←hr];simp[hg]
      · rw[←hr];simp[hc]
      · rw[←hr,if_neg (by omega),if_pos ⟨by omega,y,hy,hc⟩]
      · refine⟨i+1+1,⟨by omega,?_⟩,by omega,(Upd.sub (Nat.le_refl _) (by simp[Zaq,Env.get,ZaH]) (by simp[Zao]))⟩
        rw[←hr,if_neg (by omega),if_neg]
        rintro⟨_,q,hq,hle⟩
        rw[show i+1 - 1=i from rfl,hy] at hq;cases hq;exact hc hle
theorem checkCal22 (fr hol:List Int):APure Try.prog 22 [.p (calP fr hol)] (.p (vi (calFault fr hol))):=by
  refine apure 1 rf22_ok rfl ?_
  simp only[rf22,rk,ro,rm,rp,rb,rg,rT]
  (repeat (any_goals (first
    | ((first
        | refine Zaf fun K hK=>?_
        | refine ZaS fun K hK=>?_
        | refine Zaj ?_
        | refine aw_d ?_);simp only[go_sem];(try (refine IsK.go (by assumption) ?_;clear hK));(repeat (refine IsQ.go (by assumption) ?_;(try dsimp only);(try simp only[reduceCtorEq,E0]))))
    | (refine Zaw ?_;(repeat (refine IsQ.go (by assumption) ?_;(try dsimp only);(try simp only[reduceCtorEq,E0])));simp only[go_sem])
    | (refine Zah fun Q hQ=>?_)
    | (refine Zai fun Q hQ=>?_)
    | (refine Zan ?_;(repeat (refine IsQ.go (by assumption) ?_;(try dsimp only);(try simp only[reduceCtorEq,E0]))))
    | (refine Zax ?_;(repeat (refine IsQ.go (by assumption) ?_;(try dsimp only);(try simp only[reduceCtorEq,E0]))))
    | (refine Zay rfl ?_ ?_<;>intro hc<;>(try simp only[HC0] at hc))
    | ((first
        | refine Zap rfl ?_ ?_
        | refine ZaI rfl ?_ ?_)<;>intro hg<;>simp only[hg,go_sem]<;>(try simp only[HC0] at hg)<;>(try (refine IsK.go (by assumption) ?_;clear hK))<;>(repeat (refine IsQ.go (by assumption) ?_;(try dsimp only);(try simp only[reduceCtorEq,E0])))))))
  · simp[calFault];omega
  · simp[calFault];omega
  · refine Zcd (rising78 fr 6) 1 (by simp only[go_sem]) (by simp only[ZaC,ZaH,and_self]) rfl ?_;(try dsimp only);(try simp only[go_sem]);(try (refine IsK.go (by assumption) ?_;clear hK));(repeat (refine IsQ.go (by assumption) ?_;(try dsimp only);(try simp only[reduceCtorEq,E0])))
    (repeat (any_goals (first
    | ((first
        | refine Zaf fun K hK=>?_
        | refine ZaS fun K hK=>?_
        | refine Zaj ?_
        | refine aw_d ?_);simp only[go_sem];(try (refine IsK.go (by assumption) ?_;clear hK));(repeat (refine IsQ.go (by assumption) ?_;(try dsimp only);(try simp only[reduceCtorEq,E0]))))
    | (refine Zaw ?_;(repeat (refine IsQ.go (by assumption) ?_;(try dsimp only);(try simp only[reduceCtorEq,E0])));simp only[go_sem])
    | (refine Zah fun Q hQ=>?_)
    | (refine Zai fun Q hQ=>?_)
    | (refine Zan ?_;(repeat (refine IsQ.go (by assumption) ?_;(try dsimp only);(try simp only[reduceCtorEq,E0]))))
    | (refine Zax ?_;(repeat (refine IsQ.go (by assumption) ?_;(try dsimp only);(try simp only[reduceCtorEq,E0]))))
    | (refine Zay rfl ?_ ?_<;>intro hc<;>(try simp only[HC0] at hc))
    | ((first
        | refine Zap rfl ?_ ?_
        | refine ZaI rfl ?_ ?_)<;>intro hg<;>simp only[hg,go_sem]<;>(try simp only[reduceCtorEq,HC0] at hg)<;>(try (refine IsK.go (by assumption) ?_;clear hK))<;>(repeat (refine IsQ.go (by assumption) ?_;(try dsimp only);(try simp only[reduceCtorEq,E0])))))))
    · have:riseAt 6 fr 0≠0:=by simpa using hc
      simp[calFault,this];omega
    · have h0:riseAt 6 fr 0=0:=by simpa using hc
      refine Zcd (rising78 hol 1000000) 1 (by simp only[go_sem]) (by simp only[ZaC,ZaH,and_self]) rfl ?_;(try dsimp only);(try simp only[go_sem]);(try (refine IsK.go (by assumption) ?_;clear hK));(repeat (refine IsQ.go (by assumption) ?_;(try dsimp only);(try simp only[reduceCtorEq,E0])))
      (repeat (any_goals (first
    | ((first
        | refine Zaf fun K hK=>?_
        | refine ZaS fun K hK=>?_
        | refine Zaj ?_
        | refine aw_d ?_);simp only[go_sem];(try (refine IsK.go (by assumption) ?_;clear hK));(repeat (refine IsQ.go (by assumption) ?_;(try dsimp only);(try simp only[reduceCtorEq,E0]))))
    | (refine Zaw ?_;(repeat (refine IsQ.go (by assumption) ?_;(try dsimp only);(try simp only[reduceCtorEq,E0])));simp only[go_sem])
    | (refine Zah fun Q hQ=>?_)
    | (refine Zai fun Q hQ=>?_)
    | (refine Zan ?_;(repeat (refine IsQ.go (by assumption) ?_;(try dsimp only);(try simp only[reduceCtorEq,E0]))))
    | (refine Zax ?_;(repeat (refine IsQ.go (by assumption) ?_;(try dsimp only);(try simp only[reduceCtorEq,E0]))))
    | (refine Zay rfl ?_ ?_<;>intro hc<;>(try simp only[reduceCtorEq,HC0] at hc))
    | ((first
        | refine Zap rfl ?_ ?_
        | refine ZaI rfl ?_ ?_)<;>intro hg<;>simp only[hg,go_sem]<;>(try simp only[reduceCtorEq,HC0] at hg)<;>(try (refine IsK.go (by assumption) ?_;clear hK))<;>(repeat (refine IsQ.go (by assumption) ?_;(try dsimp only);(try simp only[reduceCtorEq,E0])))))))
      simp[calFault,h0];omega
end Go.Abs
