/-
  Walks of history and its reference:IsWork,WorkDays,Add.
-/
import Derived.Test.YtjjhmldeammecaaL2
namespace Go.Abs
open Go Go.Proofs
set_option maxRecDepth 4000
theorem ZgE {fr hol:List Int} (hcal:CalOk fr hol) {d:Int} (h0:0≤d) (h1:d≤1000001):0≤wcount fr hol d∧wcount fr hol d≤1000001:=by
 obtain⟨n,rfl⟩:=Int.eq_ofNat_of_zero_le h0
 rw[Zge hcal]
 have:=cw_le fr hol 0 n
 omega
def rWorkDays (fr hol:List Int) (a b:Int):AV :=
 if calFault fr hol≠0 then .tup [.p (vi 0),.p (vi (calFault fr hol))] else if ¬(0≤a∧a≤b∧b≤1000000) then .tup [.p (vi 0),.p (vi 9)] else .tup [.p (vi (cw fr hol a (b - a).toNat)),.p (vi 0)]
theorem workDays18 (fr hol:List Int) (a b:Int):APure Try.prog 18 [.p (calP fr hol),.p (vi a),.p (vi b)] (rWorkDays fr hol a b):=by
  refine apure 1 rf18_ok rfl ?_
  simp only[rf18,rk,ro,rm,rp,rn,rb,rg,rT]
  (repeat (any_goals (first
    | ((first
        | refine Zaf fun K hK=>?_
        | refine ZaS fun K hK=>?_
        | refine Zaj ?_
        | refine aw_d ?_);simp only[go_sem];(try (refine IsK.go (by assumption) ?_;clear hK));(repeat (refine IsQ.go (by assumption) ?_;(try dsimp only);(try simp only[reduceCtorEq,E0]))))
    | (refine Zaw ?_;(repeat (refine IsQ.go (by assumption) ?_;(try dsimp only);(try simp only[reduceCtorEq,E0])));simp only[go_sem])
    | (refine Zah fun Q hQ=>?_)
    | (refine Zai fun Q hQ=>?_)
    | (refine Zan ?_;(repeat (refine IsQ.go (by assumption) ?_;(try dsimp only);(try simp only[reduceCtorEq,E0]))))
    | (refine Zax ?_;(repeat (refine IsQ.go (by assumption) ?_;(try dsimp only);(try simp only[reduceCtorEq,E0]))))
    | (refine Zay rfl ?_ ?_<;>intro hc<;>(try simp only[reduceCtorEq,HC0] at hc))
    | ((first
        | refine Zap rfl ?_ ?_
        | refine ZaI rfl ?_ ?_)<;>intro hg<;>simp only[hg,go_sem]<;>(try simp only[reduceCtorEq,HC0] at hg)<;>(try (refine IsK.go (by assumption) ?_;clear hK))<;>(repeat (refine IsQ.go (by assumption) ?_;(try dsimp only);(try simp only[reduceCtorEq,E0])))))))
  refine Zcd (checkCal22 fr hol) 1 (by simp only[go_sem]) (by simp only[ZaC,ZaH,and_self]) rfl ?_;(try dsimp only);(try simp only[go_sem]);(try (refine IsK.go (by assumption) ?_;clear hK));(repeat (refine IsQ.go (by assumption) ?_;(try dsimp only);(try simp only[reduceCtorEq,E0])))
  (repeat (any_goals (first
    | ((first
        | refine Zaf fun K hK=>?_
        | refine ZaS fun K hK=>?_
        | refine Zaj ?_
        | refine aw_d ?_);simp only[go_sem];(try (refine IsK.go (by assumption) ?_;clear hK));(repeat (refine IsQ.go (by assumption) ?_;(try dsimp only);(try simp only[reduceCtorEq,E0]))))
    | (refine Zaw ?_;(repeat (refine IsQ.go (by assumption) ?_;(try dsimp only);(try simp only[reduceCtorEq,E0])));simp only[go_sem])
    | (refine Zah fun Q hQ=>?_)
    | (refine Zai fun Q hQ=>?_)
    | (refine Zan ?_;(repeat (refine IsQ.go (by assumption) ?_;(try dsimp only);(try simp only[reduceCtorEq,E0]))))
    | (refine Zax ?_;(repeat (refine IsQ.go (by assumption) ?_;(try dsimp only);(try simp only[reduceCtorEq,E0]))))
    | (refine Zay rfl ?_ ?_<;>intro hc<;>(try simp only[HC0] at hc))
    | ((first
        | refine Zap rfl ?_ ?_
        | refine ZaI rfl ?_ ?_)<;>intro hg<;>simp only[hg,go_sem]<;>(try simp only[reduceCtorEq,HC0] at hg)<;>(try (refine IsK.go (by assumption) ?_;clear hK))<;>(repeat (refine IsQ.go (by assumption) ?_;(try dsimp only);(try simp only[reduceCtorEq,E0])))))))
  · have h0:calFault fr hol≠0:=by simpa using hc
    simp[rWorkDays,h0,ZaH,ZaC]
  · have h0:calFault fr hol=0:=by simpa using hc
    have hcal:=calOk h0
    refine Zcd (isDay72 a) 1 (by simp only[go_sem]) (by simp only[ZaC,ZaH,and_self]) rfl ?_;(try dsimp only);(try simp only[go_sem]);(try (refine IsK.go (by assumption) ?_;clear hK));(repeat (refine IsQ.go (by assumption) ?_;(try dsimp only);(try simp only[reduceCtorEq,E0])))
    (repeat (any_goals (first
    | ((first
        | refine Zaf fun K hK=>?_
        | refine ZaS fun K hK=>?_
        | refine Zaj ?_
        | refine aw_d ?_);simp only[go_sem];(try (refine IsK.go (by assumption) ?_;clear hK));(repeat (refine IsQ.go (by assumption) ?_;(try dsimp only);(try simp only[reduceCtorEq,E0]))))
    | (refine Zaw ?_;(repeat (refine IsQ.go (by assumption) ?_;(try dsimp only);(try simp only[reduceCtorEq,E0])));simp only[go_sem])
    | (refine Zah fun Q hQ=>?_)
    | (refine Zai fun Q hQ=>?_)
    | (refine Zan ?_;(repeat (refine IsQ.go (by assumption) ?_;(try dsimp only);(try simp only[reduceCtorEq,E0]))))
    | (refine Zax ?_;(repeat (refine IsQ.go (by assumption) ?_;(try dsimp only);(try simp only[reduceCtorEq,E0]))))
    | (refine Zay rfl ?_ ?_<;>intro hc<;>(try simp only[HC0] at hc))
    | ((first
        | refine Zap rfl ?_ ?_
        | refine ZaI rfl ?_ ?_)<;>intro hg<;>simp only[hg,go_sem]<;>(try simp only[HC0] at hg)<;>(try (refine IsK.go (by assumption) ?_;clear hK))<;>(repeat (refine IsQ.go (by assumption) ?_;(try dsimp only);(try simp only[reduceCtorEq,E0])))))))
    · rw[rWorkDays,if_neg (by simp[h0]),if_pos (by omega)]
      simp[ZaH,ZaC]
    · refine Zcd (isDay72 b) 1 (by simp only[go_sem]) (by simp only[ZaC,ZaH,and_self]) rfl ?_;(try dsimp only);(try simp only[go_sem]);(try (refine IsK.go (by assumption) ?_;clear hK));(repeat (refine IsQ.go (by assumption) ?_;(try dsimp only);(try simp only[reduceCtorEq,E0])))
      (repeat (any_goals (first
    | ((first
        | refine Zaf fun K hK=>?_
        | refine ZaS fun K hK=>?_
        | refine Zaj ?_
        | refine aw_d ?_);simp only[go_sem];(try (refine IsK.go (by assumption) ?_;clear hK));(repeat (refine IsQ.go (by assumption) ?_;(try dsimp only);(try simp only[reduceCtorEq,E0]))))
    | (refine Zaw ?_;(repeat (refine IsQ.go (by assumption) ?_;(try dsimp only);(try simp only[reduceCtorEq,E0])));simp only[go_sem])
    | (refine Zah fun Q hQ=>?_)
    | (refine Zai fun Q hQ=>?_)
    | (refine Zan ?_;(repeat (refine IsQ.go (by assumption) ?_;(try dsimp only);(try simp only[reduceCtorEq,E0]))))
    | (refine Zax ?_;(repeat (refine IsQ.go (by assumption) ?_;(try dsimp only);(try simp only[reduceCtorEq,E0]))))
    | (refine Zay rfl ?_ ?_<;>intro hc<;>(try simp only[HC0] at hc))
    | ((first
        | refine Zap rfl ?_ ?_
        | refine ZaI rfl ?_ ?_)<;>intro hg<;>simp only[hg,go_sem]<;>(try simp only[HC0] at hg)<;>(try (refine IsK.go (by assumption) ?_;clear hK))<;>(repeat (refine IsQ.go (by assumption) ?_;(try dsimp only);(try simp only[reduceCtorEq,E0])))))))
      · rw[rWorkDays,if_neg (by simp[h0]),if_pos (by omega)]
        simp[ZaH,ZaC]
      · rw[rWorkDays,if_neg (by simp[h0]),if_pos (by omega)]
        simp[ZaH,ZaC]
      · refine Zar (weekOf73 hcal) rfl (by simp only[ZaC,ZaH,and_self]) (by simp only[ZaH]) ?_;(try dsimp only);(try simp only[go_sem,Zg5,Zg4,ZaK]);(try (refine IsK.go (by assumption) ?_;clear hK));(repeat (refine IsQ.go (by assumption) ?_;(try dsimp only);(try simp only[reduceCtorEq,E0])))
        (repeat (any_goals (first
    | ((first
        | refine Zaf fun K hK=>?_
        | refine ZaS fun K hK=>?_
        | refine Zaj ?_
        | refine aw_d ?_);simp only[go_sem,ZaK,Zcy,Zc0];(try (refine IsK.go (by assumption) ?_;clear hK));(repeat (refine IsQ.go (by assumption) ?_;(try dsimp only);(try simp only[reduceCtorEq,E0]))))
    | (refine Zaw ?_;(repeat (refine IsQ.go (by assumption) ?_;(try dsimp only);(try simp only[reduceCtorEq,E0])));simp only[go_sem,ZaK,Zcy,Zc0])
    | (refine Zah fun Q hQ=>?_)
    | (refine Zai fun Q hQ=>?_)
    | (refine Zan ?_;(repeat (refine IsQ.go (by assumption) ?_;(try dsimp only);(try simp only[reduceCtorEq,E0]))))
    | (refine Zax ?_;(repeat (refine IsQ.go (by assumption) ?_;(try dsimp only);(try simp only[reduceCtorEq,E0]))))
    | (refine Zay rfl ?_ ?_<;>intro hc<;>(try simp only[reduceCtorEq,HC0] at hc))
    | ((first
        | refine Zap rfl ?_ ?_
        | refine ZaI rfl ?_ ?_)<;>intro hg<;>simp only[hg,go_sem,ZaK,Zcy,Zc0]<;>(try simp only[reduceCtorEq,HC0] at hg)<;>(try (refine IsK.go (by assumption) ?_;clear hK))<;>(repeat (refine IsQ.go (by assumption) ?_;(try dsimp only);(try simp only[reduceCtorEq,E0])))))))
        refine⟨_,Zcd (count74 hcal b (by omega) (by omega)) 1 (by simp only[go_sem]) (by simp only[ZaC,ZaH,and_self]) rfl ⟨rfl,rfl,rfl⟩,?_⟩;(try simp only[go_sem,Zc1,ZaK,Zcy,Zc0]);(try (refine IsK.go (by assumption) ?_;clear hK));(repeat (refine IsQ.go (by assumption) ?_;(try dsimp only);(try simp only[reduceCtorEq,E0])))
        refine⟨_,Zcd (count74 hcal a (by omega) (by omega)) 1 (by simp only[go_sem]) (by simp only[ZaC,ZaH,and_self]) rfl ⟨rfl,rfl,rfl⟩,?_⟩;(try simp only[go_sem]);(try (refine IsK.go (by assumption) ?_;clear hK));(repeat (refine IsQ.go (by assumption) ?_;(try dsimp only);(try simp only[reduceCtorEq,E0])))
        have hb1:=ZgE hcal (d:=a) (by omega) (by omega)
        have hb2:=ZgE hcal (d:=b) (by omega) (by omega)
        have hws:IntKind.i64.wrap (wcount fr hol b - wcount fr hol a)=wcount fr hol b - wcount fr hol a:=wrap64 (by omega) (by omega)
        (repeat (any_goals (first
    | ((first
        | refine Zaf fun K hK=>?_
        | refine ZaS fun K hK=>?_
        | refine Zaj ?_
        | refine aw_d ?_);simp only[go_sem,hws];(try (refine IsK.go (by assumption) ?_;clear hK));(repeat (refine IsQ.go (by assumption) ?_;(try dsimp only);(try simp only[reduceCtorEq,E0]))))
    | (refine Zaw ?_;(repeat (refine IsQ.go (by assumption) ?_;(try dsimp only);(try simp only[reduceCtorEq,E0])));simp only[go_sem,hws])
    | (refine Zah fun Q hQ=>?_)
    | (refine Zai fun Q hQ=>?_)
    | (refine Zan ?_;(repeat (refine IsQ.go (by assumption) ?_;(try dsimp only);(try simp only[reduceCtorEq,E0]))))
    | (refine Zax ?_;(repeat (refine IsQ.go (by assumption) ?_;(try dsimp only);(try simp only[reduceCtorEq,E0]))))
    | (refine Zay rfl ?_ ?_<;>intro hc<;>(try simp only[reduceCtorEq,HC0] at hc))
    | ((first
        | refine Zap rfl ?_ ?_
        | refine ZaI rfl ?_ ?_)<;>intro hg<;>simp only[hg,go_sem,hws]<;>(try simp only[reduceCtorEq,HC0] at hg)<;>(try (refine IsK.go (by assumption) ?_;clear hK))<;>(repeat (refine IsQ.go (by assumption) ?_;(try dsimp only);(try simp only[reduceCtorEq,E0])))))))
        rw[rWorkDays,if_neg (by simp[h0]),if_neg (by omega),ZhA hcal (by omega) (by omega)]
        simp[ZaH,ZaC]
end Go.Abs
