/-
  Walks of the laws on days.
-/
import Derived.Test.YtjjhmldeammecaaW6b
namespace Go.Abs
open Go Go.Proofs
set_option maxRecDepth 4000
def wdE (fr hol:List Int) (a b:Int):Int:=if calFault fr hol≠0 then calFault fr hol else if ¬(0≤a∧a≤b∧b≤1000000) then 9 else 0
def wdN (fr hol:List Int) (a b:Int):Int:=if wdE fr hol a b=0 then cw fr hol a (b - a).toNat else 0
theorem rWorkDays_eq (fr hol:List Int) (a b:Int):rWorkDays fr hol a b= .tup [.p (vi (wdN fr hol a b)),.p (vi (wdE fr hol a b))]:=by
 unfold rWorkDays wdN wdE
 split
 ·rename_i h;simp[]
 ·split<;>simp
theorem workDays18' (fr hol:List Int) (a b:Int):APure Try.prog 18 [.p (calP fr hol),.p (vi a),.p (vi b)] (.tup [.p (vi (wdN fr hol a b)),.p (vi (wdE fr hol a b))]):=rWorkDays_eq fr hol a b▸workDays18 fr hol a b
theorem told23:APure Try.prog 23 [] (.p (vb true)):=by
  refine apure 1 rf23_ok rfl ?_
  simp only[rf23,rk,ro,rm,rp,rb,rg,rF]
  have hE:wdE [5,6] [] 0 14=0:=by decide
  have hN:wdN [5,6] [] 0 14=10:=by decide
  have hcall:APure Try.prog 18 [.p (.agg [.sl [[vi 5],[vi 6]],.c (.slice none 0 0)]),.p (vi 0),.p (vi 14)] (.tup [.p (vi 10),.p (vi 0)]):=by
    have:=workDays18' [5,6] [] 0 14
    rw[hE,hN] at this
    exact this.nz rfl
  (repeat (any_goals (first
    | ((first
        | refine Zaf fun K hK=>?_
        | refine ZaS fun K hK=>?_
        | refine Zaj ?_
        | refine aw_d ?_);simp only[go_sem];(try (refine IsK.go (by assumption) ?_;clear hK));(repeat (refine IsQ.go (by assumption) ?_;(try dsimp only);(try simp only[reduceCtorEq,E0]))))
    | (refine Zaw ?_;(repeat (refine IsQ.go (by assumption) ?_;(try dsimp only);(try simp only[reduceCtorEq,E0])));simp only[go_sem])
    | (refine Zah fun Q hQ=>?_)
    | (refine Zai fun Q hQ=>?_)
    | (refine Zan ?_;(repeat (refine IsQ.go (by assumption) ?_;(try dsimp only);(try simp only[reduceCtorEq,E0]))))
    | (refine Zax ?_;(repeat (refine IsQ.go (by assumption) ?_;(try dsimp only);(try simp only[reduceCtorEq,E0]))))
    | (refine Zay rfl ?_ ?_<;>intro hc<;>(try simp only[reduceCtorEq,HC0] at hc))
    | ((first
        | refine Zap rfl ?_ ?_
        | refine ZaI rfl ?_ ?_)<;>intro hg<;>simp only[hg,go_sem]<;>(try simp only[reduceCtorEq,HC0] at hg)<;>(try (refine IsK.go (by assumption) ?_;clear hK))<;>(repeat (refine IsQ.go (by assumption) ?_;(try dsimp only);(try simp only[reduceCtorEq,E0])))))))
  refine Zcd (hcall) 1 (by simp only[go_sem]) (by simp only[ZaC,ZaH,and_self]) rfl ?_;(try dsimp only);(try simp only[go_sem]);(try (refine IsK.go (by assumption) ?_;clear hK));(repeat (refine IsQ.go (by assumption) ?_;(try dsimp only);(try simp only[reduceCtorEq,E0])))
  (repeat (any_goals (first
    | ((first
        | refine Zaf fun K hK=>?_
        | refine ZaS fun K hK=>?_
        | refine Zaj ?_
        | refine aw_d ?_);simp only[go_sem];(try (refine IsK.go (by assumption) ?_;clear hK));(repeat (refine IsQ.go (by assumption) ?_;(try dsimp only);(try simp only[reduceCtorEq,E0]))))
    | (refine Zaw ?_;(repeat (refine IsQ.go (by assumption) ?_;(try dsimp only);(try simp only[reduceCtorEq,E0])));simp only[go_sem])
    | (refine Zah fun Q hQ=>?_)
    | (refine Zai fun Q hQ=>?_)
    | (refine Zan ?_;(repeat (refine IsQ.go (by assumption) ?_;(try dsimp only);(try simp only[reduceCtorEq,E0]))))
    | (refine Zax ?_;(repeat (refine IsQ.go (by assumption) ?_;(try dsimp only);(try simp only[reduceCtorEq,E0]))))
    | (refine Zay rfl ?_ ?_<;>intro hc<;>(try simp only[reduceCtorEq,HC0] at hc))
    | ((first
        | refine Zap rfl ?_ ?_
        | refine ZaI rfl ?_ ?_)<;>intro hg<;>simp only[hg,go_sem]<;>(try simp only[reduceCtorEq,HC0] at hg)<;>(try (refine IsK.go (by assumption) ?_;clear hK))<;>(repeat (refine IsQ.go (by assumption) ?_;(try dsimp only);(try simp only[reduceCtorEq,E0])))))))
end Go.Abs
