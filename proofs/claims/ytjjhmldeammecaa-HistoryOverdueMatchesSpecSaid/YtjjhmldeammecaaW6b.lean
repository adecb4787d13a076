/-
  Walks of history and its reference:Add.
-/
import Derived.Test.YtjjhmldeammecaaW6
namespace Go.Abs
open Go Go.Proofs
set_option maxRecDepth 4000
def rAdd (fr hol:List Int) (d n:Int):AV :=
 if calFault fr hol≠0 then .tup [.p (vi 0),.p (vi (calFault fr hol))] else if ¬((0≤d∧d≤1000000)∧0≤n∧n≤1000000) then .tup [.p (vi 0),.p (vi 9)]
 else if 1000000<d+addK fr hol d n then .tup [.p (vi 0),.p (vi 3)] else .tup [.p (vi (d+addK fr hol d n)),.p (vi 0)]
theorem add77 {fr hol:List Int} (hcal:CalOk fr hol) (d n:Int) (hd:0≤d) (hd2:d≤1000000) (hn:0≤n) (hn2:n≤1000000) :
    APure Try.prog 77 [.p (wkP fr hol),.p (vi d),.p (vi n)] (.tup [.p (vi (d+addK fr hol d n)),.p (vb (decide (d+addK fr hol d n≤1000000)))]):=by
  refine apure 1 rf77_ok rfl ?_
  simp only[rf77,rk,ro,rm,rn,rb,rg,rF]
  (repeat (any_goals (first
    | ((first
        | refine Zaf fun K hK=>?_
        | refine ZaS fun K hK=>?_
        | refine Zaj ?_
        | refine aw_d ?_);simp only[go_sem,Zg5,Zg4,ZaK,Zcy,Zc0];(try (refine IsK.go (by assumption) ?_;clear hK));(repeat (refine IsQ.go (by assumption) ?_;(try dsimp only);(try simp only[reduceCtorEq,E0]))))
    | (refine Zaw ?_;(repeat (refine IsQ.go (by assumption) ?_;(try dsimp only);(try simp only[reduceCtorEq,E0])));simp only[go_sem,Zg5,Zg4,ZaK,Zcy,Zc0])
    | (refine Zah fun Q hQ=>?_)
    | (refine Zai fun Q hQ=>?_)
    | (refine Zan ?_;(repeat (refine IsQ.go (by assumption) ?_;(try dsimp only);(try simp only[reduceCtorEq,E0]))))
    | (refine Zax ?_;(repeat (refine IsQ.go (by assumption) ?_;(try dsimp only);(try simp only[reduceCtorEq,E0]))))
    | (refine Zay rfl ?_ ?_<;>intro hc<;>(try simp only[reduceCtorEq,HC0] at hc))
    | ((first
        | refine Zap rfl ?_ ?_
        | refine ZaI rfl ?_ ?_)<;>intro hg<;>simp only[hg,go_sem,Zg5,Zg4,ZaK,Zcy,Zc0]<;>(try simp only[reduceCtorEq,HC0] at hg)<;>(try (refine IsK.go (by assumption) ?_;clear hK))<;>(repeat (refine IsQ.go (by assumption) ?_;(try dsimp only);(try simp only[reduceCtorEq,E0])))))))
  refine Zcd (count74 hcal d (by omega) (by omega)) 1 (by simp only[go_sem]) (by simp only[ZaC,ZaH,and_self]) rfl ?_;(try dsimp only);(try simp only[go_sem]);(try (refine IsK.go (by assumption) ?_;clear hK));(repeat (refine IsQ.go (by assumption) ?_;(try dsimp only);(try simp only[reduceCtorEq,E0])))
  have hb1:=ZgE hcal (d:=d) (by omega) (by omega)
  have hw1:IntKind.i64.wrap (wcount fr hol d+n)=wcount fr hol d+n:=wrap64 (by omega) (by omega)
  have hw2:IntKind.i64.wrap (1000001 - d)=((1000001 - d).toNat:Int):=by rw[wrap64 (by omega) (by omega)];omega
  (repeat (any_goals (first
    | ((first
        | refine Zaf fun K hK=>?_
        | refine ZaS fun K hK=>?_
        | refine Zaj ?_
        | refine aw_d ?_);simp only[go_sem,hw1,hw2];(try (refine IsK.go (by assumption) ?_;clear hK));(repeat (refine IsQ.go (by assumption) ?_;(try dsimp only);(try simp only[reduceCtorEq,E0]))))
    | (refine Zaw ?_;(repeat (refine IsQ.go (by assumption) ?_;(try dsimp only);(try simp only[reduceCtorEq,E0])));simp only[go_sem,hw1,hw2,ZaK,Zcy,Zc0])
    | (refine Zah fun Q hQ=>?_)
    | (refine Zai fun Q hQ=>?_)
    | (refine Zan ?_;(repeat (refine IsQ.go (by assumption) ?_;(try dsimp only);(try simp only[reduceCtorEq,E0]))))
    | (refine Zax ?_;(repeat (refine IsQ.go (by assumption) ?_;(try dsimp only);(try simp only[reduceCtorEq,E0]))))
    | (refine Zay rfl ?_ ?_<;>intro hc<;>(try simp only[reduceCtorEq,HC0] at hc))
    | ((first
        | refine Zap rfl ?_ ?_
        | refine ZaI rfl ?_ ?_)<;>intro hg<;>simp only[hg,go_sem,hw1,hw2,ZaK,Zcy,Zc0]<;>(try simp only[reduceCtorEq,HC0] at hg)<;>(try (refine IsK.go (by assumption) ?_;clear hK))<;>(repeat (refine IsQ.go (by assumption) ?_;(try dsimp only);(try simp only[reduceCtorEq,E0])))))))
  have hmono:∀i j:Nat,i≤j→j<(1000001 - d).toNat→decide (wcount fr hol d+n≤wcount fr hol (d+i))=true→decide (wcount fr hol d+n≤wcount fr hol (d+j))=true:=by
    intro i j hij hj hp
    simp only[decide_eq_true_eq] at hp ⊢
    have:=ZhA hcal (a:=d+i) (b:=d+j) (by omega) (by omega)
    omega
  have hfirst:first (fun i:Nat=>decide (wcount fr hol d+n≤wcount fr hol (d+i))) (1000001 - d).toNat=addK fr hol d n:=by
    rw[addK]
    congr 1
    funext k
    have:=ZhA hcal (a:=d) (b:=d+k) hd (by omega)
    rw[show (d+(k:Int) - d).toNat=k by omega] at this
    congr 1
    exact propext ⟨fun h=>by omega,fun h=>by omega⟩
  have hle:addK fr hol d n≤(1000001 - d).toNat:=(first_spec _ _).1
  have hw3:IntKind.i64.wrap (d+(addK fr hol d n:Int))=d+(addK fr hol d n:Int):=wrap64 (by omega) (by omega)
  refine⟨_,Zcd (search125 126 [.p (.ptr ((bits fr).map vb++ [vi (7 - fr.length),ints (hol.filter (notFree fr))])),.p (.ptr [vi d]),.p (.ptr [vi (wcount fr hol d+n)])] (1000001 - d).toNat (fun i:Nat=>decide (wcount fr hol d+n≤wcount fr hol (d+i))) (by kernel_rfl) (fun i hi=>step126 hcal d _ i hd (by omega)) (by simp only[ZaC,ZaH,and_self]) hmono (by omega)) 1 (by simp only[go_sem,Zc0]) (by simp only[ZaC,ZaH,and_self]) rfl ⟨rfl,rfl,rfl⟩,?_⟩;(try simp only[go_sem,hfirst,hw3]);(try (refine IsK.go (by assumption) ?_;clear hK));(repeat (refine IsQ.go (by assumption) ?_;(try dsimp only);(try simp only[reduceCtorEq,E0])))
  (repeat (any_goals (first
    | ((first
        | refine Zaf fun K hK=>?_
        | refine ZaS fun K hK=>?_
        | refine Zaj ?_
        | refine aw_d ?_);simp only[go_sem];(try (refine IsK.go (by assumption) ?_;clear hK));(repeat (refine IsQ.go (by assumption) ?_;(try dsimp only);(try simp only[reduceCtorEq,E0]))))
    | (refine Zaw ?_;(repeat (refine IsQ.go (by assumption) ?_;(try dsimp only);(try simp only[reduceCtorEq,E0])));simp only[go_sem])
    | (refine Zah fun Q hQ=>?_)
    | (refine Zai fun Q hQ=>?_)
    | (refine Zan ?_;(repeat (refine IsQ.go (by assumption) ?_;(try dsimp only);(try simp only[reduceCtorEq,E0]))))
    | (refine Zax ?_;(repeat (refine IsQ.go (by assumption) ?_;(try dsimp only);(try simp only[reduceCtorEq,E0]))))
    | (refine Zay rfl ?_ ?_<;>intro hc<;>(try simp only[reduceCtorEq,HC0] at hc))
    | ((first
        | refine Zap rfl ?_ ?_
        | refine ZaI rfl ?_ ?_)<;>intro hg<;>simp only[hg,go_sem]<;>(try simp only[reduceCtorEq,HC0] at hg)<;>(try (refine IsK.go (by assumption) ?_;clear hK))<;>(repeat (refine IsQ.go (by assumption) ?_;(try dsimp only);(try simp only[reduceCtorEq,E0])))))))
end Go.Abs
