/-
  Walks of history's reference:a calendar that is looked at day by day.
-/
import Derived.Test.YtjjhmldeammecaaL1
namespace Go.Abs
open Go Go.Proofs
set_option maxRecDepth 4000
abbrev refCal (fr hol:List Int):PV:= .agg ((bits fr).map vb++ [.mp (hol.map dayE)])
theorem calendarOf70 {fr hol:List Int} (hcal:CalOk fr hol):APure Try.prog 70 [.p (calP fr hol)] (.p (refCal fr hol)):=by
  refine apure 1 rf70_ok rfl ?_
  simp only[rf70,rk,ro,rm,rn,rb,rg,rT]
  have hl1:=hcal.frL
  have hl2:=hcal.holL
  (repeat (any_goals (first
    | ((first
        | refine Zaf fun K hK=>?_
        | refine ZaS fun K hK=>?_
        | refine Zaj ?_
        | refine aw_d ?_);simp only[go_sem];(try (refine IsK.go (by assumption) ?_;clear hK));(repeat (refine IsQ.go (by assumption) ?_;(try dsimp only);(try simp only[reduceCtorEq,E0]))))
    | (refine Zaw ?_;(repeat (refine IsQ.go (by assumption) ?_;(try dsimp only);(try simp only[reduceCtorEq,E0])));simp only[go_sem])
    | (refine Zah fun Q hQ=>?_)
    | (refine Zai fun Q hQ=>?_)
    | (refine Zan ?_;(repeat (refine IsQ.go (by assumption) ?_;(try dsimp only);(try simp only[reduceCtorEq,E0]))))
    | (refine Zax ?_;(repeat (refine IsQ.go (by assumption) ?_;(try dsimp only);(try simp only[reduceCtorEq,E0]))))
    | (refine Zay rfl ?_ ?_<;>intro hc<;>(try simp only[reduceCtorEq,HC0] at hc))
    | ((first
        | refine Zap rfl ?_ ?_
        | refine ZaI rfl ?_ ?_)<;>intro hg<;>simp only[hg,go_sem]<;>(try simp only[reduceCtorEq,HC0] at hg)<;>(try (refine IsK.go (by assumption) ?_;clear hK))<;>(repeat (refine IsQ.go (by assumption) ?_;(try dsimp only);(try simp only[reduceCtorEq,E0])))))))
  refine Zf7 (fun i:Nat=>⟨[(13,.p (vi i)),(12,.p (vi fr.length)),(11,.p (ints fr)),(1,.bp 0 0),(2,.bp 1 0),(3,.bp 3 0)],
      [(3,.cells ((bits (fr.take i)).map (fun b=>AV.p (vb b))++ [.mp 2])),(2,.map []),(1,.cells [.p (vb false),.p (vb false),.p (vb false),.p (vb false),.p (vb false),.p (vb false),.p (vb false),.p (.c (.map none))]),(0,.cells [.p (ints fr),.p (ints hol)])],4⟩)
    (fun i=>fr.length - i) (fun i=>i≤fr.length) 0 (by simp) ?_ ?_
  · exact Upd.sub (Nat.le_refl _) (by simp[Zaq,Env.get,ZaH]) (by simp[Zao,Heap.get,Zat,ZaC,ZaH,bits,List.range,List.range.loop])
  rintro i hi Q hQ
  cases hx:fr[i]? with
  | none =>
    have hlen:=ZcE hx
    have hlt:decide ((i:Int)<(fr.length:Int))=false:=by simp;omega
    (repeat (any_goals (first
    | ((first
        | refine Zaf fun K hK=>?_
        | refine ZaS fun K hK=>?_
        | refine Zaj ?_
        | refine aw_d ?_);simp only[go_sem,hlt];(try (refine IsK.go (by assumption) ?_;clear hK));(repeat (refine IsQ.go (by assumption) ?_;(try dsimp only);(try simp only[reduceCtorEq,E0]))))
    | (refine Zaw ?_;(repeat (refine IsQ.go (by assumption) ?_;(try dsimp only);(try simp only[reduceCtorEq,E0])));simp only[go_sem,hlt])
    | (refine Zah fun Q hQ=>?_)
    | (refine Zai fun Q hQ=>?_)
    | (refine Zan ?_;(repeat (refine IsQ.go (by assumption) ?_;(try dsimp only);(try simp only[reduceCtorEq,E0]))))
    | (refine Zax ?_;(repeat (refine IsQ.go (by assumption) ?_;(try dsimp only);(try simp only[E0]))))
    | (refine Zay rfl ?_ ?_<;>intro hc<;>(try simp only[HC0] at hc))
    | ((first
        | refine Zap rfl ?_ ?_
        | refine ZaI rfl ?_ ?_)<;>intro hg<;>simp only[hg,go_sem,hlt]<;>(try simp only[reduceCtorEq,HC0] at hg)<;>(try (refine IsK.go (by assumption) ?_;clear hK))<;>(repeat (refine IsQ.go (by assumption) ?_;(try dsimp only);(try simp only[reduceCtorEq,E0])))))))
    have hfr:fr.take i=fr:=List.take_of_length_le hlen
    rw[hfr]
    refine Zf7 (fun j:Nat=>⟨[(24,.p (vi j)),(23,.p (vi hol.length)),(22,.p (ints hol)),(1,.bp 0 0),(2,.bp 1 0),(3,.bp 3 0)],
        [(3,.cells ((bits fr).map (fun b=>AV.p (vb b))++ [.mp 2])),(2,.map ((hol.take j).map dayE)),(1,.cells [.p (vb false),.p (vb false),.p (vb false),.p (vb false),.p (vb false),.p (vb false),.p (vb false),.p (.c (.map none))]),(0,.cells [.p (ints fr),.p (ints hol)])],4⟩)
      (fun i=>hol.length - i) (fun i=>i≤hol.length) 0 (by simp) (Upd.sub (Nat.le_refl _) (by simp[Zaq,Env.get,ZaH]) (by simp[Zao,Heap.get,Zat,ZaC,ZaH,ZbF])) ?_
    rintro j hj Q hQ
    cases hx:hol[j]? with
    | none =>
      have hlen:=ZcE hx
      have hlt:decide ((j:Int)<(hol.length:Int))=false:=by simp;omega
      have hhol:hol.take j=hol:=List.take_of_length_le hlen
      rw[hhol]
      (repeat (any_goals (first
    | ((first
        | refine Zaf fun K hK=>?_
        | refine ZaS fun K hK=>?_
        | refine Zaj ?_
        | refine aw_d ?_);simp only[go_sem,hlt,ZaK,Zha,Zc0];(try (refine IsK.go (by assumption) ?_;clear hK));(repeat (refine IsQ.go (by assumption) ?_;(try dsimp only);(try simp only[reduceCtorEq,E0]))))
    | (refine Zaw ?_;(repeat (refine IsQ.go (by assumption) ?_;(try dsimp only);(try simp only[reduceCtorEq,E0])));simp only[go_sem,ZaK,Zha,Zc0,Zc1])
    | (refine Zah fun Q hQ=>?_)
    | (refine Zai fun Q hQ=>?_)
    | (refine Zan ?_;(repeat (refine IsQ.go (by assumption) ?_;(try dsimp only);(try simp only[reduceCtorEq,E0]))))
    | (refine Zax ?_;(repeat (refine IsQ.go (by assumption) ?_;(try dsimp only);(try simp only[E0]))))
    | (refine Zay rfl ?_ ?_<;>intro hc<;>(try simp only[HC0] at hc))
    | ((first
        | refine Zap rfl ?_ ?_
        | refine ZaI rfl ?_ ?_)<;>intro hg<;>simp only[hg,go_sem,hlt,ZaK,Zha,Zc0,Zgq,ZhL,Zc1]<;>(try simp only[reduceCtorEq,HC0] at hg)<;>(try (refine IsK.go (by assumption) ?_;clear hK))<;>(repeat (refine IsQ.go (by assumption) ?_;(try dsimp only);(try simp only[reduceCtorEq,E0])))))))
    | some x =>
      have hlen:=ZaB hx
      have hlt:decide ((j:Int)<(hol.length:Int))=true:=by simp;omega
      have hw:IntKind.i64.wrap ((j:Int)+1)=((j+1:Nat):Int):=by rw[wrap64 (by omega) (by omega)];simp
      have hput:mput (.one .int) (vi x) (vb true) ((hol.take j).map dayE)=some ((hol.take (j+1)).map dayE):=by
        rw[mput_day,List.take_add_one,hx];rfl
        intro hm
        obtain⟨k,hk,he⟩:=List.getElem_of_mem hm
        obtain⟨hj2,e2⟩:=List.getElem?_eq_some_iff.1 hx
        have:=List.pairwise_iff_getElem.1 hcal.holS k j (by simp at hk;omega) hj2 (by simp at hk;omega)
        rw[List.getElem_take] at he
        omega
      (repeat (any_goals (first
    | ((first
        | refine Zaf fun K hK=>?_
        | refine ZaS fun K hK=>?_
        | refine Zaj ?_
        | refine aw_d ?_);simp only[go_sem,hlt,List.getElem?_map,hx,hw,Zfx,hput];(try (refine IsK.go (by assumption) ?_;clear hK));(repeat (refine IsQ.go (by assumption) ?_;(try dsimp only);(try simp only[reduceCtorEq,E0]))))
    | (refine Zaw ?_;(repeat (refine IsQ.go (by assumption) ?_;(try dsimp only);(try simp only[reduceCtorEq,E0])));simp only[go_sem,hlt,List.getElem?_map,hx,hw,ZaK,Zfx,hput])
    | (refine Zah fun Q hQ=>?_)
    | (refine Zai fun Q hQ=>?_)
    | (refine Zan ?_;(repeat (refine IsQ.go (by assumption) ?_;(try dsimp only);(try simp only[reduceCtorEq,E0]))))
    | (refine Zax ?_;(repeat (refine IsQ.go (by assumption) ?_;(try dsimp only);(try simp only[reduceCtorEq,E0]))))
    | (refine Zay rfl ?_ ?_<;>intro hc<;>(try simp only[HC0] at hc))
    | ((first
        | refine Zap rfl ?_ ?_
        | refine ZaI rfl ?_ ?_)<;>intro hg<;>simp only[hg,go_sem,hlt,List.getElem?_map,hx,hw,ZaK,Zfx,hput]<;>(try simp only[reduceCtorEq,HC0] at hg)<;>(try (refine IsK.go (by assumption) ?_;clear hK))<;>(repeat (refine IsQ.go (by assumption) ?_;(try dsimp only);(try simp only[reduceCtorEq,E0])))))))
      exact⟨j+1,by omega,by omega,(Upd.sub (Nat.le_refl _) (by simp[Zaq,Env.get,ZaH]) (by simp[Zao,Heap.get,Zat,ZaC,ZaH,ZbF]))⟩
  | some x =>
    have hlen:=ZaB hx
    have hlt:decide ((i:Int)<(fr.length:Int))=true:=by simp;omega
    have hw:IntKind.i64.wrap ((i:Int)+1)=((i+1:Nat):Int):=by rw[wrap64 (by omega) (by omega)];simp
    obtain⟨h0,h6⟩:=hcal.fr7 x (List.mem_of_getElem? hx)
    have h7:x.toNat<7:=by omega
    have h8:x.toNat+1≤8:=by omega
    (repeat (any_goals (first
    | ((first
        | refine Zaf fun K hK=>?_
        | refine ZaS fun K hK=>?_
        | refine Zaj ?_
        | refine aw_d ?_);simp only[go_sem,hlt,List.getElem?_map,hx,hw,h0,h7,h8,Nat.mul_one,ZaK];(try (refine IsK.go (by assumption) ?_;clear hK));(repeat (refine IsQ.go (by assumption) ?_;(try dsimp only);(try simp only[reduceCtorEq,E0]))))
    | (refine Zaw ?_;(repeat (refine IsQ.go (by assumption) ?_;(try dsimp only);(try simp only[reduceCtorEq,E0])));simp only[go_sem,hlt,List.getElem?_map,hx,hw,h0,h7,h8,Nat.mul_one,ZaK])
    | (refine Zah fun Q hQ=>?_)
    | (refine Zai fun Q hQ=>?_)
    | (refine Zan ?_;(repeat (refine IsQ.go (by assumption) ?_;(try dsimp only);(try simp only[reduceCtorEq,E0]))))
    | (refine Zax ?_;(repeat (refine IsQ.go (by assumption) ?_;(try dsimp only);(try simp only[reduceCtorEq,E0]))))
    | (refine Zay rfl ?_ ?_<;>intro hc<;>(try simp only[HC0] at hc))
    | ((first
        | refine Zap rfl ?_ ?_
        | refine ZaI rfl ?_ ?_)<;>intro hg<;>simp only[hg,go_sem,hlt,List.getElem?_map,hx,hw,h0,h7,h8,Nat.mul_one,ZaK]<;>(try simp only[reduceCtorEq,HC0] at hg)<;>(try (refine IsK.go (by assumption) ?_;clear hK))<;>(repeat (refine IsQ.go (by assumption) ?_;(try dsimp only);(try simp only[reduceCtorEq,E0])))))))
    refine⟨i+1,by omega,by omega,?_⟩
    rw[cells_set (fun b=>AV.p (vb b)) _ _ h0 h6]
    rw[show fr.take i++ [x]=fr.take (i+1) by rw[List.take_add_one,hx];rfl]
    exact (Upd.sub (Nat.le_refl _) (by simp[Zaq,Env.get,ZaH]) (by simp[Zao,Heap.get,Zat,ZaC,ZaH,ZbF]))
theorem work71 (fr hol:List Int) (d:Int) (h:0≤d):APure Try.prog 71 [.p (refCal fr hol),.p (vi d)] (.p (vb (isWork fr hol d))):=by
  refine apure 1 rf71_ok rfl ?_
  simp only[rf71,rk,ro,rm,rp,rb,rg,rF]
  have h0:0≤d.tmod 7:=Int.tmod_nonneg _ h
  have h6:d.tmod 7≤6:=by have:=Int.tmod_lt_of_pos d (show (0:Int)<7 by omega);omega
  have h7:(d.tmod 7).toNat<7:=by omega
  have h70:((7:Int)=0)=False:=by simp
  have hfind:=mfind_day d hol
  by_cases hm:d∈hol
  · rw[if_pos hm] at hfind
    (repeat (any_goals (first
    | ((first
        | refine Zaf fun K hK=>?_
        | refine ZaS fun K hK=>?_
        | refine Zaj ?_
        | refine aw_d ?_);simp only[go_sem,Zg5,Zg4,h70,h0,h7,Nat.mul_one,ZfZ _ _ _ h0 h6,ZaK];(try (refine IsK.go (by assumption) ?_;clear hK));(repeat (refine IsQ.go (by assumption) ?_;(try dsimp only);(try simp only[reduceCtorEq,E0]))))
    | (refine Zaw ?_;(repeat (refine IsQ.go (by assumption) ?_;(try dsimp only);(try simp only[reduceCtorEq,E0])));simp only[go_sem])
    | (refine Zah fun Q hQ=>?_)
    | (refine Zai fun Q hQ=>?_)
    | (refine Zan ?_;(repeat (refine IsQ.go (by assumption) ?_;(try dsimp only);(try simp only[reduceCtorEq,E0]))))
    | (refine Zax ?_;(repeat (refine IsQ.go (by assumption) ?_;(try dsimp only);(try simp only[reduceCtorEq,E0]))))
    | (refine Zay rfl ?_ ?_<;>intro hc<;>(try simp only[reduceCtorEq,HC0] at hc))
    | ((first
        | refine Zap rfl ?_ ?_
        | refine ZaI rfl ?_ ?_)<;>intro hg<;>simp only[hg,go_sem,Zfx,hfind]<;>(try simp only[HC0] at hg)<;>(try (refine IsK.go (by assumption) ?_;clear hK))<;>(repeat (refine IsQ.go (by assumption) ?_;(try dsimp only);(try simp only[reduceCtorEq,E0])))))))
    all_goals simp[isWork,hm]
  · rw[if_neg hm] at hfind
    (repeat (any_goals (first
    | ((first
        | refine Zaf fun K hK=>?_
        | refine ZaS fun K hK=>?_
        | refine Zaj ?_
        | refine aw_d ?_);simp only[go_sem,Zg5,Zg4,h70,h0,h7,Nat.mul_one,ZfZ _ _ _ h0 h6,ZaK];(try (refine IsK.go (by assumption) ?_;clear hK));(repeat (refine IsQ.go (by assumption) ?_;(try dsimp only);(try simp only[reduceCtorEq,E0]))))
    | (refine Zaw ?_;(repeat (refine IsQ.go (by assumption) ?_;(try dsimp only);(try simp only[reduceCtorEq,E0])));simp only[go_sem])
    | (refine Zah fun Q hQ=>?_)
    | (refine Zai fun Q hQ=>?_)
    | (refine Zan ?_;(repeat (refine IsQ.go (by assumption) ?_;(try dsimp only);(try simp only[reduceCtorEq,E0]))))
    | (refine Zax ?_;(repeat (refine IsQ.go (by assumption) ?_;(try dsimp only);(try simp only[reduceCtorEq,E0]))))
    | (refine Zay rfl ?_ ?_<;>intro hc<;>(try simp only[reduceCtorEq,HC0] at hc))
    | ((first
        | refine Zap rfl ?_ ?_
        | refine ZaI rfl ?_ ?_)<;>intro hg<;>simp only[hg,go_sem,Zfx,hfind]<;>(try simp only[HC0] at hg)<;>(try (refine IsK.go (by assumption) ?_;clear hK))<;>(repeat (refine IsQ.go (by assumption) ?_;(try dsimp only);(try simp only[reduceCtorEq,E0])))))))
    all_goals simp[isWork,hm,hg]
theorem cw_le (fr hol:List Int) (a:Int):∀n,cw fr hol a n≤n
 | 0=>Nat.le_refl _
 | n+1=>by have:=cw_le fr hol a n;simp only[cw];split<;>omega
theorem count75 (fr hol:List Int) (a b:Int) (ha:0≤a) (hb:b≤1000001):APure Try.prog 75 [.p (refCal fr hol),.p (vi a),.p (vi b)] (.p (vi (cw fr hol a (b - a).toNat))):=by
  refine apure 1 rf75_ok rfl ?_
  simp only[rf75,rk,ro,rm,rb,rg]
  (repeat (any_goals (first
    | ((first
        | refine Zaf fun K hK=>?_
        | refine ZaS fun K hK=>?_
        | refine Zaj ?_
        | refine aw_d ?_);simp only[go_sem,Zg5,Zg4];(try (refine IsK.go (by assumption) ?_;clear hK));(repeat (refine IsQ.go (by assumption) ?_;(try dsimp only);(try simp only[reduceCtorEq,E0]))))
    | (refine Zaw ?_;(repeat (refine IsQ.go (by assumption) ?_;(try dsimp only);(try simp only[reduceCtorEq,E0])));simp only[go_sem,Zg5,Zg4])
    | (refine Zah fun Q hQ=>?_)
    | (refine Zai fun Q hQ=>?_)
    | (refine Zan ?_;(repeat (refine IsQ.go (by assumption) ?_;(try dsimp only);(try simp only[reduceCtorEq,E0]))))
    | (refine Zax ?_;(repeat (refine IsQ.go (by assumption) ?_;(try dsimp only);(try simp only[reduceCtorEq,E0]))))
    | (refine Zay rfl ?_ ?_<;>intro hc<;>(try simp only[reduceCtorEq,HC0] at hc))
    | ((first
        | refine Zap rfl ?_ ?_
        | refine ZaI rfl ?_ ?_)<;>intro hg<;>simp only[hg,go_sem,Zg5,Zg4]<;>(try simp only[reduceCtorEq,HC0] at hg)<;>(try (refine IsK.go (by assumption) ?_;clear hK))<;>(repeat (refine IsQ.go (by assumption) ?_;(try dsimp only);(try simp only[reduceCtorEq,E0])))))))
  refine Zf7 (fun i:Nat=>⟨[(8,.p (vi (a+i))),(7,.p (vi (cw fr hol a i))),(3,.bp 0 0),(2,.p (vi b))],[(0,.cells ((bits fr).map (fun b=>AV.p (vb b))++ [.p (.mp (hol.map dayE))]))],1⟩) (fun i=>(b - a).toNat - i) (fun i=>i≤(b - a).toNat) 0 (by omega) (by simp only[cw];exact (Upd.sub (Nat.le_refl _) (by simp[Zaq,Env.get,ZaH]) (by simp[Zao,Heap.get,Zat,ZaC,ZaH,ZbF]))) ?_
  rintro i hi Q hQ
  have hcw:=cw_le fr hol a i
  by_cases hlt:a+(i:Int)<b
  · have hd:decide (a+(i:Int)<b)=true:=by simpa using hlt
    have hw:IntKind.i64.wrap (a+(i:Int)+1)=a+((i+1:Nat):Int):=by rw[wrap64 (by omega) (by omega)];omega
    (repeat (any_goals (first
    | ((first
        | refine Zaf fun K hK=>?_
        | refine ZaS fun K hK=>?_
        | refine Zaj ?_
        | refine aw_d ?_);simp only[go_sem,hd,ZaK,Zha,Zc0];(try (refine IsK.go (by assumption) ?_;clear hK));(repeat (refine IsQ.go (by assumption) ?_;(try dsimp only);(try simp only[reduceCtorEq,E0]))))
    | (refine Zaw ?_;(repeat (refine IsQ.go (by assumption) ?_;(try dsimp only);(try simp only[reduceCtorEq,E0])));simp only[go_sem,hd,hw,ZaK,Zha,Zc0])
    | (refine Zah fun Q hQ=>?_)
    | (refine Zai fun Q hQ=>?_)
    | (refine Zan ?_;(repeat (refine IsQ.go (by assumption) ?_;(try dsimp only);(try simp only[reduceCtorEq,E0]))))
    | (refine Zax ?_;(repeat (refine IsQ.go (by assumption) ?_;(try dsimp only);(try simp only[reduceCtorEq,E0]))))
    | (refine Zay rfl ?_ ?_<;>intro hc<;>(try simp only[HC0] at hc))
    | ((first
        | refine Zap rfl ?_ ?_
        | refine ZaI rfl ?_ ?_)<;>intro hg<;>simp only[hg,go_sem,hd,hw,ZaK,Zha,Zc0]<;>(try simp only[reduceCtorEq,HC0] at hg)<;>(try (refine IsK.go (by assumption) ?_;clear hK))<;>(repeat (refine IsQ.go (by assumption) ?_;(try dsimp only);(try simp only[reduceCtorEq,E0])))))))
    refine Zcd (work71 fr hol (a+i) (by omega)) 1 (by simp only[go_sem]) (by simp only[ZaC,ZaH,and_self]) rfl ?_;(try dsimp only);(try simp only[go_sem,Zc1]);(try (refine IsK.go (by assumption) ?_;clear hK));(repeat (refine IsQ.go (by assumption) ?_;(try dsimp only);(try simp only[reduceCtorEq,E0])))
    have hw3:IntKind.i64.wrap ((cw fr hol a i:Int)+1)=((cw fr hol a i+1:Nat):Int):=by rw[wrap64 (by omega) (by omega)];simp
    (repeat (any_goals (first
    | ((first
        | refine Zaf fun K hK=>?_
        | refine ZaS fun K hK=>?_
        | refine Zaj ?_
        | refine aw_d ?_);simp only[go_sem,hw,hw3];(try (refine IsK.go (by assumption) ?_;clear hK));(repeat (refine IsQ.go (by assumption) ?_;(try dsimp only);(try simp only[reduceCtorEq,E0]))))
    | (refine Zaw ?_;(repeat (refine IsQ.go (by assumption) ?_;(try dsimp only);(try simp only[reduceCtorEq,E0])));simp only[go_sem,hw,hw3])
    | (refine Zah fun Q hQ=>?_)
    | (refine Zai fun Q hQ=>?_)
    | (refine Zan ?_;(repeat (refine IsQ.go (by assumption) ?_;(try dsimp only);(try simp only[reduceCtorEq,E0]))))
    | (refine Zax ?_;(repeat (refine IsQ.go (by assumption) ?_;(try dsimp only);(try simp only[reduceCtorEq,E0]))))
    | (refine Zay rfl ?_ ?_<;>intro hc<;>(try simp only[reduceCtorEq,HC0] at hc))
    | ((first
        | refine Zap rfl ?_ ?_
        | refine ZaI rfl ?_ ?_)<;>intro hg<;>simp only[hg,go_sem,hw,hw3]<;>(try simp only[reduceCtorEq,HC0] at hg)<;>(try (refine IsK.go (by assumption) ?_;clear hK))<;>(repeat (refine IsQ.go (by assumption) ?_;(try dsimp only);(try simp only[reduceCtorEq,E0])))))))
    · refine⟨i+1,by omega,by omega,?_⟩
      simp only[cw,hc,if_true]
      exact (Upd.sub (Nat.le_refl _) (by simp[Zaq,Env.get,ZaH]) (by simp[Zao,Heap.get,Zat,ZaC,ZaH,ZbF]))
    · refine⟨i+1,by omega,by omega,?_⟩
      simp only[cw,hc,Bool.false_eq_true,if_false,Nat.add_zero]
      exact (Upd.sub (Nat.le_refl _) (by simp[Zaq,Env.get,ZaH]) (by simp[Zao,Heap.get,Zat,ZaC,ZaH,ZbF]))
  · have hd:decide (a+(i:Int)<b)=false:=by simpa using hlt
    have he:i=(b - a).toNat:=by omega
    subst he
    (repeat (any_goals (first
    | ((first
        | refine Zaf fun K hK=>?_
        | refine ZaS fun K hK=>?_
        | refine Zaj ?_
        | refine aw_d ?_);simp only[go_sem,hd];(try (refine IsK.go (by assumption) ?_;clear hK));(repeat (refine IsQ.go (by assumption) ?_;(try dsimp only);(try simp only[reduceCtorEq,E0]))))
    | (refine Zaw ?_;(repeat (refine IsQ.go (by assumption) ?_;(try dsimp only);(try simp only[reduceCtorEq,E0])));simp only[go_sem])
    | (refine Zah fun Q hQ=>?_)
    | (refine Zai fun Q hQ=>?_)
    | (refine Zan ?_;(repeat (refine IsQ.go (by assumption) ?_;(try dsimp only);(try simp only[reduceCtorEq,E0]))))
    | (refine Zax ?_;(repeat (refine IsQ.go (by assumption) ?_;(try dsimp only);(try simp only[E0]))))
    | (refine Zay rfl ?_ ?_<;>intro hc<;>(try simp only[HC0] at hc))
    | ((first
        | refine Zap rfl ?_ ?_
        | refine ZaI rfl ?_ ?_)<;>intro hg<;>simp only[hg,go_sem,hd]<;>(try simp only[reduceCtorEq,HC0] at hg)<;>(try (refine IsK.go (by assumption) ?_;clear hK))<;>(repeat (refine IsQ.go (by assumption) ?_;(try dsimp only);(try simp only[reduceCtorEq,E0])))))))
theorem add76 (fr hol:List Int) (d n:Int) (hd:0≤d) (hd2:d≤1000000) (hn:0≤n) (hn2:n≤1000000) :
    APure Try.prog 76 [.p (refCal fr hol),.p (vi d),.p (vi n)] (.tup [.p (vi (d+addK fr hol d n)),.p (vb (decide (n≤(cw fr hol d (addK fr hol d n):Int)∧d+addK fr hol d n≤1000000)))]):=by
  refine apure 1 rf76_ok rfl ?_
  simp only[rf76,rk,ro,rm,rp,rb,rg,rF]
  (repeat (any_goals (first
    | ((first
        | refine Zaf fun K hK=>?_
        | refine ZaS fun K hK=>?_
        | refine Zaj ?_
        | refine aw_d ?_);simp only[go_sem,Zg5,Zg4];(try (refine IsK.go (by assumption) ?_;clear hK));(repeat (refine IsQ.go (by assumption) ?_;(try dsimp only);(try simp only[reduceCtorEq,E0]))))
    | (refine Zaw ?_;(repeat (refine IsQ.go (by assumption) ?_;(try dsimp only);(try simp only[reduceCtorEq,E0])));simp only[go_sem,Zg5,Zg4])
    | (refine Zah fun Q hQ=>?_)
    | (refine Zai fun Q hQ=>?_)
    | (refine Zan ?_;(repeat (refine IsQ.go (by assumption) ?_;(try dsimp only);(try simp only[reduceCtorEq,E0]))))
    | (refine Zax ?_;(repeat (refine IsQ.go (by assumption) ?_;(try dsimp only);(try simp only[reduceCtorEq,E0]))))
    | (refine Zay rfl ?_ ?_<;>intro hc<;>(try simp only[reduceCtorEq,HC0] at hc))
    | ((first
        | refine Zap rfl ?_ ?_
        | refine ZaI rfl ?_ ?_)<;>intro hg<;>simp only[hg,go_sem,Zg5,Zg4]<;>(try simp only[reduceCtorEq,HC0] at hg)<;>(try (refine IsK.go (by assumption) ?_;clear hK))<;>(repeat (refine IsQ.go (by assumption) ?_;(try dsimp only);(try simp only[reduceCtorEq,E0])))))))
  obtain⟨f1,f2,f3⟩:=first_spec (fun k=>decide (n≤(cw fr hol d k:Int))) (1000001 - d).toNat
  rw[show first (fun k=>decide (n≤(cw fr hol d k:Int))) (1000001 - d).toNat=addK fr hol d n from rfl] at f1 f2 f3
  generalize hK:addK fr hol d n=K at *
  refine Zf7 (fun i:Nat=>⟨[(8,.p (vi (d+i))),(2,.p (vi (n - cw fr hol d i))),(3,.bp 0 0)],[(0,.cells ((bits fr).map (fun b=>AV.p (vb b))++ [.p (.mp (hol.map dayE))]))],1⟩) (fun i=>K - i) (fun i=>i≤K∧(cw fr hol d i:Int)≤n) 0 ⟨by omega,by simp[cw];omega⟩ (by simp only[cw];exact (Upd.sub (Nat.le_refl _) (by simp[Zaq,Env.get,ZaH]) (by simp[Zao,Heap.get,Zat,ZaC,ZaH,ZbF]))) ?_
  rintro i ⟨hi,hle⟩ Q hQ
  have hcw:=cw_le fr hol d i
  by_cases hlt:i<K
  · have hp:=f2 i hlt
    simp only[decide_eq_false_iff_not] at hp
    have h1:decide (n - (cw fr hol d i:Int)>0)=true:=by simp;omega
    have h2:decide (d+(i:Int)≤1000000)=true:=by simp;omega
    have hw:IntKind.i64.wrap (d+(i:Int)+1)=d+((i+1:Nat):Int):=by rw[wrap64 (by omega) (by omega)];omega
    (repeat (any_goals (first
    | ((first
        | refine Zaf fun K hK=>?_
        | refine ZaS fun K hK=>?_
        | refine Zaj ?_
        | refine aw_d ?_);simp only[go_sem,h1,h2,ZaK,Zha,Zc0];(try (refine IsK.go (by assumption) ?_;clear hK));(repeat (refine IsQ.go (by assumption) ?_;(try dsimp only);(try simp only[reduceCtorEq,E0]))))
    | (refine Zaw ?_;(repeat (refine IsQ.go (by assumption) ?_;(try dsimp only);(try simp only[reduceCtorEq,E0])));simp only[go_sem,h1,h2,hw,ZaK,Zha,Zc0])
    | (refine Zah fun Q hQ=>?_)
    | (refine Zai fun Q hQ=>?_)
    | (refine Zan ?_;(repeat (refine IsQ.go (by assumption) ?_;(try dsimp only);(try simp only[reduceCtorEq,E0]))))
    | (refine Zax ?_;(repeat (refine IsQ.go (by assumption) ?_;(try dsimp only);(try simp only[reduceCtorEq,E0]))))
    | (refine Zay rfl ?_ ?_<;>intro hc<;>(try simp only[HC0] at hc))
    | ((first
        | refine Zap rfl ?_ ?_
        | refine ZaI rfl ?_ ?_)<;>intro hg<;>simp only[hg,go_sem,h1,h2,hw,ZaK,Zha,Zc0]<;>(try simp only[reduceCtorEq,HC0] at hg)<;>(try (refine IsK.go (by assumption) ?_;clear hK))<;>(repeat (refine IsQ.go (by assumption) ?_;(try dsimp only);(try simp only[reduceCtorEq,E0])))))))
    refine Zcd (work71 fr hol (d+i) (by omega)) 1 (by simp only[go_sem]) (by simp only[ZaC,ZaH,and_self]) rfl ?_;(try dsimp only);(try simp only[go_sem,Zc1]);(try (refine IsK.go (by assumption) ?_;clear hK));(repeat (refine IsQ.go (by assumption) ?_;(try dsimp only);(try simp only[reduceCtorEq,E0])))
    have hw3:IntKind.i64.wrap (n - (cw fr hol d i:Int) - 1)=n - ((cw fr hol d i+1:Nat):Int):=by rw[wrap64 (by omega) (by omega)];omega
    (repeat (any_goals (first
    | ((first
        | refine Zaf fun K hK=>?_
        | refine ZaS fun K hK=>?_
        | refine Zaj ?_
        | refine aw_d ?_);simp only[go_sem,hw,hw3];(try (refine IsK.go (by assumption) ?_;clear hK));(repeat (refine IsQ.go (by assumption) ?_;(try dsimp only);(try simp only[reduceCtorEq,E0]))))
    | (refine Zaw ?_;(repeat (refine IsQ.go (by assumption) ?_;(try dsimp only);(try simp only[reduceCtorEq,E0])));simp only[go_sem,hw,hw3])
    | (refine Zah fun Q hQ=>?_)
    | (refine Zai fun Q hQ=>?_)
    | (refine Zan ?_;(repeat (refine IsQ.go (by assumption) ?_;(try dsimp only);(try simp only[reduceCtorEq,E0]))))
    | (refine Zax ?_;(repeat (refine IsQ.go (by assumption) ?_;(try dsimp only);(try simp only[reduceCtorEq,E0]))))
    | (refine Zay rfl ?_ ?_<;>intro hc<;>(try simp only[reduceCtorEq,HC0] at hc))
    | ((first
        | refine Zap rfl ?_ ?_
        | refine ZaI rfl ?_ ?_)<;>intro hg<;>simp only[hg,go_sem,hw,hw3]<;>(try simp only[reduceCtorEq,HC0] at hg)<;>(try (refine IsK.go (by assumption) ?_;clear hK))<;>(repeat (refine IsQ.go (by assumption) ?_;(try dsimp only);(try simp only[reduceCtorEq,E0])))))))
    · refine⟨i+1,⟨by omega,by simp only[cw,hc,if_true];omega⟩,by omega,?_⟩
      simp only[cw,hc,if_true]
      exact (Upd.sub (Nat.le_refl _) (by simp[Zaq,Env.get,ZaH]) (by simp[Zao,Heap.get,Zat,ZaC,ZaH,ZbF]))
    · refine⟨i+1,⟨by omega,by simp only[cw,hc,Bool.false_eq_true,if_false,Nat.add_zero];omega⟩,by omega,?_⟩
      simp only[cw,hc,Bool.false_eq_true,if_false,Nat.add_zero]
      exact (Upd.sub (Nat.le_refl _) (by simp[Zaq,Env.get,ZaH]) (by simp[Zao,Heap.get,Zat,ZaC,ZaH,ZbF]))
  · have hiK:i=K:=by omega
    subst hiK
    by_cases h3:n≤(cw fr hol d i:Int)
    · have h1:decide (n - (cw fr hol d i:Int)>0)=false:=by simp;omega
      have h4:((n - (cw fr hol d i:Int)) == 0)=true:=by simp;omega
      (repeat (any_goals (first
    | ((first
        | refine Zaf fun K hK=>?_
        | refine ZaS fun K hK=>?_
        | refine Zaj ?_
        | refine aw_d ?_);simp only[go_sem,h1,h4];(try (refine IsK.go (by assumption) ?_;clear hK));(repeat (refine IsQ.go (by assumption) ?_;(try dsimp only);(try simp only[reduceCtorEq,E0]))))
    | (refine Zaw ?_;(repeat (refine IsQ.go (by assumption) ?_;(try dsimp only);(try simp only[reduceCtorEq,E0])));simp only[go_sem])
    | (refine Zah fun Q hQ=>?_)
    | (refine Zai fun Q hQ=>?_)
    | (refine Zan ?_;(repeat (refine IsQ.go (by assumption) ?_;(try dsimp only);(try simp only[reduceCtorEq,E0]))))
    | (refine Zax ?_;(repeat (refine IsQ.go (by assumption) ?_;(try dsimp only);(try simp only[E0]))))
    | (refine Zay rfl ?_ ?_<;>intro hc<;>(try simp only[HC0] at hc))
    | ((first
        | refine Zap rfl ?_ ?_
        | refine ZaI rfl ?_ ?_)<;>intro hg<;>simp only[hg,go_sem,h1,h4]<;>(try simp only[reduceCtorEq,HC0] at hg)<;>(try (refine IsK.go (by assumption) ?_;clear hK))<;>(repeat (refine IsQ.go (by assumption) ?_;(try dsimp only);(try simp only[reduceCtorEq,E0])))))))
      simp[h3]
    · have h1:decide (n - (cw fr hol d i:Int)>0)=true:=by simp;omega
      have h4:((n - (cw fr hol d i:Int)) == 0)=false:=by simp;omega
      have hend:i=(1000001 - d).toNat:=by
        rcases Nat.lt_or_ge i (1000001 - d).toNat with h | h
        · have:=f3 h;simp only[decide_eq_true_eq] at this;exact absurd this h3
        · omega
      have h2:decide (d+(i:Int)≤1000000)=false:=by simp;omega
      (repeat (any_goals (first
    | ((first
        | refine Zaf fun K hK=>?_
        | refine ZaS fun K hK=>?_
        | refine Zaj ?_
        | refine aw_d ?_);simp only[go_sem,h1,h2,h4];(try (refine IsK.go (by assumption) ?_;clear hK));(repeat (refine IsQ.go (by assumption) ?_;(try dsimp only);(try simp only[reduceCtorEq,E0]))))
    | (refine Zaw ?_;(repeat (refine IsQ.go (by assumption) ?_;(try dsimp only);(try simp only[reduceCtorEq,E0])));simp only[go_sem])
    | (refine Zah fun Q hQ=>?_)
    | (refine Zai fun Q hQ=>?_)
    | (refine Zan ?_;(repeat (refine IsQ.go (by assumption) ?_;(try dsimp only);(try simp only[reduceCtorEq,E0]))))
    | (refine Zax ?_;(repeat (refine IsQ.go (by assumption) ?_;(try dsimp only);(try simp only[E0]))))
    | (refine Zay rfl ?_ ?_<;>intro hc<;>(try simp only[HC0] at hc))
    | ((first
        | refine Zap rfl ?_ ?_
        | refine ZaI rfl ?_ ?_)<;>intro hg<;>simp only[hg,go_sem,h1,h2,h4]<;>(try simp only[reduceCtorEq,HC0] at hg)<;>(try (refine IsK.go (by assumption) ?_;clear hK))<;>(repeat (refine IsQ.go (by assumption) ?_;(try dsimp only);(try simp only[reduceCtorEq,E0])))))))
      simp[h3]
end Go.Abs
