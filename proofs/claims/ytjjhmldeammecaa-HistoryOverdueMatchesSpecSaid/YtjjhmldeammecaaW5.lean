/-
  Walks of history:how a calendar counts.
-/
import Derived.Test.YtjjhmldeammecaaW4
namespace Go.Abs
open Go Go.Proofs
set_option maxRecDepth 4000
abbrev wkP (fr hol:List Int):PV:= .agg ((bits fr).map vb++ [vi (7 - fr.length),ints (hol.filter (notFree fr))])
theorem ints_rows (l:List Int):(∀r∈List.map (fun x=> [vi x]) l,r.length=1)=True:=by simp
theorem ints_app (l:List Int) (x:Int):List.map (fun x=> [vi x]) l++ [[vi x]]=List.map (fun x=> [vi x]) (l++ [x]):=by simp
theorem weekOf73 {fr hol:List Int} (hcal:CalOk fr hol):APure Try.prog 73 [.p (calP fr hol)] (.p (wkP fr hol)):=by
  refine apure 1 rf73_ok rfl ?_
  simp only[rf73,rk,ro,rm,rn,rb,rg,rT]
  have hl1:=hcal.frL
  have hl2:=hcal.holL
  have hw7:IntKind.i64.wrap (7 - (fr.length:Int))=7 - (fr.length:Int):=wrap64 (by omega) (by omega)
  (repeat (any_goals (first
    | ((first
        | refine Zaf fun K hK=>?_
        | refine ZaS fun K hK=>?_
        | refine Zaj ?_
        | refine aw_d ?_);simp only[go_sem,hw7];(try (refine IsK.go (by assumption) ?_;clear hK));(repeat (refine IsQ.go (by assumption) ?_;(try dsimp only);(try simp only[reduceCtorEq,E0]))))
    | (refine Zaw ?_;(repeat (refine IsQ.go (by assumption) ?_;(try dsimp only);(try simp only[reduceCtorEq,E0])));simp only[go_sem,hw7])
    | (refine Zah fun Q hQ=>?_)
    | (refine Zai fun Q hQ=>?_)
    | (refine Zan ?_;(repeat (refine IsQ.go (by assumption) ?_;(try dsimp only);(try simp only[reduceCtorEq,E0]))))
    | (refine Zax ?_;(repeat (refine IsQ.go (by assumption) ?_;(try dsimp only);(try simp only[reduceCtorEq,E0]))))
    | (refine Zay rfl ?_ ?_<;>intro hc<;>(try simp only[reduceCtorEq,HC0] at hc))
    | ((first
        | refine Zap rfl ?_ ?_
        | refine ZaI rfl ?_ ?_)<;>intro hg<;>simp only[hg,go_sem,hw7]<;>(try simp only[reduceCtorEq,HC0] at hg)<;>(try (refine IsK.go (by assumption) ?_;clear hK))<;>(repeat (refine IsQ.go (by assumption) ?_;(try dsimp only);(try simp only[reduceCtorEq,E0])))))))
  refine Zf7 (fun i:Nat=>⟨[(16,.p (vi i)),(15,.p (vi fr.length)),(14,.p (ints fr)),(1,.bp 0 0),(2,.bp 1 0),(3,.bp 2 0)],
      [(2,.cells ((bits (fr.take i)).map (fun b=>AV.p (vb b))++ [.p (vi (7 - fr.length)),.p (.c (.slice none 0 0))])),(1,.cells [.p (vb false),.p (vb false),.p (vb false),.p (vb false),.p (vb false),.p (vb false),.p (vb false),.p (vi 0),.p (.c (.slice none 0 0))]),(0,.cells [.p (ints fr),.p (ints hol)])],3⟩)
    (fun i=>fr.length - i) (fun i=>i≤fr.length) 0 (by simp) ?_ ?_
  · exact Upd.sub (Nat.le_refl _) (by simp[Zaq,Env.get,ZaH]) (by simp[Zao,Heap.get,Zat,ZaC,ZaH,bits,List.range,List.range.loop])
  rintro i hi Q hQ
  cases hx:fr[i]? with
  | none =>
    have hlen:=ZcE hx
    have hlt:decide ((i:Int)<(fr.length:Int))=false:=by simp;omega
    (repeat (any_goals (first
    | ((first
        | refine Zaf fun K hK=>?_
        | refine ZaS fun K hK=>?_
        | refine Zaj ?_
        | refine aw_d ?_);simp only[go_sem,hlt];(try (refine IsK.go (by assumption) ?_;clear hK));(repeat (refine IsQ.go (by assumption) ?_;(try dsimp only);(try simp only[reduceCtorEq,E0]))))
    | (refine Zaw ?_;(repeat (refine IsQ.go (by assumption) ?_;(try dsimp only);(try simp only[reduceCtorEq,E0])));simp only[go_sem,hlt])
    | (refine Zah fun Q hQ=>?_)
    | (refine Zai fun Q hQ=>?_)
    | (refine Zan ?_;(repeat (refine IsQ.go (by assumption) ?_;(try dsimp only);(try simp only[reduceCtorEq,E0]))))
    | (refine Zax ?_;(repeat (refine IsQ.go (by assumption) ?_;(try dsimp only);(try simp only[E0]))))
    | (refine Zay rfl ?_ ?_<;>intro hc<;>(try simp only[HC0] at hc))
    | ((first
        | refine Zap rfl ?_ ?_
        | refine ZaI rfl ?_ ?_)<;>intro hg<;>simp only[hg,go_sem,hlt]<;>(try simp only[reduceCtorEq,HC0] at hg)<;>(try (refine IsK.go (by assumption) ?_;clear hK))<;>(repeat (refine IsQ.go (by assumption) ?_;(try dsimp only);(try simp only[reduceCtorEq,E0])))))))
    have hfr:fr.take i=fr:=List.take_of_length_le hlen
    rw[hfr]
    refine ZeM (Upd.ownCell _ 2 8 rfl (by rw[←List.head?_drop,Zdf];rfl)) ?_
    refine Zf7 (fun j:Nat=>⟨[(27,.p (vi j)),(26,.p (vi hol.length)),(25,.p (ints hol)),(1,.bp 0 0),(2,.bp 1 0),(3,.bp 2 0)],
        [(3,.slice (((hol.take j).filter (notFree fr)).map fun x=> [vi x])),(2,.cells ((bits fr).map (fun b=>AV.p (vb b))++ [.p (vi (7 - fr.length)),.os 3 0 ((hol.take j).filter (notFree fr)).length])),(1,.cells [.p (vb false),.p (vb false),.p (vb false),.p (vb false),.p (vb false),.p (vb false),.p (vb false),.p (vi 0),.p (.c (.slice none 0 0))]),(0,.cells [.p (ints fr),.p (ints hol)])],4⟩)
      (fun i=>hol.length - i) (fun i=>i≤hol.length) 0 (by simp) ?_ ?_
    · refine Upd.sub (Nat.le_refl _) (by simp[Zaq,Env.get,ZaH]) ?_
      simp[Zao,Heap.get,Heap.set,Zat,ZaC,ZaH,ZbF,cells_set8]
    rintro j hj Q hQ
    cases hx:hol[j]? with
    | none =>
      have hlen:=ZcE hx
      have hlt:decide ((j:Int)<(hol.length:Int))=false:=by simp;omega
      have hhol:hol.take j=hol:=List.take_of_length_le hlen
      rw[hhol]
      (repeat (any_goals (first
    | ((first
        | refine Zaf fun K hK=>?_
        | refine ZaS fun K hK=>?_
        | refine Zaj ?_
        | refine aw_d ?_);simp only[go_sem,hlt,ZaK,Zcy,Zc0];(try (refine IsK.go (by assumption) ?_;clear hK));(repeat (refine IsQ.go (by assumption) ?_;(try dsimp only);(try simp only[reduceCtorEq,E0]))))
    | (refine Zaw ?_;(repeat (refine IsQ.go (by assumption) ?_;(try dsimp only);(try simp only[reduceCtorEq,E0])));simp only[go_sem,ZaK,Zcy,Zc0,Zc1])
    | (refine Zah fun Q hQ=>?_)
    | (refine Zai fun Q hQ=>?_)
    | (refine Zan ?_;(repeat (refine IsQ.go (by assumption) ?_;(try dsimp only);(try simp only[reduceCtorEq,E0]))))
    | (refine Zax ?_;(repeat (refine IsQ.go (by assumption) ?_;(try dsimp only);(try simp only[E0]))))
    | (refine Zay rfl ?_ ?_<;>intro hc<;>(try simp only[HC0] at hc))
    | ((first
        | refine Zap rfl ?_ ?_
        | refine ZaI rfl ?_ ?_)<;>intro hg<;>simp only[hg,go_sem,hlt,ZaK,Zcy,Zc0,Zgq,Ze4,Zc1]<;>(try simp only[reduceCtorEq,HC0] at hg)<;>(try (refine IsK.go (by assumption) ?_;clear hK))<;>(repeat (refine IsQ.go (by assumption) ?_;(try dsimp only);(try simp only[reduceCtorEq,E0])))))))
    | some x =>
      have hlen:=ZaB hx
      have hlt:decide ((j:Int)<(hol.length:Int))=true:=by simp;omega
      have hw:IntKind.i64.wrap ((j:Int)+1)=((j+1:Nat):Int):=by rw[wrap64 (by omega) (by omega)];simp
      have hx0:=(hcal.holM x (List.mem_of_getElem? hx)).1
      have h0:0≤x.tmod 7:=Int.tmod_nonneg _ hx0
      have h6:x.tmod 7≤6:=by have:=Int.tmod_lt_of_pos x (show (0:Int)<7 by omega);omega
      have h7:(x.tmod 7).toNat<7:=by omega
      have hstep:(hol.take (j+1)).filter (notFree fr)=if notFree fr x then (hol.take j).filter (notFree fr)++ [x] else (hol.take j).filter (notFree fr):=by
        rw[List.take_add_one,hx,Option.toList_some,List.filter_append]
        cases h:notFree fr x<;>simp[h]
      have hcnt:((hol.take j).filter (notFree fr)).length≤2000:=Nat.le_trans (List.length_filter_le _ _) (by simp;omega)
      generalize hL:(hol.take j).filter (notFree fr)=L at *
      have hb1:((L.length+1)*8≤lim)=True:=by unfold lim;simp;omega
      have hb2:(L.length+1≤lim)=True:=by unfold lim;simp;omega
      (repeat (any_goals (first
    | ((first
        | refine Zaf fun K hK=>?_
        | refine ZaS fun K hK=>?_
        | refine Zaj ?_
        | refine aw_d ?_);simp only[go_sem,hlt,List.getElem?_map,hx,hw,ZaK,Zdf,h0,h7,Nat.mul_one,ZfZ _ _ _ h0 h6,hb1,hb2,ints_rows];(try (refine IsK.go (by assumption) ?_;clear hK));(repeat (refine IsQ.go (by assumption) ?_;(try dsimp only);(try simp only[reduceCtorEq,E0]))))
    | (refine Zaw ?_;(repeat (refine IsQ.go (by assumption) ?_;(try dsimp only);(try simp only[reduceCtorEq,E0])));simp only[go_sem,hlt,List.getElem?_map,hx,hw,ZaK,Zdf,h0,h7,Nat.mul_one,ZfZ _ _ _ h0 h6,hb1,hb2,ints_rows])
    | (refine Zah fun Q hQ=>?_)
    | (refine Zai fun Q hQ=>?_)
    | (refine Zan ?_;(repeat (refine IsQ.go (by assumption) ?_;(try dsimp only);(try simp only[reduceCtorEq,E0]))))
    | (refine Zax ?_;(repeat (refine IsQ.go (by assumption) ?_;(try dsimp only);(try simp only[reduceCtorEq,E0]))))
    | (refine Zay rfl ?_ ?_<;>intro hc<;>(try simp only[HC0] at hc))
    | ((first
        | refine Zap rfl ?_ ?_
        | refine ZaI rfl ?_ ?_)<;>intro hg<;>simp only[hg,go_sem,hlt,List.getElem?_map,hx,hw,ZaK,Zdf,h0,h7,Nat.mul_one,ZfZ _ _ _ h0 h6,hb1,hb2,ints_rows]<;>(try simp only[reduceCtorEq,HC0] at hg)<;>(try (refine IsK.go (by assumption) ?_;clear hK))<;>(repeat (refine IsQ.go (by assumption) ?_;(try dsimp only);(try simp only[reduceCtorEq,E0])))))))
      · have hnf:notFree fr x=true:=by simpa [notFree] using hc
        refine⟨j+1,by omega,by omega,?_⟩
        simp only[cells_put8,ints_app,hstep,hnf,if_true]
        rw[show L.length+1=(L++ [x]).length by simp]
        exact (Upd.sub (Nat.le_refl _) (by simp[Zaq,Env.get,ZaH]) (by simp[Zao,Heap.get,Zat,ZaC,ZaH,ZbF]))
      · have hnf:notFree fr x=false:=by simpa [notFree] using hc
        refine⟨j+1,by omega,by omega,?_⟩
        simp only[hstep,hnf,Bool.false_eq_true,if_false]
        exact (Upd.sub (Nat.le_refl _) (by simp[Zaq,Env.get,ZaH]) (by simp[Zao,Heap.get,Zat,ZaC,ZaH,ZbF]))
  | some x =>
    have hlen:=ZaB hx
    have hlt:decide ((i:Int)<(fr.length:Int))=true:=by simp;omega
    have hw:IntKind.i64.wrap ((i:Int)+1)=((i+1:Nat):Int):=by rw[wrap64 (by omega) (by omega)];simp
    obtain⟨h0,h6⟩:=hcal.fr7 x (List.mem_of_getElem? hx)
    have h7:x.toNat<7:=by omega
    have h8:x.toNat+1≤9:=by omega
    (repeat (any_goals (first
    | ((first
        | refine Zaf fun K hK=>?_
        | refine ZaS fun K hK=>?_
        | refine Zaj ?_
        | refine aw_d ?_);simp only[go_sem,hlt,List.getElem?_map,hx,hw,h0,h7,h8,Nat.mul_one,ZaK];(try (refine IsK.go (by assumption) ?_;clear hK));(repeat (refine IsQ.go (by assumption) ?_;(try dsimp only);(try simp only[reduceCtorEq,E0]))))
    | (refine Zaw ?_;(repeat (refine IsQ.go (by assumption) ?_;(try dsimp only);(try simp only[reduceCtorEq,E0])));simp only[go_sem,hlt,List.getElem?_map,hx,hw,h0,h7,h8,Nat.mul_one,ZaK])
    | (refine Zah fun Q hQ=>?_)
    | (refine Zai fun Q hQ=>?_)
    | (refine Zan ?_;(repeat (refine IsQ.go (by assumption) ?_;(try dsimp only);(try simp only[reduceCtorEq,E0]))))
    | (refine Zax ?_;(repeat (refine IsQ.go (by assumption) ?_;(try dsimp only);(try simp only[reduceCtorEq,E0]))))
    | (refine Zay rfl ?_ ?_<;>intro hc<;>(try simp only[HC0] at hc))
    | ((first
        | refine Zap rfl ?_ ?_
        | refine ZaI rfl ?_ ?_)<;>intro hg<;>simp only[hg,go_sem,hlt,List.getElem?_map,hx,hw,h0,h7,h8,Nat.mul_one,ZaK]<;>(try simp only[reduceCtorEq,HC0] at hg)<;>(try (refine IsK.go (by assumption) ?_;clear hK))<;>(repeat (refine IsQ.go (by assumption) ?_;(try dsimp only);(try simp only[reduceCtorEq,E0])))))))
    refine⟨i+1,by omega,by omega,?_⟩
    rw[cells_set (fun b=>AV.p (vb b)) _ _ h0 h6]
    rw[show fr.take i++ [x]=fr.take (i+1) by rw[List.take_add_one,hx];rfl]
    exact (Upd.sub (Nat.le_refl _) (by simp[Zaq,Env.get,ZaH]) (by simp[Zao,Heap.get,Zat,ZaC,ZaH,ZbF]))
theorem Zc9 (fr:List Int) (n:Nat):part fr (n+1)=part fr n+if (n:Int)∈fr then 0 else 1:=by
 rw[part,List.range_succ,List.filter_append,List.length_append]
 by_cases h:(n:Int)∈fr<;>simp[part,h]
theorem part_le (fr:List Int) (n:Nat):part fr n≤n:=by
 rw[part];exact Nat.le_trans (List.length_filter_le _ _) (by simp)
theorem count74 {fr hol:List Int} (hcal:CalOk fr hol) (d:Int) (h0:0≤d) (h1:d≤1000001):APure Try.prog 74 [.p (wkP fr hol),.p (vi d)] (.p (vi (wcount fr hol d))):=by
  refine apure 1 rf74_ok rfl ?_
  simp only[rf74,rk,ro,rm,rb,rg]
  have hl1:=hcal.frL
  have hl2:=hcal.holL
  have hq0:0≤d.tdiv 7:=Int.tdiv_nonneg h0 (by omega)
  have hq1:d.tdiv 7≤1000001:=by rw[Int.tdiv_eq_ediv_of_nonneg h0];omega
  have hr0:0≤d.tmod 7:=Int.tmod_nonneg _ h0
  have hr6:d.tmod 7≤6:=by have:=Int.tmod_lt_of_pos d (show (0:Int)<7 by omega);omega
  have hwq:IntKind.i64.wrap (d.tdiv 7)=d.tdiv 7:=wrap64 (by omega) (by omega)
  have hm0:0≤d.tdiv 7*(7 - (fr.length:Int)):=Int.mul_nonneg hq0 (by omega)
  have hm1:d.tdiv 7*(7 - (fr.length:Int))≤7000007:=by
    have:d.tdiv 7*(7 - (fr.length:Int))≤1000001*7:=Int.mul_le_mul hq1 (by omega) (by omega) (by omega)
    omega
  have hwm:IntKind.i64.wrap (d.tdiv 7*(7 - (fr.length:Int)))=d.tdiv 7*(7 - (fr.length:Int)):=wrap64 (by omega) (by omega)
  generalize hM:d.tdiv 7*(7 - (fr.length:Int))=M at *
  (repeat (any_goals (first
    | ((first
        | refine Zaf fun K hK=>?_
        | refine ZaS fun K hK=>?_
        | refine Zaj ?_
        | refine aw_d ?_);simp only[go_sem,Zg5,Zg4,hwq,hM,hwm,ZaK,Zfx];(try (refine IsK.go (by assumption) ?_;clear hK));(repeat (refine IsQ.go (by assumption) ?_;(try dsimp only);(try simp only[reduceCtorEq,E0]))))
    | (refine Zaw ?_;(repeat (refine IsQ.go (by assumption) ?_;(try dsimp only);(try simp only[reduceCtorEq,E0])));simp only[go_sem,Zg5,Zg4,hwq,hM,hwm,ZaK,Zfx])
    | (refine Zah fun Q hQ=>?_)
    | (refine Zai fun Q hQ=>?_)
    | (refine Zan ?_;(repeat (refine IsQ.go (by assumption) ?_;(try dsimp only);(try simp only[reduceCtorEq,E0]))))
    | (refine Zax ?_;(repeat (refine IsQ.go (by assumption) ?_;(try dsimp only);(try simp only[reduceCtorEq,E0]))))
    | (refine Zay rfl ?_ ?_<;>intro hc<;>(try simp only[reduceCtorEq,HC0] at hc))
    | ((first
        | refine Zap rfl ?_ ?_
        | refine ZaI rfl ?_ ?_)<;>intro hg<;>simp only[hg,go_sem,Zg5,Zg4,hwq,hM,hwm,ZaK,Zfx]<;>(try simp only[reduceCtorEq,HC0] at hg)<;>(try (refine IsK.go (by assumption) ?_;clear hK))<;>(repeat (refine IsQ.go (by assumption) ?_;(try dsimp only);(try simp only[reduceCtorEq,E0])))))))
  refine Zf7 (fun i:Nat=>⟨[(16,.p (vi i)),(15,.p (vi (d.tmod 7))),(5,.p (vi (M+part fr i))),(2,.bp 0 0),(1,.p (vi d))],[(0,.cells ((bits fr).map (fun b=>AV.p (vb b))++ [.p (vi (7 - fr.length)),.p (ints (hol.filter (notFree fr)))]))],1⟩)
    (fun i=>(d.tmod 7).toNat - i) (fun i=>i≤(d.tmod 7).toNat) 0 (by omega) (by rw[show M+((part fr 0:Nat):Int)=M by simp[part]];exact (Upd.sub (Nat.le_refl _) (by simp[Zaq,Env.get,ZaH]) (by simp[Zao,Heap.get,Zat,ZaC,ZaH,ZbF]))) ?_
  rintro i hi Q hQ
  have hple:=part_le fr i
  by_cases hlt:(i:Int)<d.tmod 7
  · have hd:decide ((i:Int)<d.tmod 7)=true:=by simpa using hlt
    have hw:IntKind.i64.wrap ((i:Int)+1)=((i+1:Nat):Int):=by rw[wrap64 (by omega) (by omega)];simp
    have hw5:IntKind.i64.wrap (M+(part fr i:Int)+1)=M+((part fr i+1:Nat):Int):=by rw[wrap64 (by omega) (by omega)];omega
    have h7:i<7:=by omega
    have hget:(((bits fr).map (fun b=>AV.p (vb b))++ [AV.p (vi (7 - (fr.length:Int))),AV.p (ints (hol.filter (notFree fr)))]).drop i)[0]? =some (AV.p (vb (decide ((i:Int)∈fr)))):=by
      have:=ZfZ (fun b=>AV.p (vb b)) fr [AV.p (vi (7 - (fr.length:Int))),AV.p (ints (hol.filter (notFree fr)))] (d:=(i:Int)) (by omega) (by omega)
      simpa using this
    (repeat (any_goals (first
    | ((first
        | refine Zaf fun K hK=>?_
        | refine ZaS fun K hK=>?_
        | refine Zaj ?_
        | refine aw_d ?_);simp only[go_sem,hd,hw,hw5,h7,Nat.mul_one,hget];(try (refine IsK.go (by assumption) ?_;clear hK));(repeat (refine IsQ.go (by assumption) ?_;(try dsimp only);(try simp only[reduceCtorEq,E0]))))
    | (refine Zaw ?_;(repeat (refine IsQ.go (by assumption) ?_;(try dsimp only);(try simp only[reduceCtorEq,E0])));simp only[go_sem,hd,hw,hw5,h7,Nat.mul_one,hget])
    | (refine Zah fun Q hQ=>?_)
    | (refine Zai fun Q hQ=>?_)
    | (refine Zan ?_;(repeat (refine IsQ.go (by assumption) ?_;(try dsimp only);(try simp only[reduceCtorEq,E0]))))
    | (refine Zax ?_;(repeat (refine IsQ.go (by assumption) ?_;(try dsimp only);(try simp only[reduceCtorEq,E0]))))
    | (refine Zay rfl ?_ ?_<;>intro hc<;>(try simp only[HC0] at hc))
    | ((first
        | refine Zap rfl ?_ ?_
        | refine ZaI rfl ?_ ?_)<;>intro hg<;>simp only[hg,go_sem,hd,hw,hw5,h7,Nat.mul_one,hget]<;>(try simp only[reduceCtorEq,HC0] at hg)<;>(try (refine IsK.go (by assumption) ?_;clear hK))<;>(repeat (refine IsQ.go (by assumption) ?_;(try dsimp only);(try simp only[reduceCtorEq,E0])))))))
    · have hin:¬(i:Int)∈fr:=by simpa using hc
      refine⟨i+1,by omega,by omega,?_⟩
      rw[Zc9,if_neg hin]
      exact (Upd.sub (Nat.le_refl _) (by simp[Zaq,Env.get,ZaH]) (by simp[Zao,Heap.get,Zat,ZaC,ZaH,ZbF]))
    · have hin:(i:Int)∈fr:=by simpa using hc
      refine⟨i+1,by omega,by omega,?_⟩
      rw[Zc9,if_pos hin,Nat.add_zero]
      exact (Upd.sub (Nat.le_refl _) (by simp[Zaq,Env.get,ZaH]) (by simp[Zao,Heap.get,Zat,ZaC,ZaH,ZbF]))
  · have hd:decide ((i:Int)<d.tmod 7)=false:=by simpa using hlt
    have he:i=(d.tmod 7).toNat:=by omega
    have hhs:(hol.filter (notFree fr)).Pairwise (· < ·):=hcal.holS.filter _
    have hbl:below (hol.filter (notFree fr)) d≤2000:=by
      rw[below]
      exact Nat.le_trans (List.length_filter_le _ _) (Nat.le_trans (List.length_filter_le _ _) hl2)
    (repeat (any_goals (first
    | ((first
        | refine Zaf fun K hK=>?_
        | refine ZaS fun K hK=>?_
        | refine Zaj ?_
        | refine aw_d ?_);simp only[go_sem,hd,Zdf];(try (refine IsK.go (by assumption) ?_;clear hK));(repeat (refine IsQ.go (by assumption) ?_;(try dsimp only);(try simp only[reduceCtorEq,E0]))))
    | (refine Zaw ?_;(repeat (refine IsQ.go (by assumption) ?_;(try dsimp only);(try simp only[reduceCtorEq,E0])));simp only[go_sem,hd,Zdf])
    | (refine Zah fun Q hQ=>?_)
    | (refine Zai fun Q hQ=>?_)
    | (refine Zan ?_;(repeat (refine IsQ.go (by assumption) ?_;(try dsimp only);(try simp only[reduceCtorEq,E0]))))
    | (refine Zax ?_;(repeat (refine IsQ.go (by assumption) ?_;(try dsimp only);(try simp only[E0]))))
    | (refine Zay rfl ?_ ?_<;>intro hc<;>(try simp only[HC0] at hc))
    | ((first
        | refine Zap rfl ?_ ?_
        | refine ZaI rfl ?_ ?_)<;>intro hg<;>simp only[hg,go_sem,hd,Zdf]<;>(try simp only[reduceCtorEq,HC0] at hg)<;>(try (refine IsK.go (by assumption) ?_;clear hK))<;>(repeat (refine IsQ.go (by assumption) ?_;(try dsimp only);(try simp only[reduceCtorEq,E0])))))))
    have hfl:(hol.filter (notFree fr)).length≤140737488355328:=Nat.le_trans (List.length_filter_le _ _) (by omega)
    refine Zcd (bsearch53 (hol.filter (notFree fr)) d hhs hfl) 1 (by simp only[go_sem]) (by simp only[ZaC,ZaH,and_self]) rfl ?_;(try dsimp only);(try simp only[go_sem]);(try (refine IsK.go (by assumption) ?_;clear hK));(repeat (refine IsQ.go (by assumption) ?_;(try dsimp only);(try simp only[reduceCtorEq,E0])))
    have hwe:IntKind.i64.wrap (M+(part fr i:Int) - (below (hol.filter (notFree fr)) d:Int))=M+(part fr i:Int) - (below (hol.filter (notFree fr)) d:Int):=wrap64 (by omega) (by omega)
    (repeat (any_goals (first
    | ((first
        | refine Zaf fun K hK=>?_
        | refine ZaS fun K hK=>?_
        | refine Zaj ?_
        | refine aw_d ?_);simp only[go_sem,hwe];(try (refine IsK.go (by assumption) ?_;clear hK));(repeat (refine IsQ.go (by assumption) ?_;(try dsimp only);(try simp only[reduceCtorEq,E0]))))
    | (refine Zaw ?_;(repeat (refine IsQ.go (by assumption) ?_;(try dsimp only);(try simp only[reduceCtorEq,E0])));simp only[go_sem])
    | (refine Zah fun Q hQ=>?_)
    | (refine Zai fun Q hQ=>?_)
    | (refine Zan ?_;(repeat (refine IsQ.go (by assumption) ?_;(try dsimp only);(try simp only[reduceCtorEq,E0]))))
    | (refine Zax ?_;(repeat (refine IsQ.go (by assumption) ?_;(try dsimp only);(try simp only[reduceCtorEq,E0]))))
    | (refine Zay rfl ?_ ?_<;>intro hc<;>(try simp only[reduceCtorEq,HC0] at hc))
    | ((first
        | refine Zap rfl ?_ ?_
        | refine ZaI rfl ?_ ?_)<;>intro hg<;>simp only[hg,go_sem,hwe]<;>(try simp only[reduceCtorEq,HC0] at hg)<;>(try (refine IsK.go (by assumption) ?_;clear hK))<;>(repeat (refine IsQ.go (by assumption) ?_;(try dsimp only);(try simp only[reduceCtorEq,E0])))))))
    rw[wcount,hM,he]
theorem step126 {fr hol:List Int} (hcal:CalOk fr hol) (d w:Int) (i:Nat) (h0:0≤d) (h1:d+i≤1000001) :
    APure Try.prog 126 [.p (vi i),.p (.ptr (((bits fr).map vb++ [vi (7 - fr.length),ints (hol.filter (notFree fr))]))),.p (.ptr [vi d]),.p (.ptr [vi w])] (.p (vb (decide (w≤wcount fr hol (d+i))))):=by
  refine apure 1 rf126_ok rfl ?_
  simp only[rf126,ro,rm,rb,rg,rF]
  have hw:IntKind.i64.wrap (d+(i:Int))=d+(i:Int):=wrap64 (by omega) (by omega)
  (repeat (any_goals (first
    | ((first
        | refine Zaf fun K hK=>?_
        | refine ZaS fun K hK=>?_
        | refine Zaj ?_
        | refine aw_d ?_);simp only[go_sem,hw,Zcy vb,List.length_append,ZaK];(try (refine IsK.go (by assumption) ?_;clear hK));(repeat (refine IsQ.go (by assumption) ?_;(try dsimp only);(try simp only[reduceCtorEq,E0]))))
    | (refine Zaw ?_;(repeat (refine IsQ.go (by assumption) ?_;(try dsimp only);(try simp only[reduceCtorEq,E0])));simp only[go_sem,hw,Zcy vb,List.length_append,ZaK])
    | (refine Zah fun Q hQ=>?_)
    | (refine Zai fun Q hQ=>?_)
    | (refine Zan ?_;(repeat (refine IsQ.go (by assumption) ?_;(try dsimp only);(try simp only[reduceCtorEq,E0]))))
    | (refine Zax ?_;(repeat (refine IsQ.go (by assumption) ?_;(try dsimp only);(try simp only[reduceCtorEq,E0]))))
    | (refine Zay rfl ?_ ?_<;>intro hc<;>(try simp only[reduceCtorEq,HC0] at hc))
    | ((first
        | refine Zap rfl ?_ ?_
        | refine ZaI rfl ?_ ?_)<;>intro hg<;>simp only[hg,go_sem,hw,Zcy vb,List.length_append,ZaK]<;>(try simp only[reduceCtorEq,HC0] at hg)<;>(try (refine IsK.go (by assumption) ?_;clear hK))<;>(repeat (refine IsQ.go (by assumption) ?_;(try dsimp only);(try simp only[reduceCtorEq,E0])))))))
  refine⟨_,Zcd (count74 hcal (d+i) (by omega) (by omega)) 1 (by simp only[go_sem]) (by simp only[ZaC,ZaH,and_self]) rfl ⟨rfl,rfl,rfl⟩,?_⟩;(try simp only[go_sem]);(try (refine IsK.go (by assumption) ?_;clear hK));(repeat (refine IsQ.go (by assumption) ?_;(try dsimp only);(try simp only[reduceCtorEq,E0])))
  (repeat (any_goals (first
    | ((first
        | refine Zaf fun K hK=>?_
        | refine ZaS fun K hK=>?_
        | refine Zaj ?_
        | refine aw_d ?_);simp only[go_sem];(try (refine IsK.go (by assumption) ?_;clear hK));(repeat (refine IsQ.go (by assumption) ?_;(try dsimp only);(try simp only[reduceCtorEq,E0]))))
    | (refine Zaw ?_;(repeat (refine IsQ.go (by assumption) ?_;(try dsimp only);(try simp only[reduceCtorEq,E0])));simp only[go_sem])
    | (refine Zah fun Q hQ=>?_)
    | (refine Zai fun Q hQ=>?_)
    | (refine Zan ?_;(repeat (refine IsQ.go (by assumption) ?_;(try dsimp only);(try simp only[reduceCtorEq,E0]))))
    | (refine Zax ?_;(repeat (refine IsQ.go (by assumption) ?_;(try dsimp only);(try simp only[reduceCtorEq,E0]))))
    | (refine Zay rfl ?_ ?_<;>intro hc<;>(try simp only[reduceCtorEq,HC0] at hc))
    | ((first
        | refine Zap rfl ?_ ?_
        | refine ZaI rfl ?_ ?_)<;>intro hg<;>simp only[hg,go_sem]<;>(try simp only[reduceCtorEq,HC0] at hg)<;>(try (refine IsK.go (by assumption) ?_;clear hK))<;>(repeat (refine IsQ.go (by assumption) ?_;(try dsimp only);(try simp only[reduceCtorEq,E0])))))))
end Go.Abs
