/-
  Walks of history's reference:the calendar's fault.
-/
import Derived.Test.YtjjhmldeammecaaW1
namespace Go.Abs
open Go Go.Proofs
set_option maxRecDepth 4000
theorem pairs_lim {fz:Nat→Option Obj} {fr hol:List Int} {v:Value} (h:PRep fz (calP fr hol) v):fr.length≤top∧hol.length≤top:=by
 obtain⟨u,h1⟩:=agg_at h 0 (ints fr) rfl
 obtain⟨u',h2⟩:=agg_at h 1 (ints hol) rfl
 exact⟨ints_lim h1,ints_lim h2⟩
theorem checkCal21 (fr hol:List Int):APure Try.prog 21 [.p (calP fr hol)] (.p (vi (calFault fr hol))):=by
  refine apure 1 rf21_ok rfl ?_
  simp only[rf21,rk,ro,rm,rp,rb,rg,rT,rF]
  refine Zbb 0 rfl (fun _ _=>pairs_lim) fun⟨hl1,hl2⟩=>?_
  unfold top at hl1 hl2
  (repeat (any_goals (first
    | ((first
        | refine Zaf fun K hK=>?_
        | refine ZaS fun K hK=>?_
        | refine Zaj ?_
        | refine aw_d ?_);simp only[go_sem];(try (refine IsK.go (by assumption) ?_;clear hK));(repeat (refine IsQ.go (by assumption) ?_;(try dsimp only);(try simp only[reduceCtorEq,E0]))))
    | (refine Zaw ?_;(repeat (refine IsQ.go (by assumption) ?_;(try dsimp only);(try simp only[reduceCtorEq,E0])));simp only[go_sem])
    | (refine Zah fun Q hQ=>?_)
    | (refine Zai fun Q hQ=>?_)
    | (refine Zan ?_;(repeat (refine IsQ.go (by assumption) ?_;(try dsimp only);(try simp only[reduceCtorEq,E0]))))
    | (refine Zax ?_;(repeat (refine IsQ.go (by assumption) ?_;(try dsimp only);(try simp only[reduceCtorEq,E0]))))
    | (refine Zay rfl ?_ ?_<;>intro hc<;>(try simp only[HC0] at hc))
    | ((first
        | refine Zap rfl ?_ ?_
        | refine ZaI rfl ?_ ?_)<;>intro hg<;>simp only[hg,go_sem]<;>(try simp only[HC0] at hg)<;>(try (refine IsK.go (by assumption) ?_;clear hK))<;>(repeat (refine IsQ.go (by assumption) ?_;(try dsimp only);(try simp only[reduceCtorEq,E0])))))))
  · simp[calFault];omega
  · simp[calFault];omega
  · have hsz:¬(6<fr.length∨2000<hol.length):=by omega
    refine Zf7 (fun i:Nat=>⟨[(20,.p (vi i)),(19,.p (vi fr.length)),(18,.p (ints fr)),(1,.bp 0 0)],[(0,.cells [.p (ints fr),.p (ints hol)])],1⟩) (fun i=>fr.length - i) (fun i=>i≤fr.length∧riseAt 6 fr i=riseAt 6 fr 0) 0 (by simp) (Upd.sub (Nat.le_refl _) (by simp[Zaq,Env.get,ZaH]) (by simp[Zao,Heap.get,Zat,ZaC,ZaH])) ?_
    rintro i ⟨hi,hr⟩ Q hQ
    cases hx:fr[i]? with
    | none =>
      have hlen:=ZcE hx
      have hlt:decide ((i:Int)<(fr.length:Int))=false:=by simp;omega
      rw[ZhS hx] at hr
      (repeat (any_goals (first
    | ((first
        | refine Zaf fun K hK=>?_
        | refine ZaS fun K hK=>?_
        | refine Zaj ?_
        | refine aw_d ?_);simp only[go_sem,hlt];(try (refine IsK.go (by assumption) ?_;clear hK));(repeat (refine IsQ.go (by assumption) ?_;(try dsimp only);(try simp only[reduceCtorEq,E0]))))
    | (refine Zaw ?_;(repeat (refine IsQ.go (by assumption) ?_;(try dsimp only);(try simp only[reduceCtorEq,E0])));simp only[go_sem,hlt])
    | (refine Zah fun Q hQ=>?_)
    | (refine Zai fun Q hQ=>?_)
    | (refine Zan ?_;(repeat (refine IsQ.go (by assumption) ?_;(try dsimp only);(try simp only[reduceCtorEq,E0]))))
    | (refine Zax ?_;(repeat (refine IsQ.go (by assumption) ?_;(try dsimp only);(try simp only[E0]))))
    | (refine Zay rfl ?_ ?_<;>intro hc<;>(try simp only[HC0] at hc))
    | ((first
        | refine Zap rfl ?_ ?_
        | refine ZaI rfl ?_ ?_)<;>intro hg<;>simp only[hg,go_sem,hlt]<;>(try simp only[reduceCtorEq,HC0] at hg)<;>(try (refine IsK.go (by assumption) ?_;clear hK))<;>(repeat (refine IsQ.go (by assumption) ?_;(try dsimp only);(try simp only[reduceCtorEq,E0])))))))
      refine Zf7 (fun i:Nat=>⟨[(47,.p (vi i)),(46,.p (vi hol.length)),(45,.p (ints hol)),(1,.bp 0 0)],[(0,.cells [.p (ints fr),.p (ints hol)])],1⟩) (fun i=>hol.length - i) (fun i=>i≤hol.length∧riseAt 1000000 hol i=riseAt 1000000 hol 0) 0 (by simp) (Upd.sub (Nat.le_refl _) (by simp[Zaq,Env.get,ZaH]) (by simp[Zao,Heap.get,Zat,ZaC,ZaH])) ?_
      rintro i ⟨hi,hr2⟩ Q hQ
      cases hx:hol[i]? with
      | none =>
        have hlen:=ZcE hx
        have hlt:decide ((i:Int)<(hol.length:Int))=false:=by simp;omega
        rw[ZhS hx] at hr2
        (repeat (any_goals (first
    | ((first
        | refine Zaf fun K hK=>?_
        | refine ZaS fun K hK=>?_
        | refine Zaj ?_
        | refine aw_d ?_);simp only[go_sem,hlt];(try (refine IsK.go (by assumption) ?_;clear hK));(repeat (refine IsQ.go (by assumption) ?_;(try dsimp only);(try simp only[reduceCtorEq,E0]))))
    | (refine Zaw ?_;(repeat (refine IsQ.go (by assumption) ?_;(try dsimp only);(try simp only[reduceCtorEq,E0])));simp only[go_sem])
    | (refine Zah fun Q hQ=>?_)
    | (refine Zai fun Q hQ=>?_)
    | (refine Zan ?_;(repeat (refine IsQ.go (by assumption) ?_;(try dsimp only);(try simp only[reduceCtorEq,E0]))))
    | (refine Zax ?_;(repeat (refine IsQ.go (by assumption) ?_;(try dsimp only);(try simp only[E0]))))
    | (refine Zay rfl ?_ ?_<;>intro hc<;>(try simp only[HC0] at hc))
    | ((first
        | refine Zap rfl ?_ ?_
        | refine ZaI rfl ?_ ?_)<;>intro hg<;>simp only[hg,go_sem,hlt]<;>(try simp only[reduceCtorEq,HC0] at hg)<;>(try (refine IsK.go (by assumption) ?_;clear hK))<;>(repeat (refine IsQ.go (by assumption) ?_;(try dsimp only);(try simp only[reduceCtorEq,E0])))))))
        simp[calFault,hsz,←hr,←hr2]
      | some x =>
        have hlen:=ZaB hx
        have hlt:decide ((i:Int)<(hol.length:Int))=true:=by simp;omega
        have hw:IntKind.i64.wrap ((i:Int)+1)=((i+1:Nat):Int):=by rw[wrap64 (by omega) (by omega)];simp
        rw[ZhI hx] at hr2
        cases i with
        | zero =>
          have hz:decide (((0:Nat):Int)>0)=false:=by decide
          (repeat (any_goals (first
    | ((first
        | refine Zaf fun K hK=>?_
        | refine ZaS fun K hK=>?_
        | refine Zaj ?_
        | refine aw_d ?_);simp only[go_sem,hlt,List.getElem?_map,hx,hw,hz];(try (refine IsK.go (by assumption) ?_;clear hK));(repeat (refine IsQ.go (by assumption) ?_;(try dsimp only);(try simp only[reduceCtorEq,E0]))))
    | (refine Zaw ?_;(repeat (refine IsQ.go (by assumption) ?_;(try dsimp only);(try simp only[reduceCtorEq,E0])));simp only[go_sem])
    | (refine Zah fun Q hQ=>?_)
    | (refine Zai fun Q hQ=>?_)
    | (refine Zan ?_;(repeat (refine IsQ.go (by assumption) ?_;(try dsimp only);(try simp only[reduceCtorEq,E0]))))
    | (refine Zax ?_;(repeat (refine IsQ.go (by assumption) ?_;(try dsimp only);(try simp only[reduceCtorEq,E0]))))
    | (refine Zay rfl ?_ ?_<;>intro hc<;>(try simp only[HC0] at hc))
    | ((first
        | refine Zap rfl ?_ ?_
        | refine ZaI rfl ?_ ?_)<;>intro hg<;>simp only[hg,go_sem]<;>(try simp only[HC0] at hg)<;>(try (refine IsK.go (by assumption) ?_;clear hK))<;>(repeat (refine IsQ.go (by assumption) ?_;(try dsimp only);(try simp only[reduceCtorEq,E0])))))))
          · simp[calFault,hsz,←hr,←hr2,hg]
          · simp[calFault,hsz,←hr,←hr2];omega
          · refine⟨0+1,⟨by omega,?_⟩,by omega,(Upd.sub (Nat.le_refl _) (by simp[Zaq,Env.get,ZaH]) (by simp[Zao,Heap.get,Zat,ZaC,ZaH]))⟩
            rw[←hr2,if_neg (by omega),if_neg (by simp)]
        | succ i =>
          obtain⟨y,hy⟩:∃y,hol[i]? =some y:=⟨hol[i],by simp⟩
          have hz:decide (((i+1:Nat):Int)>0)=true:=by simp
          have hw2:IntKind.i64.wrap (((i+1:Nat):Int) - 1)=(i:Int):=by rw[wrap64 (by omega) (by omega)];simp
          (repeat (any_goals (first
    | ((first
        | refine Zaf fun K hK=>?_
        | refine ZaS fun K hK=>?_
        | refine Zaj ?_
        | refine aw_d ?_);simp only[go_sem,hlt,List.getElem?_map,hx,hw,hw2,hy,hz];(try (refine IsK.go (by assumption) ?_;clear hK));(repeat (refine IsQ.go (by assumption) ?_;(try dsimp only);(try simp only[reduceCtorEq,E0]))))
    | (refine Zaw ?_;(repeat (refine IsQ.go (by assumption) ?_;(try dsimp only);(try simp only[reduceCtorEq,E0])));simp only[go_sem])
    | (refine Zah fun Q hQ=>?_)
    | (refine Zai fun Q hQ=>?_)
    | (refine Zan ?_;(repeat (refine IsQ.go (by assumption) ?_;(try dsimp only);(try simp only[reduceCtorEq,E0]))))
    | (refine Zax ?_;(repeat (refine IsQ.go (by assumption) ?_;(try dsimp only);(try simp only[reduceCtorEq,E0]))))
    | (refine Zay rfl ?_ ?_<;>intro hc<;>(try simp only[HC0] at hc))
    | ((first
        | refine Zap rfl ?_ ?_
        | refine ZaI rfl ?_ ?_)<;>intro hg<;>simp only[hg,go_sem]<;>(try simp only[HC0] at hg)<;>(try (refine IsK.go (by assumption) ?_;clear hK))<;>(repeat (refine IsQ.go (by assumption) ?_;(try dsimp only);(try simp only[reduceCtorEq,E0])))))))
          · simp[calFault,hsz,←hr,←hr2,hg]
          · simp[calFault,hsz,←hr,←hr2];omega
          · simp only[calFault,hsz,←hr,if_false,ne_eq,not_true_eq_false]
            rw[←hr2,if_neg (by omega),if_pos ⟨by omega,y,hy,hc⟩]
          · refine⟨i+1+1,⟨by omega,?_⟩,by omega,(Upd.sub (Nat.le_refl _) (by simp[Zaq,Env.get,ZaH]) (by simp[Zao,Heap.get,Zat,ZaC,ZaH]))⟩
            rw[←hr2,if_neg (by omega),if_neg]
            rintro⟨_,q,hq,hle⟩
            rw[show i+1 - 1=i from rfl,hy] at hq;cases hq;exact hc hle
    | some x =>
      have hlen:=ZaB hx
      have hlt:decide ((i:Int)<(fr.length:Int))=true:=by simp;omega
      have hw:IntKind.i64.wrap ((i:Int)+1)=((i+1:Nat):Int):=by rw[wrap64 (by omega) (by omega)];simp
      rw[ZhI hx] at hr
      cases i with
      | zero =>
        have hz:decide (((0:Nat):Int)>0)=false:=by decide
        (repeat (any_goals (first
    | ((first
        | refine Zaf fun K hK=>?_
        | refine ZaS fun K hK=>?_
        | refine Zaj ?_
        | refine aw_d ?_);simp only[go_sem,hlt,List.getElem?_map,hx,hw,hz];(try (refine IsK.go (by assumption) ?_;clear hK));(repeat (refine IsQ.go (by assumption) ?_;(try dsimp only);(try simp only[reduceCtorEq,E0]))))
    | (refine Zaw ?_;(repeat (refine IsQ.go (by assumption) ?_;(try dsimp only);(try simp only[reduceCtorEq,E0])));simp only[go_sem])
    | (refine Zah fun Q hQ=>?_)
    | (refine Zai fun Q hQ=>?_)
    | (refine Zan ?_;(repeat (refine IsQ.go (by assumption) ?_;(try dsimp only);(try simp only[reduceCtorEq,E0]))))
    | (refine Zax ?_;(repeat (refine IsQ.go (by assumption) ?_;(try dsimp only);(try simp only[reduceCtorEq,E0]))))
    | (refine Zay rfl ?_ ?_<;>intro hc<;>(try simp only[HC0] at hc))
    | ((first
        | refine Zap rfl ?_ ?_
        | refine ZaI rfl ?_ ?_)<;>intro hg<;>simp only[hg,go_sem]<;>(try simp only[HC0] at hg)<;>(try (refine IsK.go (by assumption) ?_;clear hK))<;>(repeat (refine IsQ.go (by assumption) ?_;(try dsimp only);(try simp only[reduceCtorEq,E0])))))))
        · simp[calFault,hsz,←hr,hg]
        · have h9:riseAt 6 fr 0=9:=by rw[←hr,if_pos (by omega)]
          simp[calFault,hsz,h9]
        · refine⟨0+1,⟨by omega,?_⟩,by omega,(Upd.sub (Nat.le_refl _) (by simp[Zaq,Env.get,ZaH]) (by simp[Zao,Heap.get,Zat,ZaC,ZaH]))⟩
          rw[←hr,if_neg (by omega),if_neg (by simp)]
      | succ i =>
        obtain⟨y,hy⟩:∃y,fr[i]? =some y:=⟨fr[i],by simp⟩
        have hz:decide (((i+1:Nat):Int)>0)=true:=by simp
        have hw2:IntKind.i64.wrap (((i+1:Nat):Int) - 1)=(i:Int):=by rw[wrap64 (by omega) (by omega)];simp
        (repeat (any_goals (first
    | ((first
        | refine Zaf fun K hK=>?_
        | refine ZaS fun K hK=>?_
        | refine Zaj ?_
        | refine aw_d ?_);simp only[go_sem,hlt,List.getElem?_map,hx,hw,hw2,hy,hz];(try (refine IsK.go (by assumption) ?_;clear hK));(repeat (refine IsQ.go (by assumption) ?_;(try dsimp only);(try simp only[reduceCtorEq,E0]))))
    | (refine Zaw ?_;(repeat (refine IsQ.go (by assumption) ?_;(try dsimp only);(try simp only[reduceCtorEq,E0])));simp only[go_sem])
    | (refine Zah fun Q hQ=>?_)
    | (refine Zai fun Q hQ=>?_)
    | (refine Zan ?_;(repeat (refine IsQ.go (by assumption) ?_;(try dsimp only);(try simp only[reduceCtorEq,E0]))))
    | (refine Zax ?_;(repeat (refine IsQ.go (by assumption) ?_;(try dsimp only);(try simp only[reduceCtorEq,E0]))))
    | (refine Zay rfl ?_ ?_<;>intro hc<;>(try simp only[HC0] at hc))
    | ((first
        | refine Zap rfl ?_ ?_
        | refine ZaI rfl ?_ ?_)<;>intro hg<;>simp only[hg,go_sem]<;>(try simp only[HC0] at hg)<;>(try (refine IsK.go (by assumption) ?_;clear hK))<;>(repeat (refine IsQ.go (by assumption) ?_;(try dsimp only);(try simp only[reduceCtorEq,E0])))))))
        · simp[calFault,hsz,←hr,hg]
        · have h9:riseAt 6 fr 0=9:=by rw[←hr,if_pos (by omega)]
          simp[calFault,hsz,h9]
        · have h9:riseAt 6 fr 0=10:=by rw[←hr,if_neg (by omega),if_pos ⟨by omega,y,hy,hc⟩]
          simp[calFault,hsz,h9]
        · refine⟨i+1+1,⟨by omega,?_⟩,by omega,(Upd.sub (Nat.le_refl _) (by simp[Zaq,Env.get,ZaH]) (by simp[Zao,Heap.get,Zat,ZaC,ZaH]))⟩
          rw[←hr,if_neg (by omega),if_neg]
          rintro⟨_,q,hq,hle⟩
          rw[show i+1 - 1=i from rfl,hy] at hq;cases hq;exact hc hle
end Go.Abs
