/- The walks of these functions against the plain ones (printed by a program of this repo). -/
import Derived.Test.YtjjhmldeammecaaRHd
import Derived.Test.YtjjhmldeammecaaGHca
namespace Go.Abs
open Go Go.Proofs
set_option maxRecDepth 8000
theorem ZhD {v0:ZaN} {r0} (hF:Zg9 v0=some r0):APure Try.prog 21 [.p (.agg [.sl (v0.Free.map cI),.sl (v0.Holidays.map cI)])] (.p (vi r0)):=by
 cases hF;exact checkCal21 _ _
theorem ZhK {v0:List Za6} {r0} (hF:Zhd v0=some r0):APure Try.prog 26 [.p (.sl (v0.map Za6.c))] (.p (vi r0)):=by
 refine apureZ 2 rc26_ok rfl ?_;simp only[rc26,ZaG,rk,ro,rm,rp,rn,rb,rg,rT,rF];unfold Zhd at hF;refine Zaf fun K hK=>?_;(try simp only[go_sem]);refine kg hK ?_;refine Zah fun Q hQ=>?_;refine Zaf fun K hK=>?_;(try simp only[go_sem]);refine kg hK ?_;refine ci hF (fun hc hF=>?_) (fun hc hF=>?_)
 ·refine Zaf fun K hK=>?_;(try simp only[go_sem]);refine kg hK ?_;refine Zaw ?_;(repeat (refine qg ?_;(try dsimp only);try simp only[reduceCtorEq,E0]));cases hF;simp only[go_sem]
 ·refine Zan ?_;(repeat (refine qg ?_;(try dsimp only);try simp only[reduceCtorEq,E0]));refine Zah fun Q hQ=>?_;refine Zaf fun K hK=>?_;(try simp only[go_sem]);refine kg hK ?_;refine ci hF (fun hc hF=>?_) (fun hc hF=>?_)
  ·refine Zaf fun K hK=>?_;(try simp only[go_sem]);refine kg hK ?_;refine Zaw ?_;(repeat (refine qg ?_;(try dsimp only);try simp only[reduceCtorEq,E0]));cases hF;simp only[go_sem]
  ·refine Zan ?_;(repeat (refine qg ?_;(try dsimp only);try simp only[reduceCtorEq,E0]));refine Zah fun Q hQ=>?_;refine Zaf fun K hK=>?_;(try simp only[go_sem]);refine kg hK ?_;refine Zaz hF (fun (_:Unit)=>⟨[],[],0⟩) ?_ ?_
   ·intro y9 hF hj9 Q hQ;refine Zai fun Q hQ=>?_;refine Zbb 0 rfl (fun _ _=>ZbU) fun hl3=>?_;simp only[List.length_map,top] at hl3;refine Zbe hF (fun i1 _=>⟨[(0,.p (.sl (v0.map Za6.c))),(11,.p (.sl (v0.map Za6.c))),(12,.p (vi (v0.length:Int))),(13,.p (vi (i1:Int)))],[],0⟩) (us (hh:=trivial)) ?_ ?_
    ·rintro⟨⟩ hy Q hQ;(try dsimp only at hy ⊢);have hlt:decide (((v0.length:Int):Int)<(v0.length:Int))=false:=by simp
     refine Zaf fun K hK=>?_;(try simp only[go_sem,hlt]);refine kg hK ?_;refine Zah fun Q hQ=>?_;refine Zay rfl (fun hc=>?_) (fun hc=>?_)
     ·cases hc
     refine Zax ?_;(repeat (refine qg ?_;(try dsimp only);try simp only[E0]));exact⟨_,hy,(us (hh:=trivial))⟩
    ·rintro i1 x4 ⟨⟩ z9 hi hx hF hb9 hr9 Q hQ;(try dsimp only at hF ⊢);have hlt:decide ((i1:Int)<(v0.length:Int))=true:=by simp;omega
     have hw2:IntKind.i64.wrap ((i1:Int)+1)=((i1+1:Nat):Int):=by rw[wrap64 (by omega) (by omega)];simp
     refine Zaf fun K hK=>?_;(try simp only[go_sem,hlt]);refine kg hK ?_;refine Zah fun Q hQ=>?_;refine Zay rfl (fun hc=>?_) (fun hc=>?_)
     rotate_left;· cases hc
     refine Zan ?_;(repeat (refine qg ?_;(try dsimp only);try simp only[reduceCtorEq,E0]));refine Zah fun Q hQ=>?_;refine Zai fun Q hQ=>?_;refine Zaf fun K hK=>?_;(try simp only[go_sem,hx]);refine kg hK ?_;refine Zah fun Q hQ=>?_;refine Zbj ⟨[(0,.p (.sl (v0.map Za6.c))),(3,.p (vi (i1:Int))),(4,.bp 0 0),(11,.p (.sl (v0.map Za6.c))),(12,.p (vi (v0.length:Int))),(13,.p (vi (i1:Int))),(35,.p (vb ((((decide (x4.Severity<0)) || (decide (x4.Severity>100))) || (decide (x4.Days<0))) || (decide (x4.Days>10000)))))],[(0,.cells [.p (vi x4.Severity),.p (vi x4.Days)])],1⟩ (fun K hK=>?_) ?_
     ·(try simp only[go_sem]);(try simp only[go_sem]);refine Zap rfl ?_ ?_<;>intro hg10<;>(try simp only[hg10,go_sem])
      ·(try simp only[go_sem,hg10]);refine kg hK ?_;exact (Upd.sub lb (by simp[go_sem,Zaq,Env.get,hg10]) (by simp[go_sem,Zao,Heap.get,Zat]))
      ·(try simp only[go_sem,hg10]);refine Zap rfl ?_ ?_<;>intro hg11<;>(try simp only[hg11,go_sem])
       ·(try simp only[go_sem,hg10,hg11]);refine kg hK ?_;exact (Upd.sub lb (by simp[go_sem,Zaq,Env.get,hg10,hg11]) (by simp[go_sem,Zao,Heap.get,Zat]))
       ·(try simp only[go_sem,hg10,hg11]);refine Zap rfl ?_ ?_<;>intro hg12<;>(try simp only[hg12,go_sem])
        ·(try simp only[go_sem,hg10,hg11,hg12]);refine kg hK ?_;exact (Upd.sub lb (by simp[go_sem,Zaq,Env.get,hg10,hg11,hg12]) (by simp[go_sem,Zao,Heap.get,Zat]))
        ·(try simp only[go_sem,hg10,hg11,hg12]);refine kg hK ?_;exact (Upd.sub lb (by simp[go_sem,Zaq,Env.get,hg10,hg11,hg12]) (by simp[go_sem,Zao,Heap.get,Zat]))
     refine ci hF (fun hc hF=>?_) (fun hc hF=>?_)
     ·refine Zaf fun K hK=>?_;(try simp only[go_sem]);refine kg hK ?_;refine Zaw ?_;(repeat (refine qg ?_;(try dsimp only);try simp only[reduceCtorEq,E0]));cases hF;cases (hj9 _ (hr9 _ rfl));simp only[go_sem]
     ·refine Zan ?_;(repeat (refine qg ?_;(try dsimp only);try simp only[reduceCtorEq,E0]));obtain⟨b15,h16,hF⟩:=Zae hF;refine Zc8 ⟨[(0,.p (.sl (v0.map Za6.c))),(11,.p (.sl (v0.map Za6.c))),(12,.p (vi (v0.length:Int))),(13,.p (vi (i1:Int))),(48,.p (vb b15))],[],1⟩ (fun K hK=>?_) ?_
      ·(try simp only[go_sem]);(try simp only[go_sem]);refine ZaI rfl ?_ ?_<;>intro hg17<;>(try simp only[hg17,go_sem])
       ·simp only[hg17,gbS] at h16;obtain⟨x18,h19,h16⟩:=Zae h16;replace h19:=Zas Za6.c h19;(try simp only[go_sem] at h19);cases h16;(try simp only[go_sem,h19]);refine kg hK ?_;exact (us (hh:=trivial))
       ·simp only[hg17,gbS] at h16;cases h16;(try simp only[go_sem,hg17]);refine kg hK ?_;exact (us (hh:=trivial))
      refine ci hF (fun hc hF=>?_) (fun hc hF=>?_)
      ·refine Zaf fun K hK=>?_;(try simp only[go_sem]);refine kg hK ?_;refine Zaw ?_;(repeat (refine qg ?_;(try dsimp only);try simp only[reduceCtorEq,E0]));cases hF;cases (hj9 _ (hr9 _ rfl));simp only[go_sem]
      ·refine Zan ?_;(repeat (refine qg ?_;(try dsimp only);try simp only[reduceCtorEq,E0]));refine Zaj ?_;(try simp only[go_sem,hw2]);(repeat (refine qg ?_;(try dsimp only);try simp only[reduceCtorEq,E0]));cases hF;exact⟨_,rfl,(us (hh:=trivial))⟩
   rintro⟨⟩ hF;(try dsimp only at hF ⊢);(repeat (refine qg ?_;(try dsimp only);try simp only[reduceCtorEq,E0]));refine Zaf fun K hK=>?_;(try simp only[go_sem]);refine kg hK ?_;refine Zaw ?_;(repeat (refine qg ?_;(try dsimp only);try simp only[reduceCtorEq,E0]));cases hF;simp only[go_sem]
theorem ref11_term_ok {v0:List Za6} {v1:Int} {r0 r1} (hF:Zhs v0 v1=some (r0,r1)):APure Try.prog 79 [.p (.sl (v0.map Za6.c)),.p (vi v1)] (.tup [.p (.agg [vi r0.Severity,vi r0.Days]),.p (vb r1)]):=by
 refine apureZ 2 rc79_ok rfl ?_;simp only[rc79,ZaG,Nat.reduceAdd,rk,ro,rm,rn,rb,rg,rT,rF];unfold Zhs at hF;refine Zaf fun K hK=>?_;(try simp only[go_sem]);refine kg hK ?_;refine Zaf fun K hK=>?_;(try simp only[go_sem]);refine kg hK ?_;refine Zah fun Q hQ=>?_;refine Zaf fun K hK=>?_;(try simp only[go_sem]);refine kg hK ?_;refine Zaz hF (fun ((b8,n9,n10):Bool × Int × Int)=>⟨[(4,.bp 0 0),(6,.bp 1 0),(7,.p (vb b8))],[(1,.cells [.p (vi n9),.p (vi n10)]),(0,.cells [.p (vi 0),.p (vi 0)])],2⟩) ?_ ?_
 ·intro y11 hF hj11 Q hQ;refine Zai fun Q hQ=>?_;refine Zbb 11 rfl (fun _ _=>ZbU) fun hl3=>?_;simp only[List.length_map,top] at hl3;refine Zbe hF (fun i1 (b5,n6,n7)=>⟨[(1,.p (vi v1)),(4,.bp 0 0),(6,.bp 1 0),(7,.p (vb b5)),(11,.p (.sl (v0.map Za6.c))),(12,.p (vi (v0.length:Int))),(13,.p (vi (i1:Int)))],[(1,.cells [.p (vi n6),.p (vi n7)]),(0,.cells [.p (vi 0),.p (vi 0)])],2⟩) us ?_ ?_
  ·rintro⟨b5,n6,n7⟩ hy Q hQ;(try dsimp only at hy ⊢);have hlt:decide (((v0.length:Int):Int)<(v0.length:Int))=false:=by simp
   refine Zaf fun K hK=>?_;(try simp only[go_sem,hlt]);refine kg hK ?_;refine Zah fun Q hQ=>?_;refine Zay rfl (fun hc=>?_) (fun hc=>?_)
   ·cases hc
   refine Zax ?_;(repeat (refine qg ?_;(try dsimp only);try simp only[E0]));exact⟨_,hy,us⟩
  ·rintro i1 x4 ⟨b5,n6,n7⟩ z11 hi hx hF hb11 hr11 Q hQ;(try dsimp only at hF ⊢);have hlt:decide ((i1:Int)<(v0.length:Int))=true:=by simp;omega
   have hw2:IntKind.i64.wrap ((i1:Int)+1)=((i1+1:Nat):Int):=by rw[wrap64 (by omega) (by omega)];simp
   refine Zaf fun K hK=>?_;(try simp only[go_sem,hlt]);refine kg hK ?_;refine Zah fun Q hQ=>?_;refine Zay rfl (fun hc=>?_) (fun hc=>?_)
   rotate_left;· cases hc
   refine Zan ?_;(repeat (refine qg ?_;(try dsimp only);try simp only[reduceCtorEq,E0]));refine Zah fun Q hQ=>?_;refine Zai fun Q hQ=>?_;refine Zaf fun K hK=>?_;(try simp only[go_sem,hx]);refine kg hK ?_;refine Zaf fun K hK=>?_;(try simp only[go_sem]);refine kg hK ?_;refine ci hF (fun hc hF=>?_) (fun hc hF=>?_)
   ·refine Zaj ?_;(try simp only[go_sem]);(repeat (refine qg ?_;(try dsimp only);try simp only[reduceCtorEq,E0]));refine Zaj ?_;(try simp only[go_sem,hw2]);(repeat (refine qg ?_;(try dsimp only);try simp only[reduceCtorEq,E0]));cases hF;exact⟨_,rfl,us⟩
   ·refine Zan ?_;(repeat (refine qg ?_;(try dsimp only);try simp only[reduceCtorEq,E0]));refine Zaj ?_;(try simp only[go_sem,hw2]);(repeat (refine qg ?_;(try dsimp only);try simp only[reduceCtorEq,E0]));cases hF;exact⟨_,rfl,us⟩
 rintro⟨b8,n9,n10⟩ hF;(try dsimp only at hF ⊢);(repeat (refine qg ?_;(try dsimp only);try simp only[reduceCtorEq,E0]));refine Zaf fun K hK=>?_;(try simp only[go_sem]);refine kg hK ?_;refine Zaw ?_;(repeat (refine qg ?_;(try dsimp only);try simp only[reduceCtorEq,E0]));cases hF;simp only[go_sem]
theorem ZhN {v0:ZaN} {r0} (hF:Zhh v0=some r0):APure Try.prog 70 [.p (.agg [.sl (v0.Free.map cI),.sl (v0.Holidays.map cI)])] (.p (.agg (ZaA.c r0))):=by
 unfold Zhh at hF;split at hF
 ·rename_i h;cases hF;exact calendarOf70 (calOk h)
 ·cases hF
theorem ZhF {v0:ZaA} {v1 v2:Int} {r0 r1} (hF:Zg8 v0 v1 v2=some (r0,r1)):APure Try.prog 76 [.p (.agg (ZaA.c v0)),.p (vi v1),.p (vi v2)] (.tup [.p (vi r0),.p (vb r1)]):=by
 unfold Zg8 at hF;split at hF
 ·rename_i h;cases hF;exact add76 v0.fr v0.hol v1 v2 h.1 h.2.1 h.2.2.1 h.2.2.2
 ·cases hF
theorem Zhk {v0:ZaN} {r0} (hF:ZgZ v0=some r0):APure Try.prog 22 [.p (.agg [.sl (v0.Free.map cI),.sl (v0.Holidays.map cI)])] (.p (vi r0)):=by
 cases hF;exact checkCal22 _ _
theorem ZhG {v0:List Za6} {r0} (hF:Zhf v0=some r0):APure Try.prog 27 [.p (.sl (v0.map Za6.c))] (.p (vi r0)):=by
 refine apureZ 2 rc27_ok rfl ?_;simp only[rc27,ZaG,rk,ro,rm,rp,rn,rb,rg,rT,rF];unfold Zhf at hF;refine Zaf fun K hK=>?_;(try simp only[go_sem]);refine kg hK ?_;refine Zah fun Q hQ=>?_;refine Zai fun Q hQ=>?_;refine Zaf fun K hK=>?_;(try simp only[go_sem]);refine kg hK ?_;refine ci hF (fun hc hF=>?_) (fun hc hF=>?_)
 ·refine Zaf fun K hK=>?_;(try simp only[go_sem]);refine kg hK ?_;refine Zaw ?_;(repeat (refine qg ?_;(try dsimp only);try simp only[reduceCtorEq,E0]));cases hF;simp only[go_sem]
 ·refine Zaf fun K hK=>?_;(try simp only[go_sem]);refine kg hK ?_;refine ci hF (fun hc hF=>?_) (fun hc hF=>?_)
  ·refine Zaf fun K hK=>?_;(try simp only[go_sem]);refine kg hK ?_;refine Zaw ?_;(repeat (refine qg ?_;(try dsimp only);try simp only[reduceCtorEq,E0]));cases hF;simp only[go_sem]
  ·refine Zan ?_;(repeat (refine qg ?_;(try dsimp only);try simp only[reduceCtorEq,E0]));refine Zah fun Q hQ=>?_;refine Zaf fun K hK=>?_;(try simp only[go_sem]);refine kg hK ?_;refine Zaz hF (fun (_:Unit)=>⟨[],[],0⟩) ?_ ?_
   ·intro y9 hF hj9 Q hQ;refine Zai fun Q hQ=>?_;refine Zbb 0 rfl (fun _ _=>ZbU) fun hl3=>?_;simp only[List.length_map,top] at hl3;refine Zbe hF (fun i1 _=>⟨[(0,.p (.sl (v0.map Za6.c))),(13,.p (.sl (v0.map Za6.c))),(14,.p (vi (v0.length:Int))),(15,.p (vi (i1:Int)))],[],0⟩) (us (hh:=trivial)) ?_ ?_
    ·rintro⟨⟩ hy Q hQ;(try dsimp only at hy ⊢);have hlt:decide (((v0.length:Int):Int)<(v0.length:Int))=false:=by simp
     refine Zaf fun K hK=>?_;(try simp only[go_sem,hlt]);refine kg hK ?_;refine Zah fun Q hQ=>?_;refine Zay rfl (fun hc=>?_) (fun hc=>?_)
     ·cases hc
     refine Zax ?_;(repeat (refine qg ?_;(try dsimp only);try simp only[E0]));exact⟨_,hy,(us (hh:=trivial))⟩
    ·rintro i1 x4 ⟨⟩ z9 hi hx hF hb9 hr9 Q hQ;(try dsimp only at hF ⊢);have hlt:decide ((i1:Int)<(v0.length:Int))=true:=by simp;omega
     have hw2:IntKind.i64.wrap ((i1:Int)+1)=((i1+1:Nat):Int):=by rw[wrap64 (by omega) (by omega)];simp
     refine Zaf fun K hK=>?_;(try simp only[go_sem,hlt]);refine kg hK ?_;refine Zah fun Q hQ=>?_;refine Zay rfl (fun hc=>?_) (fun hc=>?_)
     rotate_left;· cases hc
     refine Zan ?_;(repeat (refine qg ?_;(try dsimp only);try simp only[reduceCtorEq,E0]));refine Zah fun Q hQ=>?_;refine Zai fun Q hQ=>?_;refine Zaf fun K hK=>?_;(try simp only[go_sem,hx]);refine kg hK ?_;refine Zai fun Q hQ=>?_;refine Zbj ⟨[(0,.p (.sl (v0.map Za6.c))),(3,.p (vi (i1:Int))),(4,.bp 0 0),(13,.p (.sl (v0.map Za6.c))),(14,.p (vi (v0.length:Int))),(15,.p (vi (i1:Int))),(20,.p (vb ((((decide (x4.Severity<0)) || (decide (x4.Severity>100))) || (decide (x4.Days<0))) || (decide (x4.Days>10000)))))],[(0,.cells [.p (vi x4.Severity),.p (vi x4.Days)])],1⟩ (fun K hK=>?_) ?_
     ·(try simp only[go_sem]);(try simp only[go_sem]);refine Zap rfl ?_ ?_<;>intro hg10<;>(try simp only[hg10,go_sem])
      ·(try simp only[go_sem,hg10]);refine kg hK ?_;exact (Upd.sub lb (by simp[go_sem,Zaq,Env.get,hg10]) (by simp[go_sem,Zao,Heap.get,Zat]))
      ·(try simp only[go_sem,hg10]);refine Zap rfl ?_ ?_<;>intro hg11<;>(try simp only[hg11,go_sem])
       ·(try simp only[go_sem,hg10,hg11]);refine kg hK ?_;exact (Upd.sub lb (by simp[go_sem,Zaq,Env.get,hg10,hg11]) (by simp[go_sem,Zao,Heap.get,Zat]))
       ·(try simp only[go_sem,hg10,hg11]);refine Zap rfl ?_ ?_<;>intro hg12<;>(try simp only[hg12,go_sem])
        ·(try simp only[go_sem,hg10,hg11,hg12]);refine kg hK ?_;exact (Upd.sub lb (by simp[go_sem,Zaq,Env.get,hg10,hg11,hg12]) (by simp[go_sem,Zao,Heap.get,Zat]))
        ·(try simp only[go_sem,hg10,hg11,hg12]);refine kg hK ?_;exact (Upd.sub lb (by simp[go_sem,Zaq,Env.get,hg10,hg11,hg12]) (by simp[go_sem,Zao,Heap.get,Zat]))
     refine ci hF (fun hc hF=>?_) (fun hc hF=>?_)
     ·refine Zaf fun K hK=>?_;(try simp only[go_sem]);refine kg hK ?_;refine Zaw ?_;(repeat (refine qg ?_;(try dsimp only);try simp only[reduceCtorEq,E0]));cases hF;cases (hj9 _ (hr9 _ rfl));simp only[go_sem]
     ·obtain⟨b15,h16,hF⟩:=Zae hF;refine Zc8 ⟨[(0,.p (.sl (v0.map Za6.c))),(13,.p (.sl (v0.map Za6.c))),(14,.p (vi (v0.length:Int))),(15,.p (vi (i1:Int))),(39,.p (vb b15))],[],1⟩ (fun K hK=>?_) ?_
      ·(try simp only[go_sem]);(try simp only[go_sem]);refine ZaI rfl ?_ ?_<;>intro hg17<;>(try simp only[hg17,go_sem])
       ·simp only[hg17,gbS] at h16;obtain⟨x18,h19,h16⟩:=Zae h16;replace h19:=Zas Za6.c h19;(try simp only[go_sem] at h19);cases h16;(try simp only[go_sem,h19]);refine kg hK ?_;exact (us (hh:=trivial))
       ·simp only[hg17,gbS] at h16;cases h16;(try simp only[go_sem,hg17]);refine kg hK ?_;exact (us (hh:=trivial))
      refine ci hF (fun hc hF=>?_) (fun hc hF=>?_)
      ·refine Zaf fun K hK=>?_;(try simp only[go_sem]);refine kg hK ?_;refine Zaw ?_;(repeat (refine qg ?_;(try dsimp only);try simp only[reduceCtorEq,E0]));cases hF;cases (hj9 _ (hr9 _ rfl));simp only[go_sem]
      ·refine Zan ?_;(repeat (refine qg ?_;(try dsimp only);try simp only[reduceCtorEq,E0]));refine Zaj ?_;(try simp only[go_sem,hw2]);(repeat (refine qg ?_;(try dsimp only);try simp only[reduceCtorEq,E0]));cases hF;exact⟨_,rfl,(us (hh:=trivial))⟩
   rintro⟨⟩ hF;(try dsimp only at hF ⊢);(repeat (refine qg ?_;(try dsimp only);try simp only[reduceCtorEq,E0]));refine Zaf fun K hK=>?_;(try simp only[go_sem]);refine kg hK ?_;refine Zaw ?_;(repeat (refine qg ?_;(try dsimp only);try simp only[reduceCtorEq,E0]));cases hF;simp only[go_sem]
theorem ZhV {v0:ZaN} {r0} (hF:Zho v0=some r0):APure Try.prog 73 [.p (.agg [.sl (v0.Free.map cI),.sl (v0.Holidays.map cI)])] (.p (.agg (ZaD.c r0))):=by
 unfold Zho at hF;split at hF
 ·rename_i h;cases hF;exact weekOf73 (calOk h)
 ·cases hF
theorem ZhO {v0:ZaD} {v1 v2:Int} {r0 r1} (hF:Zhc v0 v1 v2=some (r0,r1)):APure Try.prog 77 [.p (.agg (ZaD.c v0)),.p (vi v1),.p (vi v2)] (.tup [.p (vi r0),.p (vb r1)]):=by
 unfold Zhc at hF;split at hF
 ·rename_i h;cases hF;exact add77 (calOk h.1) v1 v2 h.2.1 h.2.2.1 h.2.2.2.1 h.2.2.2.2
 ·cases hF
theorem ZhM {v0:ZaD} {v1:List Za6} {v2:Zab} {r0 r1 r2} (hF:Zg7 v0 v1 v2=some (r0,r1,r2)):APure Try.prog 80 [.p (.agg (ZaD.c v0)),.p (.sl (v1.map Za6.c)),.p (.agg [vs v2.Advisory.b,vs v2.Component.b,vi v2.Severity,vi v2.From,vi v2.To,vb v2.Open])] (.tup [.p (vi r0),.p (vb r1),.p (vi r2)]):=by
 refine apureZ 2 rc80_ok rfl ?_;simp only[rc80,ZaG,Nat.reduceAdd,rk,ro,rm,rn,rb,rg,rT,rF];unfold Zg7 at hF;refine Zaf fun K hK=>?_;(try simp only[go_sem]);refine kg hK ?_;refine Zaf fun K hK=>?_;(try simp only[go_sem]);refine kg hK ?_;refine Zah fun Q hQ=>?_;refine Zaf fun K hK=>?_;(try simp only[go_sem]);refine kg hK ?_;refine Zaz hF (fun (n6:Int)=>⟨[(3,.bp 0 0),(5,.bp 1 0),(9,.p (vi n6))],[(1,.cells [.p (vs v2.Advisory.b),.p (vs v2.Component.b),.p (vi v2.Severity),.p (vi v2.From),.p (vi v2.To),.p (vb v2.Open)]),(0,.cells ((ZaD.c v0).map .p))],2⟩) ?_ ?_
 ·intro y7 hF hj7 Q hQ;refine Zai fun Q hQ=>?_;refine Zbb 14 rfl (fun _ _=>ZbU) fun hl3=>?_;simp only[List.length_map,top] at hl3;refine Zbe hF (fun i1 n5=>⟨[(3,.bp 0 0),(5,.bp 1 0),(9,.p (vi n5)),(14,.p (.sl (v1.map Za6.c))),(15,.p (vi (v1.length:Int))),(16,.p (vi (i1:Int)))],[(1,.cells [.p (vs v2.Advisory.b),.p (vs v2.Component.b),.p (vi v2.Severity),.p (vi v2.From),.p (vi v2.To),.p (vb v2.Open)]),(0,.cells ((ZaD.c v0).map .p))],2⟩) us ?_ ?_
  ·rintro n5 hy Q hQ;(try dsimp only at hy ⊢);have hlt:decide (((v1.length:Int):Int)<(v1.length:Int))=false:=by simp
   refine Zaf fun K hK=>?_;(try simp only[go_sem,hlt]);refine kg hK ?_;refine Zah fun Q hQ=>?_;refine Zay rfl (fun hc=>?_) (fun hc=>?_)
   ·cases hc
   refine Zax ?_;(repeat (refine qg ?_;(try dsimp only);try simp only[E0]));exact⟨_,hy,us⟩
  ·rintro i1 x4 n5 z7 hi hx hF hb7 hr7 Q hQ;(try dsimp only at hF ⊢);have hlt:decide ((i1:Int)<(v1.length:Int))=true:=by simp;omega
   have hw2:IntKind.i64.wrap ((i1:Int)+1)=((i1+1:Nat):Int):=by rw[wrap64 (by omega) (by omega)];simp
   refine Zaf fun K hK=>?_;(try simp only[go_sem,hlt]);refine kg hK ?_;refine Zah fun Q hQ=>?_;refine Zay rfl (fun hc=>?_) (fun hc=>?_)
   rotate_left;· cases hc
   refine Zan ?_;(repeat (refine qg ?_;(try dsimp only);try simp only[reduceCtorEq,E0]));refine Zah fun Q hQ=>?_;refine Zai fun Q hQ=>?_;refine Zaf fun K hK=>?_;(try simp only[go_sem,hx]);refine kg hK ?_;refine Zaf fun K hK=>?_;(try simp only[go_sem]);refine kg hK ?_;refine ci hF (fun hc hF=>?_) (fun hc hF=>?_)
   ·refine Zaj ?_;(try simp only[go_sem]);(repeat (refine qg ?_;(try dsimp only);try simp only[reduceCtorEq,E0]));refine Zaj ?_;(try simp only[go_sem,hw2]);(repeat (refine qg ?_;(try dsimp only);try simp only[reduceCtorEq,E0]));cases hF;exact⟨_,rfl,us⟩
   ·refine Zan ?_;(repeat (refine qg ?_;(try dsimp only);try simp only[reduceCtorEq,E0]));refine Zaj ?_;(try simp only[go_sem,hw2]);(repeat (refine qg ?_;(try dsimp only);try simp only[reduceCtorEq,E0]));cases hF;exact⟨_,rfl,us⟩
 rintro n6 hF;(try dsimp only at hF ⊢);(repeat (refine qg ?_;(try dsimp only);try simp only[reduceCtorEq,E0]));refine Zah fun Q hQ=>?_;refine Zaf fun K hK=>?_;(try simp only[go_sem]);refine kg hK ?_;refine ci hF (fun hc hF=>?_) (fun hc hF=>?_)
 ·refine Zaf fun K hK=>?_;(try simp only[go_sem]);refine kg hK ?_;refine Zaw ?_;(repeat (refine qg ?_;(try dsimp only);try simp only[reduceCtorEq,E0]));cases hF;simp only[go_sem]
 ·refine Zan ?_;(repeat (refine qg ?_;(try dsimp only);try simp only[reduceCtorEq,E0]));obtain⟨⟨y8,y9⟩,h10,hF⟩:=Zae hF;(try dsimp only at hF);refine Zaf fun K hK=>?_;(try simp only[go_sem]);refine Zar (ZhO h10) rfl (by simp only[go_sem]) (by simp only[go_sem]) ?_;(try dsimp only);(try simp only[go_sem]);refine kg hK ?_;refine Zah fun Q hQ=>?_;refine Zaf fun K hK=>?_;(try simp only[go_sem]);refine kg hK ?_;refine ci hF (fun hc hF=>?_) (fun hc hF=>?_)
  ·refine Zaf fun K hK=>?_;(try simp only[go_sem]);refine kg hK ?_;refine Zaw ?_;(repeat (refine qg ?_;(try dsimp only);try simp only[reduceCtorEq,E0]));cases hF;simp only[go_sem]
  ·refine Zan ?_;(repeat (refine qg ?_;(try dsimp only);try simp only[reduceCtorEq,E0]));refine Zaf fun K hK=>?_;(try simp only[go_sem]);refine kg hK ?_;refine Zaw ?_;(repeat (refine qg ?_;(try dsimp only);try simp only[reduceCtorEq,E0]));cases hF;simp only[go_sem]
end Go.Abs
