/- The walks of these functions against the plain ones (printed by a program of this repo). -/
import Derived.Test.YtjjhmldeammecaaRHc
import Derived.Test.YtjjhmldeammecaaW7
namespace Go.Abs
open Go Go.Proofs
set_option maxRecDepth 8000
theorem ZcI {v0:Str} {r0} (hF:Zcg v0=some r0):APure Try.prog 93 [.p (vs v0.b)] (.p (vb r0)):=by
 refine apureZ 2 rc93_ok rfl ?_;simp only[rc93,ZaG,rk,ro,rm,rp,rb,rg,rT,rF];unfold Zcg at hF;refine Zaf fun K hK=>?_;(try simp only[go_sem]);refine kg hK ?_;refine Zah fun Q hQ=>?_;refine Zaf fun K hK=>?_;(try simp only[go_sem]);refine kg hK ?_;refine Zaz hF (fun (_:Unit)=>⟨[(0,.p (vs v0.b))],[],0⟩) ?_ ?_
 ·intro y8 hF hj8 Q hQ;refine Zai fun Q hQ=>?_;refine ZaM hF (fun (n4:Int)=>⟨[(0,.p (vs v0.b)),(3,.p (vi n4))],[],0⟩) (us (hh:=trivial)) ?_;rintro n4 z8 hF hb8 hr8 Q hQ;(try dsimp only at hF ⊢);refine Zah fun Q hQ=>?_;refine Zaf fun K hK=>?_;(try simp only[go_sem]);refine kg hK ?_;refine ci hF (fun hc hF=>?_) (fun hc hF=>?_)
  ·refine Zan ?_;(repeat (refine qg ?_;(try dsimp only);try simp only[reduceCtorEq,E0]));refine Zah fun Q hQ=>?_;refine Zai fun Q hQ=>?_;obtain⟨c9,h10,hF⟩:=Zae hF;obtain⟨h100,b11,h101,h10v⟩:=sidx_some h10;replace h10v:=h10v.symm;replace h10:_∧_:=⟨h100,h101⟩;clear h100 h101;(try simp only[go_sem] at h10);refine Zbj ⟨[(0,.p (vs v0.b)),(3,.p (vi n4)),(19,.p (vb ((decide (c9<33)) || (decide (c9>126)))))],[],0⟩ (fun K hK=>?_) ?_
   ·(try simp only[go_sem,h10,h10v]);(try simp only[go_sem,h10,h10v]);refine Zap rfl ?_ ?_<;>intro hg12<;>(try simp only[hg12,go_sem,h10,h10v])
    ·(try simp only[go_sem,h10,h10v,hg12]);refine kg hK ?_;exact (Upd.sub lb (by simp[go_sem,Zaq,Env.get,hg12]) trivial)
    ·(try simp only[go_sem,h10,h10v,hg12]);refine kg hK ?_;exact (Upd.sub lb (by simp[go_sem,Zaq,Env.get,hg12]) trivial)
   refine ci hF (fun hc hF=>?_) (fun hc hF=>?_)
   ·refine Zaf fun K hK=>?_;(try simp only[go_sem]);refine kg hK ?_;refine Zaw ?_;(repeat (refine qg ?_;(try dsimp only);try simp only[reduceCtorEq,E0]));cases hF;cases (hj8 _ (hr8 _ rfl));simp only[go_sem]
   ·refine Zan ?_;(repeat (refine qg ?_;(try dsimp only);try simp only[reduceCtorEq,E0]));refine Zaj ?_;(try simp only[go_sem]);(repeat (refine qg ?_;(try dsimp only);try simp only[reduceCtorEq,E0]));cases hF;exact⟨_,rfl,(us (hh:=trivial))⟩
  ·refine Zax ?_;(repeat (refine qg ?_;(try dsimp only);try simp only[E0]));cases hF;exact⟨_,hb8 _ rfl,(us (hh:=trivial))⟩
 rintro⟨⟩ hF;(try dsimp only at hF ⊢);(repeat (refine qg ?_;(try dsimp only);try simp only[reduceCtorEq,E0]));refine Zbj ⟨[(2,.p (vb ((decide ((v0.b.size:Int)≥1)) && (decide ((v0.b.size:Int)≤100)))))],[],0⟩ (fun K hK=>?_) ?_
 ·(try simp only[go_sem]);(try simp only[go_sem]);refine Zap rfl ?_ ?_<;>intro hg13<;>(try simp only[hg13,go_sem])
  ·(try simp only[go_sem,hg13]);refine kg hK ?_;exact (Upd.sub lb (by simp[go_sem,Zaq,Env.get,hg13]) trivial)
  ·(try simp only[go_sem,hg13]);refine kg hK ?_;exact (Upd.sub lb (by simp[go_sem,Zaq,Env.get,hg13]) trivial)
 refine Zaw ?_;(repeat (refine qg ?_;(try dsimp only);try simp only[reduceCtorEq,E0]));cases hF;simp only[go_sem]
theorem ZfF {v0:Int} {r0} (hF:ZcN v0=some r0):APure Try.prog 69 [.p (vi v0)] (.p (vb r0)):=by
 refine apureZ 2 rc69_ok rfl ?_;simp only[rc69,ZaG,rk,ro,rm,rp,rb,rg,rF];unfold ZcN at hF;refine Zaf fun K hK=>?_;(try simp only[go_sem]);refine kg hK ?_;refine Zbj ⟨[(2,.p (vb ((decide (v0≥0)) && (decide (v0≤1000000)))))],[],0⟩ (fun K hK=>?_) ?_
 ·(try simp only[go_sem]);(try simp only[go_sem]);refine Zap rfl ?_ ?_<;>intro hg1<;>(try simp only[hg1,go_sem])
  ·(try simp only[go_sem,hg1]);refine kg hK ?_;exact (Upd.sub lb (by simp[go_sem,Zaq,Env.get,hg1]) trivial)
  ·(try simp only[go_sem,hg1]);refine kg hK ?_;exact (Upd.sub lb (by simp[go_sem,Zaq,Env.get,hg1]) trivial)
 refine Zaw ?_;(repeat (refine qg ?_;(try dsimp only);try simp only[reduceCtorEq,E0]));cases hF;simp only[go_sem]
theorem Zeb {v0:Zad} {v1:Zad} {r0} (hF:ZdS v0 v1=some r0):APure Try.prog 131 [.p (.agg [vs v0.Advisory.b,vs v0.Component.b,vi v0.Severity]),.p (.agg [vs v1.Advisory.b,vs v1.Component.b,vi v1.Severity])] (.p (vb r0)):=by
 refine apureZ 2 rc131_ok rfl ?_;simp only[rc131,ZaG,Nat.reduceAdd,ro,rm,rp,rg,rT,rF];unfold ZdS at hF;refine Zaf fun K hK=>?_;(try simp only[go_sem]);refine kg hK ?_;refine Zbj ⟨[(4,.p (vb ((sLt v0.Advisory.b v1.Advisory.b) || ((sEq v0.Advisory.b v1.Advisory.b) && (sLt v0.Component.b v1.Component.b)))))],[],2⟩ (fun K hK=>?_) ?_
 ·(try simp only[go_sem]);(try simp only[go_sem]);refine Zap rfl ?_ ?_<;>intro hg1<;>(try simp only[hg1,go_sem])
  ·(try simp only[go_sem,hg1]);refine kg hK ?_;exact (Upd.sub lb (by simp[go_sem,Zaq,Env.get,hg1]) trivial)
  ·(try simp only[go_sem,hg1]);refine Zap rfl ?_ ?_<;>intro hg2<;>(try simp only[hg2,go_sem])
   ·(try simp only[go_sem,hg1,hg2]);refine kg hK ?_;exact (Upd.sub lb (by simp[go_sem,Zaq,Env.get,hg1,hg2]) trivial)
   ·(try simp only[go_sem,hg1,hg2]);refine kg hK ?_;exact (Upd.sub lb (by simp[go_sem,Zaq,Env.get,hg1,hg2]) trivial)
 refine Zaw ?_;(repeat (refine qg ?_;(try dsimp only);try simp only[reduceCtorEq,E0]));cases hF;simp only[go_sem]
theorem ZeV {v0:List Zad} {r0} (hF:ZbK v0=some r0):APure Try.prog 94 [.p (.sl (v0.map Zad.c))] (.p (vi r0)):=by
 refine apureZ 2 rc94_ok rfl ?_;simp only[rc94,ZaG,rk,ro,rm,rp,rn,rb,rg,rT,rF];unfold ZbK at hF;refine Zaf fun K hK=>?_;(try simp only[go_sem]);refine kg hK ?_;refine Zah fun Q hQ=>?_;refine Zaf fun K hK=>?_;(try simp only[go_sem]);refine kg hK ?_;refine ci hF (fun hc hF=>?_) (fun hc hF=>?_)
 ·refine Zaf fun K hK=>?_;(try simp only[go_sem]);refine kg hK ?_;refine Zaw ?_;(repeat (refine qg ?_;(try dsimp only);try simp only[reduceCtorEq,E0]));cases hF;simp only[go_sem]
 ·refine Zan ?_;(repeat (refine qg ?_;(try dsimp only);try simp only[reduceCtorEq,E0]));refine Zah fun Q hQ=>?_;refine Zaf fun K hK=>?_;(try simp only[go_sem]);refine kg hK ?_;refine Zaz hF (fun (_:Unit)=>⟨[],[],0⟩) ?_ ?_
  ·intro y17 hF hj17 Q hQ;refine Zai fun Q hQ=>?_;refine Zbb 0 rfl (fun _ _=>ZbU) fun hl3=>?_;simp only[List.length_map,top] at hl3;refine Zbe hF (fun i1 _=>⟨[(0,.p (.sl (v0.map Zad.c))),(8,.p (.sl (v0.map Zad.c))),(9,.p (vi (v0.length:Int))),(10,.p (vi (i1:Int)))],[],0⟩) (us (hh:=trivial)) ?_ ?_
   ·rintro⟨⟩ hy Q hQ;(try dsimp only at hy ⊢);have hlt:decide (((v0.length:Int):Int)<(v0.length:Int))=false:=by simp
    refine Zaf fun K hK=>?_;(try simp only[go_sem,hlt]);refine kg hK ?_;refine Zah fun Q hQ=>?_;refine Zay rfl (fun hc=>?_) (fun hc=>?_)
    ·cases hc
    refine Zax ?_;(repeat (refine qg ?_;(try dsimp only);try simp only[E0]));exact⟨_,hy,(us (hh:=trivial))⟩
   ·rintro i1 x4 ⟨⟩ z17 hi hx hF hb17 hr17 Q hQ;(try dsimp only at hF ⊢);have hlt:decide ((i1:Int)<(v0.length:Int))=true:=by simp;omega
    have hw2:IntKind.i64.wrap ((i1:Int)+1)=((i1+1:Nat):Int):=by rw[wrap64 (by omega) (by omega)];simp
    refine Zaf fun K hK=>?_;(try simp only[go_sem,hlt]);refine kg hK ?_;refine Zah fun Q hQ=>?_;refine Zay rfl (fun hc=>?_) (fun hc=>?_)
    rotate_left;· cases hc
    refine Zan ?_;(repeat (refine qg ?_;(try dsimp only);try simp only[reduceCtorEq,E0]));refine Zah fun Q hQ=>?_;refine Zai fun Q hQ=>?_;refine Zaf fun K hK=>?_;(try simp only[go_sem,hx]);refine kg hK ?_;refine Zai fun Q hQ=>?_;obtain⟨y18,h19,hF⟩:=Zae hF;obtain⟨b22,h23,hF⟩:=Zae hF;refine Zbj ⟨[(0,.p (.sl (v0.map Zad.c))),(3,.p (vi (i1:Int))),(4,.bp 0 0),(8,.p (.sl (v0.map Zad.c))),(9,.p (vi (v0.length:Int))),(10,.p (vi (i1:Int))),(15,.p (vb b22))],[(0,.cells [.p (vs x4.Advisory.b),.p (vs x4.Component.b),.p (vi x4.Severity)])],1⟩ (fun K hK=>?_) ?_
    ·(try simp only[go_sem]);(try simp only[go_sem]);refine Zar (ZcI h19) rfl (by simp only[go_sem]) (by simp only[go_sem]) ?_;(try dsimp only);(try simp only[go_sem]);(try simp only[go_sem]);refine Zap rfl ?_ ?_<;>intro hg24<;>(try simp only[hg24,go_sem])
     ·simp only[hg24,gbS] at h23;cases h23;(try simp only[go_sem,hg24]);refine kg hK ?_;exact us
     ·simp only[hg24,gbS] at h23;obtain⟨y25,h26,h23⟩:=Zae h23;(try simp only[go_sem,hg24]);refine Zar (ZcI h26) rfl (by simp only[go_sem]) (by simp only[go_sem]) ?_;(try dsimp only);(try simp only[go_sem]);cases h23;(try simp only[go_sem,hg24]);refine kg hK ?_;exact us
    refine ci hF (fun hc hF=>?_) (fun hc hF=>?_)
    ·refine Zaf fun K hK=>?_;(try simp only[go_sem]);refine kg hK ?_;refine Zaw ?_;(repeat (refine qg ?_;(try dsimp only);try simp only[reduceCtorEq,E0]));cases hF;cases (hj17 _ (hr17 _ rfl));simp only[go_sem]
    ·refine Zbj ⟨[(0,.p (.sl (v0.map Zad.c))),(3,.p (vi (i1:Int))),(4,.bp 0 0),(8,.p (.sl (v0.map Zad.c))),(9,.p (vi (v0.length:Int))),(10,.p (vi (i1:Int))),(26,.p (vb ((decide (x4.Severity<0)) || (decide (x4.Severity>100)))))],[(0,.cells [.p (vs x4.Advisory.b),.p (vs x4.Component.b),.p (vi x4.Severity)])],1⟩ (fun K hK=>?_) ?_
     ·(try simp only[go_sem]);(try simp only[go_sem]);refine Zap rfl ?_ ?_<;>intro hg27<;>(try simp only[hg27,go_sem])
      ·(try simp only[go_sem,hg27]);refine kg hK ?_;exact (Upd.sub lb (by simp[go_sem,Zaq,Env.get,hg27]) (by simp[go_sem,Zao,Heap.get,Zat]))
      ·(try simp only[go_sem,hg27]);refine kg hK ?_;exact (Upd.sub lb (by simp[go_sem,Zaq,Env.get,hg27]) (by simp[go_sem,Zao,Heap.get,Zat]))
     refine ci hF (fun hc hF=>?_) (fun hc hF=>?_)
     ·refine Zaf fun K hK=>?_;(try simp only[go_sem]);refine kg hK ?_;refine Zaw ?_;(repeat (refine qg ?_;(try dsimp only);try simp only[reduceCtorEq,E0]));cases hF;cases (hj17 _ (hr17 _ rfl));simp only[go_sem]
     ·obtain⟨b32,h33,hF⟩:=Zae hF;refine Zc8 ⟨[(0,.p (.sl (v0.map Zad.c))),(8,.p (.sl (v0.map Zad.c))),(9,.p (vi (v0.length:Int))),(10,.p (vi (i1:Int))),(35,.p (vb b32))],[],1⟩ (fun K hK=>?_) ?_
      ·(try simp only[go_sem]);(try simp only[go_sem]);refine ZaI rfl ?_ ?_<;>intro hg34<;>(try simp only[hg34,go_sem])
       ·simp only[hg34,gbS] at h33;obtain⟨x35,h36,h33⟩:=Zae h33;replace h36:=Zas Zad.c h36;(try simp only[go_sem] at h36);obtain⟨y37,h38,h33⟩:=Zae h33;(try simp only[go_sem,h36]);refine⟨_,Zar (Zeb h38) rfl (by simp only[go_sem]) (by simp only[go_sem]) ⟨rfl,rfl,rfl⟩,?_⟩;(try dsimp only);(try simp only[go_sem]);cases h33;(try simp only[go_sem,h36,hg34]);refine kg hK ?_;exact (us (hh:=trivial))
       ·simp only[hg34,gbS] at h33;cases h33;(try simp only[go_sem,hg34]);refine kg hK ?_;exact (us (hh:=trivial))
      refine ci hF (fun hc hF=>?_) (fun hc hF=>?_)
      ·refine Zaf fun K hK=>?_;(try simp only[go_sem]);refine kg hK ?_;refine Zaw ?_;(repeat (refine qg ?_;(try dsimp only);try simp only[reduceCtorEq,E0]));cases hF;cases (hj17 _ (hr17 _ rfl));simp only[go_sem]
      ·refine Zan ?_;(repeat (refine qg ?_;(try dsimp only);try simp only[reduceCtorEq,E0]));refine Zaj ?_;(try simp only[go_sem,hw2]);(repeat (refine qg ?_;(try dsimp only);try simp only[reduceCtorEq,E0]));cases hF;exact⟨_,rfl,(us (hh:=trivial))⟩
  rintro⟨⟩ hF;(try dsimp only at hF ⊢);(repeat (refine qg ?_;(try dsimp only);try simp only[reduceCtorEq,E0]));refine Zaf fun K hK=>?_;(try simp only[go_sem]);refine kg hK ?_;refine Zaw ?_;(repeat (refine qg ?_;(try dsimp only);try simp only[reduceCtorEq,E0]));cases hF;simp only[go_sem]
theorem ZgS {v0:Str} {r0} (hF:ZdB v0=some r0):APure Try.prog 132 [.p (vs v0.b)] (.p (vb r0)):=by
 refine apureZ 2 rc132_ok rfl ?_;simp only[rc132,ZaG,rk,ro,rm,rp,rb,rg,rT,rF];unfold ZdB at hF;refine Zaf fun K hK=>?_;(try simp only[go_sem]);refine kg hK ?_;refine Zah fun Q hQ=>?_;refine Zaf fun K hK=>?_;(try simp only[go_sem]);refine kg hK ?_;refine Zaz hF (fun (_:Unit)=>⟨[(0,.p (vs v0.b))],[],0⟩) ?_ ?_
 ·intro y7 hF hj7 Q hQ;refine Zai fun Q hQ=>?_;have hl3:=v0.h;unfold top at hl3;refine aw_forN hF (fun i1 _=>⟨[(0,.p (vs v0.b)),(5,.p (vi (v0.b.size:Int))),(6,.p (vi (i1:Int)))],[],0⟩) (us (hh:=trivial)) ?_ ?_
  ·rintro⟨⟩ hy Q hQ;(try dsimp only at hy ⊢);have hlt:decide (((v0.b.size:Int):Int)<(v0.b.size:Int))=false:=by simp
   refine Zaf fun K hK=>?_;(try simp only[go_sem,hlt]);refine kg hK ?_;refine Zah fun Q hQ=>?_;refine Zay rfl (fun hc=>?_) (fun hc=>?_)
   ·cases hc
   refine Zax ?_;(repeat (refine qg ?_;(try dsimp only);try simp only[E0]));exact⟨_,hy,(us (hh:=trivial))⟩
  ·rintro i1 ⟨⟩ z7 hi hF hb7 hr7 Q hQ;(try dsimp only at hF ⊢);have hlt:decide ((i1:Int)<(v0.b.size:Int))=true:=by simp;omega
   have hw2:IntKind.i64.wrap ((i1:Int)+1)=((i1+1:Nat):Int):=by rw[wrap64 (by omega) (by omega)];simp
   refine Zaf fun K hK=>?_;(try simp only[go_sem,hlt]);refine kg hK ?_;refine Zah fun Q hQ=>?_;refine Zay rfl (fun hc=>?_) (fun hc=>?_)
   rotate_left;· cases hc
   refine Zan ?_;(repeat (refine qg ?_;(try dsimp only);try simp only[reduceCtorEq,E0]));refine Zah fun Q hQ=>?_;refine Zai fun Q hQ=>?_;refine Zaf fun K hK=>?_;(try simp only[go_sem]);refine kg hK ?_;obtain⟨c8,h9,hF⟩:=Zae hF;obtain⟨h90,b10,h91,h9v⟩:=sidx_some h9;replace h9v:=h9v.symm;replace h9:_∧_:=⟨h90,h91⟩;clear h90 h91;(try simp only[go_sem] at h9);refine Zbj ⟨[(0,.p (vs v0.b)),(5,.p (vi (v0.b.size:Int))),(6,.p (vi (i1:Int))),(18,.p (vb ((decide (c8<33)) || (decide (c8>126)))))],[],0⟩ (fun K hK=>?_) ?_
   ·(try simp only[go_sem,h9,h9v]);(try simp only[go_sem,h9,h9v]);refine Zap rfl ?_ ?_<;>intro hg11<;>(try simp only[hg11,go_sem,h9,h9v])
    ·(try simp only[go_sem,h9,h9v,hg11]);refine kg hK ?_;exact (Upd.sub lb (by simp[go_sem,Zaq,Env.get,hg11]) trivial)
    ·(try simp only[go_sem,h9,h9v,hg11]);refine kg hK ?_;exact (Upd.sub lb (by simp[go_sem,Zaq,Env.get,hg11]) trivial)
   refine ci hF (fun hc hF=>?_) (fun hc hF=>?_)
   ·refine Zaf fun K hK=>?_;(try simp only[go_sem]);refine kg hK ?_;refine Zaw ?_;(repeat (refine qg ?_;(try dsimp only);try simp only[reduceCtorEq,E0]));cases hF;cases (hj7 _ (hr7 _ rfl));simp only[go_sem]
   ·refine Zan ?_;(repeat (refine qg ?_;(try dsimp only);try simp only[reduceCtorEq,E0]));refine Zaj ?_;(try simp only[go_sem,hw2]);(repeat (refine qg ?_;(try dsimp only);try simp only[reduceCtorEq,E0]));cases hF;exact⟨_,rfl,(us (hh:=trivial))⟩
 rintro⟨⟩ hF;(try dsimp only at hF ⊢);(repeat (refine qg ?_;(try dsimp only);try simp only[reduceCtorEq,E0]));refine Zaf fun K hK=>?_;(try simp only[go_sem]);refine kg hK ?_;refine Zaw ?_;(repeat (refine qg ?_;(try dsimp only);try simp only[reduceCtorEq,E0]));cases hF;simp only[go_sem]
theorem Zct {v0:Str} {r0} (hF:ZbX v0=some r0):APure Try.prog 96 [.p (vs v0.b)] (.p (vb r0)):=by
 refine apureZ 2 rc96_ok rfl ?_;simp only[rc96,ZaG,rk,ro,rm,rp,rb,rg,rF];unfold ZbX at hF;refine Zaf fun K hK=>?_;(try simp only[go_sem]);refine kg hK ?_;obtain⟨y1,h2,hF⟩:=Zae hF;refine Zbj ⟨[(2,.p (vb (y1 && (decide ((v0.b.size:Int)≤100)))))],[],0⟩ (fun K hK=>?_) ?_
 ·(try simp only[go_sem]);(try simp only[go_sem]);refine Zar (ZgS h2) rfl (by simp only[go_sem]) (by simp only[go_sem]) ?_;(try dsimp only);(try simp only[go_sem]);(try simp only[go_sem]);refine Zap rfl ?_ ?_<;>intro hg3<;>(try simp only[hg3,go_sem])
  ·(try simp only[go_sem,hg3]);refine kg hK ?_;exact (Upd.sub lb (by simp[go_sem,Zaq,Env.get,hg3]) trivial)
  ·(try simp only[go_sem,hg3]);refine kg hK ?_;exact (Upd.sub lb (by simp[go_sem,Zaq,Env.get,hg3]) trivial)
 refine Zaw ?_;(repeat (refine qg ?_;(try dsimp only);try simp only[reduceCtorEq,E0]));cases hF;simp only[go_sem]
theorem Zfa {v0:Int} {r0} (hF:Zcl v0=some r0):APure Try.prog 72 [.p (vi v0)] (.p (vb r0)):=by
 refine apureZ 2 rc72_ok rfl ?_;simp only[rc72,ZaG,rk,ro,rm,rp,rb,rg,rF];unfold Zcl at hF;refine Zaf fun K hK=>?_;(try simp only[go_sem]);refine kg hK ?_;refine Zbj ⟨[(2,.p (vb ((decide (v0≥0)) && (decide (v0≤1000000)))))],[],0⟩ (fun K hK=>?_) ?_
 ·(try simp only[go_sem]);(try simp only[go_sem]);refine Zap rfl ?_ ?_<;>intro hg1<;>(try simp only[hg1,go_sem])
  ·(try simp only[go_sem,hg1]);refine kg hK ?_;exact (Upd.sub lb (by simp[go_sem,Zaq,Env.get,hg1]) trivial)
  ·(try simp only[go_sem,hg1]);refine kg hK ?_;exact (Upd.sub lb (by simp[go_sem,Zaq,Env.get,hg1]) trivial)
 refine Zaw ?_;(repeat (refine qg ?_;(try dsimp only);try simp only[reduceCtorEq,E0]));cases hF;simp only[go_sem]
theorem Zd0 {v0:Zad} {r0} (hF:Zcf v0=some r0):APure Try.prog 86 [.p (.agg [vs v0.Advisory.b,vs v0.Component.b,vi v0.Severity])] (.p (.agg [vs r0.advisory.b,vs r0.component.b])):=by
 refine apureZ 2 rc86_ok rfl ?_;simp only[rc86,ZaG,ro,rn,rg];unfold Zcf at hF;refine Zaf fun K hK=>?_;(try simp only[go_sem]);refine kg hK ?_;refine Zaf fun K hK=>?_;(try simp only[go_sem]);refine kg hK ?_;refine Zaw ?_;(repeat (refine qg ?_;(try dsimp only);try simp only[reduceCtorEq,E0]));cases hF;simp only[go_sem]
theorem Zee {v0:Str} {r0} (hF:ZcD v0=some r0):APure Try.prog 152 [.p (vs v0.b)] (.p (vb r0)):=by
 refine apureZ 2 rc152_ok rfl ?_;simp only[rc152,ZaG,ro,rm,rg,rF];unfold ZcD at hF;refine Zaf fun K hK=>?_;(try simp only[go_sem]);refine kg hK ?_;refine Zaf fun K hK=>?_;(try simp only[go_sem]);refine kg hK ?_;refine Zaw ?_;(repeat (refine qg ?_;(try dsimp only);try simp only[reduceCtorEq,E0]));cases hF;simp only[go_sem]
theorem Zci {v0:Str} {v1:Str} {r0} (hF:Zbm v0 v1=some r0):APure Try.prog 138 [.p (vs v0.b),.p (vs v1.b)] (.p (vi r0)):=by
 refine apureZ 2 rc138_ok rfl ?_;simp only[rc138,ZaG,Nat.reduceAdd,rk,ro,rm,rg];unfold Zbm at hF;refine Zaf fun K hK=>?_;(try simp only[go_sem]);refine kg hK ?_;obtain⟨y1,h2,hF⟩:=Zae hF;refine Zaf fun K hK=>?_;(try simp only[go_sem]);refine Zar (Zee h2) rfl (by simp only[go_sem]) (by simp only[go_sem]) ?_;(try dsimp only);(try simp only[go_sem]);refine kg hK ?_;obtain⟨y3,h4,hF⟩:=Zae hF;refine Zaf fun K hK=>?_;(try simp only[go_sem]);refine Zar (Zee h4) rfl (by simp only[go_sem]) (by simp only[go_sem]) ?_;(try dsimp only);(try simp only[go_sem]);refine kg hK ?_;refine Zah fun Q hQ=>?_;refine Zaf fun K hK=>?_;(try simp only[go_sem]);refine kg hK ?_;refine ci hF (fun hc hF=>?_) (fun hc hF=>?_)
 ·refine Zah fun Q hQ=>?_;refine Zaf fun K hK=>?_;(try simp only[go_sem]);refine kg hK ?_;refine ci hF (fun hc hF=>?_) (fun hc hF=>?_)
  ·refine Zaf fun K hK=>?_;(try simp only[go_sem]);refine kg hK ?_;refine Zaw ?_;(repeat (refine qg ?_;(try dsimp only);try simp only[reduceCtorEq,E0]));cases hF;simp only[go_sem]
  ·refine Zan ?_;(repeat (refine qg ?_;(try dsimp only);try simp only[reduceCtorEq,E0]));refine Zaf fun K hK=>?_;(try simp only[go_sem]);refine kg hK ?_;refine Zaw ?_;(repeat (refine qg ?_;(try dsimp only);try simp only[reduceCtorEq,E0]));cases hF;simp only[go_sem]
 ·refine Zan ?_;(repeat (refine qg ?_;(try dsimp only);try simp only[reduceCtorEq,E0]));refine Zah fun Q hQ=>?_;refine Zaf fun K hK=>?_;(try simp only[go_sem]);refine kg hK ?_;refine ci hF (fun hc hF=>?_) (fun hc hF=>?_)
  ·refine Zaf fun K hK=>?_;(try simp only[go_sem]);refine kg hK ?_;refine Zaw ?_;(repeat (refine qg ?_;(try dsimp only);try simp only[reduceCtorEq,E0]));cases hF;simp only[go_sem]
  ·refine Zan ?_;(repeat (refine qg ?_;(try dsimp only);try simp only[reduceCtorEq,E0]));refine Zah fun Q hQ=>?_;refine Zaf fun K hK=>?_;(try simp only[go_sem]);refine kg hK ?_;refine ci hF (fun hc hF=>?_) (fun hc hF=>?_)
   ·refine Zaf fun K hK=>?_;(try simp only[go_sem]);refine kg hK ?_;refine Zaw ?_;(repeat (refine qg ?_;(try dsimp only);try simp only[reduceCtorEq,E0]));cases hF;simp only[go_sem]
   ·refine Zan ?_;(repeat (refine qg ?_;(try dsimp only);try simp only[reduceCtorEq,E0]));refine Zah fun Q hQ=>?_;refine Zaf fun K hK=>?_;(try simp only[go_sem]);refine kg hK ?_;refine ci hF (fun hc hF=>?_) (fun hc hF=>?_)
    ·refine Zaf fun K hK=>?_;(try simp only[go_sem]);refine kg hK ?_;refine Zaw ?_;(repeat (refine qg ?_;(try dsimp only);try simp only[reduceCtorEq,E0]));cases hF;simp only[go_sem]
    ·refine Zan ?_;(repeat (refine qg ?_;(try dsimp only);try simp only[reduceCtorEq,E0]));refine Zaf fun K hK=>?_;(try simp only[go_sem]);refine kg hK ?_;refine Zaw ?_;(repeat (refine qg ?_;(try dsimp only);try simp only[reduceCtorEq,E0]));cases hF;simp only[go_sem]
theorem ZfX {v0:List Int} {r0} (hF:Zdg v0=some r0):APure Try.prog 150 [.p (.sl (v0.map cI))] (.p (vi r0)):=by
 refine apureZ 2 rc150_ok rfl ?_;simp only[rc150,ZaG,rk,ro,rm,rb,rg];unfold Zdg at hF;refine Zaf fun K hK=>?_;(try simp only[go_sem]);refine kg hK ?_;refine Zaf fun K hK=>?_;(try simp only[go_sem]);refine kg hK ?_;refine Zah fun Q hQ=>?_;refine Zaf fun K hK=>?_;(try simp only[go_sem]);refine kg hK ?_;refine Zaz hF (fun (_:Unit)=>⟨[(3,.p (vi 0))],[],0⟩) ?_ ?_
 ·intro y5 hF hj5 Q hQ;refine Zai fun Q hQ=>?_;refine Zbb 6 rfl (fun _ _=>ZbU) fun hl3=>?_;simp only[List.length_map,top] at hl3;refine Zbe hF (fun i1 _=>⟨[(3,.p (vi 0)),(6,.p (.sl (v0.map cI))),(7,.p (vi (v0.length:Int))),(8,.p (vi (i1:Int)))],[],0⟩) (us (hh:=trivial)) ?_ ?_
  ·rintro⟨⟩ hy Q hQ;(try dsimp only at hy ⊢);have hlt:decide (((v0.length:Int):Int)<(v0.length:Int))=false:=by simp
   refine Zaf fun K hK=>?_;(try simp only[go_sem,hlt]);refine kg hK ?_;refine Zah fun Q hQ=>?_;refine Zay rfl (fun hc=>?_) (fun hc=>?_)
   ·cases hc
   refine Zax ?_;(repeat (refine qg ?_;(try dsimp only);try simp only[E0]));exact⟨_,hy,(us (hh:=trivial))⟩
  ·rintro i1 x4 ⟨⟩ z5 hi hx hF hb5 hr5 Q hQ;(try dsimp only at hF ⊢);have hlt:decide ((i1:Int)<(v0.length:Int))=true:=by simp;omega
   have hw2:IntKind.i64.wrap ((i1:Int)+1)=((i1+1:Nat):Int):=by rw[wrap64 (by omega) (by omega)];simp
   refine Zaf fun K hK=>?_;(try simp only[go_sem,hlt]);refine kg hK ?_;refine Zah fun Q hQ=>?_;refine Zay rfl (fun hc=>?_) (fun hc=>?_)
   rotate_left;· cases hc
   refine Zan ?_;(repeat (refine qg ?_;(try dsimp only);try simp only[reduceCtorEq,E0]));refine Zah fun Q hQ=>?_;refine Zai fun Q hQ=>?_;refine Zaf fun K hK=>?_;(try simp only[go_sem,hx]);refine kg hK ?_;refine Zaf fun K hK=>?_;(try simp only[go_sem]);refine kg hK ?_;refine ci hF (fun hc hF=>?_) (fun hc hF=>?_)
   ·refine Zaf fun K hK=>?_;(try simp only[go_sem]);refine kg hK ?_;refine Zaw ?_;(repeat (refine qg ?_;(try dsimp only);try simp only[reduceCtorEq,E0]));cases hF;cases (hj5 _ (hr5 _ rfl));simp only[go_sem]
   ·refine Zan ?_;(repeat (refine qg ?_;(try dsimp only);try simp only[reduceCtorEq,E0]));refine Zaj ?_;(try simp only[go_sem,hw2]);(repeat (refine qg ?_;(try dsimp only);try simp only[reduceCtorEq,E0]));cases hF;exact⟨_,rfl,(us (hh:=trivial))⟩
 rintro⟨⟩ hF;(try dsimp only at hF ⊢);(repeat (refine qg ?_;(try dsimp only);try simp only[reduceCtorEq,E0]));refine Zaf fun K hK=>?_;(try simp only[go_sem]);refine kg hK ?_;refine Zaw ?_;(repeat (refine qg ?_;(try dsimp only);try simp only[reduceCtorEq,E0]));cases hF;simp only[go_sem]
theorem ZfD {v0:Zal} {v1:Zal} {r0} (hF:Zcu v0 v1=some r0):APure Try.prog 146 [.p (.agg [vs v0.advisory.b,vs v0.component.b]),.p (.agg [vs v1.advisory.b,vs v1.component.b])] (.p (vi r0)):=by
 refine apureZ 2 rc146_ok rfl ?_;simp only[rc146,ZaG,Nat.reduceAdd,rk,ro,rm,rg];unfold Zcu at hF;refine Zaf fun K hK=>?_;(try simp only[go_sem]);refine kg hK ?_;obtain⟨y1,h2,hF⟩:=Zae hF;obtain⟨y3,h4,hF⟩:=Zae hF;obtain⟨y5,h6,hF⟩:=Zae hF;refine ZaS fun K hK=>?_;(try simp only[go_sem]);refine⟨_,Zar (Zci h2) rfl (by simp only[go_sem]) (by simp only[go_sem]) ⟨rfl,rfl,rfl⟩,?_⟩;(try dsimp only);(try simp only[go_sem]);refine⟨_,Zar (Zci h4) rfl (by simp only[go_sem]) (by simp only[go_sem]) ⟨rfl,rfl,rfl⟩,?_⟩;(try dsimp only);(try simp only[go_sem]);refine⟨_,Zcd (ZfX h6) 1 (by simp only[go_sem]) (by simp only[go_sem]) rfl ⟨rfl,rfl,rfl⟩,?_⟩;(try dsimp only);(try simp only[go_sem]);refine kg hK ?_;refine Zaw ?_;(repeat (refine qg ?_;(try dsimp only);try simp only[reduceCtorEq,E0]));cases hF;simp only[go_sem]
theorem ZeF {v0:List Zad} {r0} (hF:ZbQ v0=some r0):APure Try.prog 128 [.p (.sl (v0.map Zad.c))] (.p (vi r0)):=by
 refine apureZ 2 rc128_ok rfl ?_;simp only[rc128,ZaG,rk,ro,rm,rp,rn,rb,rg,rT,rF];unfold ZbQ at hF;refine Zaf fun K hK=>?_;(try simp only[go_sem]);refine kg hK ?_;refine Zah fun Q hQ=>?_;refine Zaf fun K hK=>?_;(try simp only[go_sem]);refine kg hK ?_;refine ci hF (fun hc hF=>?_) (fun hc hF=>?_)
 ·refine Zaf fun K hK=>?_;(try simp only[go_sem]);refine kg hK ?_;refine Zaw ?_;(repeat (refine qg ?_;(try dsimp only);try simp only[reduceCtorEq,E0]));cases hF;simp only[go_sem]
 ·refine Zan ?_;(repeat (refine qg ?_;(try dsimp only);try simp only[reduceCtorEq,E0]));refine Zah fun Q hQ=>?_;refine Zaf fun K hK=>?_;(try simp only[go_sem]);refine kg hK ?_;refine Zaz hF (fun (_:Unit)=>⟨[],[],0⟩) ?_ ?_
  ·intro y21 hF hj21 Q hQ;refine Zai fun Q hQ=>?_;refine Zbb 0 rfl (fun _ _=>ZbU) fun hl3=>?_;simp only[List.length_map,top] at hl3;refine Zbe hF (fun i1 _=>⟨[(0,.p (.sl (v0.map Zad.c))),(8,.p (.sl (v0.map Zad.c))),(9,.p (vi (v0.length:Int))),(10,.p (vi (i1:Int)))],[],0⟩) (us (hh:=trivial)) ?_ ?_
   ·rintro⟨⟩ hy Q hQ;(try dsimp only at hy ⊢);have hlt:decide (((v0.length:Int):Int)<(v0.length:Int))=false:=by simp
    refine Zaf fun K hK=>?_;(try simp only[go_sem,hlt]);refine kg hK ?_;refine Zah fun Q hQ=>?_;refine Zay rfl (fun hc=>?_) (fun hc=>?_)
    ·cases hc
    refine Zax ?_;(repeat (refine qg ?_;(try dsimp only);try simp only[E0]));exact⟨_,hy,(us (hh:=trivial))⟩
   ·rintro i1 x4 ⟨⟩ z21 hi hx hF hb21 hr21 Q hQ;(try dsimp only at hF ⊢);have hlt:decide ((i1:Int)<(v0.length:Int))=true:=by simp;omega
    have hw2:IntKind.i64.wrap ((i1:Int)+1)=((i1+1:Nat):Int):=by rw[wrap64 (by omega) (by omega)];simp
    refine Zaf fun K hK=>?_;(try simp only[go_sem,hlt]);refine kg hK ?_;refine Zah fun Q hQ=>?_;refine Zay rfl (fun hc=>?_) (fun hc=>?_)
    rotate_left;· cases hc
    refine Zan ?_;(repeat (refine qg ?_;(try dsimp only);try simp only[reduceCtorEq,E0]));refine Zah fun Q hQ=>?_;refine Zai fun Q hQ=>?_;refine Zaf fun K hK=>?_;(try simp only[go_sem,hx]);refine kg hK ?_;refine Zai fun Q hQ=>?_;obtain⟨y22,h23,hF⟩:=Zae hF;obtain⟨b26,h27,hF⟩:=Zae hF;refine Zbj ⟨[(0,.p (.sl (v0.map Zad.c))),(3,.p (vi (i1:Int))),(4,.bp 0 0),(8,.p (.sl (v0.map Zad.c))),(9,.p (vi (v0.length:Int))),(10,.p (vi (i1:Int))),(15,.p (vb b26))],[(0,.cells [.p (vs x4.Advisory.b),.p (vs x4.Component.b),.p (vi x4.Severity)])],1⟩ (fun K hK=>?_) ?_
    ·(try simp only[go_sem]);(try simp only[go_sem]);refine Zar (Zct h23) rfl (by simp only[go_sem]) (by simp only[go_sem]) ?_;(try dsimp only);(try simp only[go_sem]);(try simp only[go_sem]);refine Zap rfl ?_ ?_<;>intro hg28<;>(try simp only[hg28,go_sem])
     ·simp only[hg28,gbS] at h27;cases h27;(try simp only[go_sem,hg28]);refine kg hK ?_;exact us
     ·simp only[hg28,gbS] at h27;obtain⟨y29,h30,h27⟩:=Zae h27;(try simp only[go_sem,hg28]);refine Zar (Zct h30) rfl (by simp only[go_sem]) (by simp only[go_sem]) ?_;(try dsimp only);(try simp only[go_sem]);cases h27;(try simp only[go_sem,hg28]);refine kg hK ?_;exact us
    refine ci hF (fun hc hF=>?_) (fun hc hF=>?_)
    ·refine Zaf fun K hK=>?_;(try simp only[go_sem]);refine kg hK ?_;refine Zaw ?_;(repeat (refine qg ?_;(try dsimp only);try simp only[reduceCtorEq,E0]));cases hF;cases (hj21 _ (hr21 _ rfl));simp only[go_sem]
    ·refine Zbj ⟨[(0,.p (.sl (v0.map Zad.c))),(3,.p (vi (i1:Int))),(4,.bp 0 0),(8,.p (.sl (v0.map Zad.c))),(9,.p (vi (v0.length:Int))),(10,.p (vi (i1:Int))),(26,.p (vb ((decide (x4.Severity<0)) || (decide (x4.Severity>100)))))],[(0,.cells [.p (vs x4.Advisory.b),.p (vs x4.Component.b),.p (vi x4.Severity)])],1⟩ (fun K hK=>?_) ?_
     ·(try simp only[go_sem]);(try simp only[go_sem]);refine Zap rfl ?_ ?_<;>intro hg31<;>(try simp only[hg31,go_sem])
      ·(try simp only[go_sem,hg31]);refine kg hK ?_;exact (Upd.sub lb (by simp[go_sem,Zaq,Env.get,hg31]) (by simp[go_sem,Zao,Heap.get,Zat]))
      ·(try simp only[go_sem,hg31]);refine kg hK ?_;exact (Upd.sub lb (by simp[go_sem,Zaq,Env.get,hg31]) (by simp[go_sem,Zao,Heap.get,Zat]))
     refine ci hF (fun hc hF=>?_) (fun hc hF=>?_)
     ·refine Zaf fun K hK=>?_;(try simp only[go_sem]);refine kg hK ?_;refine Zaw ?_;(repeat (refine qg ?_;(try dsimp only);try simp only[reduceCtorEq,E0]));cases hF;cases (hj21 _ (hr21 _ rfl));simp only[go_sem]
     ·obtain⟨b40,h41,hF⟩:=Zae hF;refine Zc8 ⟨[(0,.p (.sl (v0.map Zad.c))),(8,.p (.sl (v0.map Zad.c))),(9,.p (vi (v0.length:Int))),(10,.p (vi (i1:Int))),(35,.p (vb b40))],[],1⟩ (fun K hK=>?_) ?_
      ·(try simp only[go_sem]);(try simp only[go_sem]);refine ZaI rfl ?_ ?_<;>intro hg42<;>(try simp only[hg42,go_sem])
       ·simp only[hg42,gbS] at h41;obtain⟨x43,h44,h41⟩:=Zae h41;replace h44:=Zas Zad.c h44;(try simp only[go_sem] at h44);obtain⟨y45,h46,h41⟩:=Zae h41;(try simp only[go_sem,h44]);refine⟨_,Zar (Zd0 h46) rfl (by simp only[go_sem]) (by simp only[go_sem]) ⟨rfl,rfl,rfl⟩,?_⟩;(try dsimp only);(try simp only[go_sem,h44,hg42]);obtain⟨y47,h48,h41⟩:=Zae h41;(try simp only[go_sem,h44,hg42]);refine⟨_,Zar (Zd0 h48) rfl (by simp only[go_sem]) (by simp only[go_sem]) ⟨rfl,rfl,rfl⟩,?_⟩;(try dsimp only);(try simp only[go_sem,h44,hg42]);obtain⟨y49,h50,h41⟩:=Zae h41;(try simp only[go_sem,h44,hg42]);refine⟨_,Zar (ZfD h50) rfl (by simp only[go_sem]) (by simp only[go_sem]) ⟨rfl,rfl,rfl⟩,?_⟩;(try dsimp only);(try simp only[go_sem]);cases h41;(try simp only[go_sem,h44,hg42]);refine kg hK ?_;exact (us (hh:=trivial))
       ·simp only[hg42,gbS] at h41;cases h41;(try simp only[go_sem,hg42]);refine kg hK ?_;exact (us (hh:=trivial))
      refine ci hF (fun hc hF=>?_) (fun hc hF=>?_)
      ·refine Zaf fun K hK=>?_;(try simp only[go_sem]);refine kg hK ?_;refine Zaw ?_;(repeat (refine qg ?_;(try dsimp only);try simp only[reduceCtorEq,E0]));cases hF;cases (hj21 _ (hr21 _ rfl));simp only[go_sem]
      ·refine Zan ?_;(repeat (refine qg ?_;(try dsimp only);try simp only[reduceCtorEq,E0]));refine Zaj ?_;(try simp only[go_sem,hw2]);(repeat (refine qg ?_;(try dsimp only);try simp only[reduceCtorEq,E0]));cases hF;exact⟨_,rfl,(us (hh:=trivial))⟩
  rintro⟨⟩ hF;(try dsimp only at hF ⊢);(repeat (refine qg ?_;(try dsimp only);try simp only[reduceCtorEq,E0]));refine Zaf fun K hK=>?_;(try simp only[go_sem]);refine kg hK ?_;refine Zaw ?_;(repeat (refine qg ?_;(try dsimp only);try simp only[reduceCtorEq,E0]));cases hF;simp only[go_sem]
theorem Zhx {r0} (hF:ZdH=some r0):APure Try.prog 23 [] (.p (vb r0)):=by
 cases hF;exact told23
end Go.Abs
