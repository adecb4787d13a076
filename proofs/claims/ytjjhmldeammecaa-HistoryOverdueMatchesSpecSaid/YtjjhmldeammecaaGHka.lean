/- The walks of these functions against the plain ones (printed by a program of this repo). -/
import Derived.Test.YtjjhmldeammecaaRHk
import Derived.Test.YtjjhmldeammecaaGHca
namespace Go.Abs
open Go Go.Proofs
set_option maxRecDepth 8000
theorem ZfV {v0:List Zac} {r0} (hF:ZcB v0=some r0):APure Try.prog 95 [.p (.sl (v0.map Zac.c))] (.p (vi r0)):=by
 refine apureZ 2 rc95_ok rfl ?_;simp only[rc95,ZaG,rk,ro,rm,rp,rn,rb,rg,rT,rF];unfold ZcB at hF;refine Zaf fun K hK=>?_;(try simp only[go_sem]);refine kg hK ?_;refine Zah fun Q hQ=>?_;refine Zaf fun K hK=>?_;(try simp only[go_sem]);refine kg hK ?_;refine Zaz hF (fun (_:Unit)=>⟨[],[],0⟩) ?_ ?_
 ·intro y13 hF hj13 Q hQ;refine Zai fun Q hQ=>?_;refine Zbb 0 rfl (fun _ _=>ZbU) fun hl3=>?_;simp only[List.length_map,top] at hl3;refine Zbe hF (fun i1 _=>⟨[(0,.p (.sl (v0.map Zac.c))),(5,.p (.sl (v0.map Zac.c))),(6,.p (vi (v0.length:Int))),(7,.p (vi (i1:Int)))],[],0⟩) (us (hh:=trivial)) ?_ ?_
  ·rintro⟨⟩ hy Q hQ;(try dsimp only at hy ⊢);have hlt:decide (((v0.length:Int):Int)<(v0.length:Int))=false:=by simp
   refine Zaf fun K hK=>?_;(try simp only[go_sem,hlt]);refine kg hK ?_;refine Zah fun Q hQ=>?_;refine Zay rfl (fun hc=>?_) (fun hc=>?_)
   ·cases hc
   refine Zax ?_;(repeat (refine qg ?_;(try dsimp only);try simp only[E0]));exact⟨_,hy,(us (hh:=trivial))⟩
  ·rintro i1 x4 ⟨⟩ z13 hi hx hF hb13 hr13 Q hQ;(try dsimp only at hF ⊢);have hlt:decide ((i1:Int)<(v0.length:Int))=true:=by simp;omega
   have hw2:IntKind.i64.wrap ((i1:Int)+1)=((i1+1:Nat):Int):=by rw[wrap64 (by omega) (by omega)];simp
   refine Zaf fun K hK=>?_;(try simp only[go_sem,hlt]);refine kg hK ?_;refine Zah fun Q hQ=>?_;refine Zay rfl (fun hc=>?_) (fun hc=>?_)
   rotate_left;· cases hc
   refine Zan ?_;(repeat (refine qg ?_;(try dsimp only);try simp only[reduceCtorEq,E0]));refine Zah fun Q hQ=>?_;refine Zai fun Q hQ=>?_;refine Zaf fun K hK=>?_;(try simp only[go_sem,hx]);refine kg hK ?_;refine Zai fun Q hQ=>?_;obtain⟨y14,h15,hF⟩:=Zae hF;refine Zaf fun K hK=>?_;(try simp only[go_sem]);refine Zar (ZcI h15) rfl (by simp only[go_sem]) (by simp only[go_sem]) ?_;(try dsimp only);(try simp only[go_sem]);refine kg hK ?_;refine ci hF (fun hc hF=>?_) (fun hc hF=>?_)
   ·refine Zaf fun K hK=>?_;(try simp only[go_sem]);refine kg hK ?_;refine Zaw ?_;(repeat (refine qg ?_;(try dsimp only);try simp only[reduceCtorEq,E0]));cases hF;cases (hj13 _ (hr13 _ rfl));simp only[go_sem]
   ·obtain⟨b18,h19,hF⟩:=Zae hF;refine Zc8 ⟨[(0,.p (.sl (v0.map Zac.c))),(4,.bp 0 0),(5,.p (.sl (v0.map Zac.c))),(6,.p (vi (v0.length:Int))),(7,.p (vi (i1:Int))),(17,.p (vb b18))],[(0,.cells [.p (vs x4.Advisory.b),.p (vi x4.Day),.p (vi x4.Ended)])],1⟩ (fun K hK=>?_) ?_
    ·(try simp only[go_sem]);(try simp only[go_sem]);refine ZaI rfl ?_ ?_<;>intro hg20<;>(try simp only[hg20,go_sem])
     ·simp only[hg20,gbS] at h19;obtain⟨x21,h22,h19⟩:=Zae h19;replace h22:=Zas Zac.c h22;(try simp only[go_sem] at h22);cases h19;(try simp only[go_sem,h22]);refine kg hK ?_;exact us
     ·simp only[hg20,gbS] at h19;cases h19;(try simp only[go_sem,hg20]);refine kg hK ?_;exact us
    refine ci hF (fun hc hF=>?_) (fun hc hF=>?_)
    ·refine Zaf fun K hK=>?_;(try simp only[go_sem]);refine kg hK ?_;refine Zaw ?_;(repeat (refine qg ?_;(try dsimp only);try simp only[reduceCtorEq,E0]));cases hF;cases (hj13 _ (hr13 _ rfl));simp only[go_sem]
    ·obtain⟨y23,h24,hF⟩:=Zae hF;refine Zbj ⟨[(0,.p (.sl (v0.map Zac.c))),(5,.p (.sl (v0.map Zac.c))),(6,.p (vi (v0.length:Int))),(7,.p (vi (i1:Int))),(31,.p (vb ((!y23) || ((x4.Ended != (-1)) && ((decide (x4.Ended<x4.Day)) || (decide (x4.Ended>1000000)))))))],[],1⟩ (fun K hK=>?_) ?_
     ·(try simp only[go_sem]);(try simp only[go_sem]);refine Zar (ZfF h24) rfl (by simp only[go_sem]) (by simp only[go_sem]) ?_;(try dsimp only);(try simp only[go_sem]);(try simp only[go_sem]);refine Zap rfl ?_ ?_<;>intro hg25<;>(try simp only[hg25,go_sem])
      ·(try simp only[go_sem,hg25]);refine kg hK ?_;exact (Upd.sub lb (by simp[go_sem,Zaq,Env.get,hg25]) trivial)
      ·(try simp only[go_sem,hg25]);refine Zap rfl ?_ ?_<;>intro hg26<;>(try simp only[hg26,go_sem])
       ·(try simp only[go_sem,hg25,hg26]);refine Zap rfl ?_ ?_<;>intro hg27<;>(try simp only[hg27,go_sem])
        ·(try simp only[go_sem,hg25,hg26,hg27]);refine kg hK ?_;exact (Upd.sub lb (by simp[go_sem,Zaq,Env.get,hg25,hg26,hg27]) trivial)
        ·(try simp only[go_sem,hg25,hg26,hg27]);refine kg hK ?_;exact (Upd.sub lb (by simp[go_sem,Zaq,Env.get,hg25,hg26,hg27]) trivial)
       ·(try simp only[go_sem,hg25,hg26]);refine kg hK ?_;exact (Upd.sub lb (by simp[go_sem,Zaq,Env.get,hg25,hg26]) trivial)
     refine ci hF (fun hc hF=>?_) (fun hc hF=>?_)
     ·refine Zaf fun K hK=>?_;(try simp only[go_sem]);refine kg hK ?_;refine Zaw ?_;(repeat (refine qg ?_;(try dsimp only);try simp only[reduceCtorEq,E0]));cases hF;cases (hj13 _ (hr13 _ rfl));simp only[go_sem]
     ·refine Zan ?_;(repeat (refine qg ?_;(try dsimp only);try simp only[reduceCtorEq,E0]));refine Zaj ?_;(try simp only[go_sem,hw2]);(repeat (refine qg ?_;(try dsimp only);try simp only[reduceCtorEq,E0]));cases hF;exact⟨_,rfl,(us (hh:=trivial))⟩
 rintro⟨⟩ hF;(try dsimp only at hF ⊢);(repeat (refine qg ?_;(try dsimp only);try simp only[reduceCtorEq,E0]));refine Zaf fun K hK=>?_;(try simp only[go_sem]);refine kg hK ?_;refine Zaw ?_;(repeat (refine qg ?_;(try dsimp only);try simp only[reduceCtorEq,E0]));cases hF;simp only[go_sem]
theorem ref11_Check_ok {v0:Zam} {r0} (hF:ZbS v0=some r0):APure Try.prog 35 [.p (.agg [vs v0.Product.b,.sl (v0.Releases.map Zag.c),.sl (v0.Known.map Zac.c),vi v0.Until])] (.p (vi r0)):=by
 refine apureZ 2 rc35_ok rfl ?_;simp only[rc35,ZaG,rk,ro,rm,rp,rn,rb,rg,rT,rF];unfold ZbS at hF;refine Zaf fun K hK=>?_;(try simp only[go_sem]);refine kg hK ?_;refine Zah fun Q hQ=>?_;refine Zai fun Q hQ=>?_;obtain⟨y1,h2,hF⟩:=Zae hF;refine Zaf fun K hK=>?_;(try simp only[go_sem]);refine Zar (ZcI h2) rfl (by simp only[go_sem]) (by simp only[go_sem]) ?_;(try dsimp only);(try simp only[go_sem]);refine kg hK ?_;refine ci hF (fun hc hF=>?_) (fun hc hF=>?_)
 ·refine Zaf fun K hK=>?_;(try simp only[go_sem]);refine kg hK ?_;refine Zaw ?_;(repeat (refine qg ?_;(try dsimp only);try simp only[reduceCtorEq,E0]));cases hF;simp only[go_sem]
 ·obtain⟨y3,h4,hF⟩:=Zae hF;refine Zaf fun K hK=>?_;(try simp only[go_sem]);refine Zar (ZfF h4) rfl (by simp only[go_sem]) (by simp only[go_sem]) ?_;(try dsimp only);(try simp only[go_sem]);refine kg hK ?_;refine ci hF (fun hc hF=>?_) (fun hc hF=>?_)
  ·refine Zaf fun K hK=>?_;(try simp only[go_sem]);refine kg hK ?_;refine Zaw ?_;(repeat (refine qg ?_;(try dsimp only);try simp only[reduceCtorEq,E0]));cases hF;simp only[go_sem]
  ·refine Zbj ⟨[(1,.bp 0 0),(25,.p (vb ((decide ((v0.Releases.length:Int)>500)) || (decide ((v0.Known.length:Int)>2000)))))],[(0,.cells [.p (vs v0.Product.b),.p (.sl (v0.Releases.map Zag.c)),.p (.sl (v0.Known.map Zac.c)),.p (vi v0.Until)])],1⟩ (fun K hK=>?_) ?_
   ·(try simp only[go_sem]);(try simp only[go_sem]);refine Zap rfl ?_ ?_<;>intro hg5<;>(try simp only[hg5,go_sem])
    ·(try simp only[go_sem,hg5]);refine kg hK ?_;exact (Upd.sub lb (by simp[go_sem,Zaq,Env.get,hg5]) (by simp[go_sem,Zao,Heap.get,Zat]))
    ·(try simp only[go_sem,hg5]);refine kg hK ?_;exact (Upd.sub lb (by simp[go_sem,Zaq,Env.get,hg5]) (by simp[go_sem,Zao,Heap.get,Zat]))
   refine ci hF (fun hc hF=>?_) (fun hc hF=>?_)
   ·refine Zaf fun K hK=>?_;(try simp only[go_sem]);refine kg hK ?_;refine Zaw ?_;(repeat (refine qg ?_;(try dsimp only);try simp only[reduceCtorEq,E0]));cases hF;simp only[go_sem]
   ·refine Zan ?_;(repeat (refine qg ?_;(try dsimp only);try simp only[reduceCtorEq,E0]));refine Zaf fun K hK=>?_;(try simp only[go_sem]);refine kg hK ?_;refine Zah fun Q hQ=>?_;refine Zaf fun K hK=>?_;(try simp only[go_sem]);refine kg hK ?_;refine Zaz hF (fun (_:Unit)=>⟨[(1,.bp 0 0)],[(0,.cells [.p (vs v0.Product.b),.p (.sl (v0.Releases.map Zag.c)),.p (.sl (v0.Known.map Zac.c)),.p (vi v0.Until)])],2⟩) ?_ ?_
    ·intro y27 hF hj27 Q hQ;refine Zai fun Q hQ=>?_;refine Zbb 38 rfl (fun _ _=>ZbU) fun hl8=>?_;simp only[List.length_map,top] at hl8;refine Zbe hF (fun i6 m18=>⟨[(1,.bp 0 0),(3,.mp 1),(38,.p (.sl (v0.Releases.map Zag.c))),(39,.p (vi (v0.Releases.length:Int))),(40,.p (vi (i6:Int)))],[(1,.map (m18.map (cM kS pB))),(0,.cells [.p (vs v0.Product.b),.p (.sl (v0.Releases.map Zag.c)),.p (.sl (v0.Known.map Zac.c)),.p (vi v0.Until)])],2⟩) us ?_ ?_
     ·rintro m18 hy Q hQ;(try dsimp only at hy ⊢);have hlt:decide (((v0.Releases.length:Int):Int)<(v0.Releases.length:Int))=false:=by simp
      refine Zaf fun K hK=>?_;(try simp only[go_sem,hlt]);refine kg hK ?_;refine Zah fun Q hQ=>?_;refine Zay rfl (fun hc=>?_) (fun hc=>?_)
      ·cases hc
      refine Zax ?_;(repeat (refine qg ?_;(try dsimp only);try simp only[E0]));exact⟨_,hy,us⟩
     ·rintro i6 x9 m18 z27 hi hx hF hb27 hr27 Q hQ;(try dsimp only at hF ⊢);have hlt:decide ((i6:Int)<(v0.Releases.length:Int))=true:=by simp;omega
      have hw7:IntKind.i64.wrap ((i6:Int)+1)=((i6+1:Nat):Int):=by rw[wrap64 (by omega) (by omega)];simp
      refine Zaf fun K hK=>?_;(try simp only[go_sem,hlt]);refine kg hK ?_;refine Zah fun Q hQ=>?_;refine Zay rfl (fun hc=>?_) (fun hc=>?_)
      rotate_left;· cases hc
      refine Zan ?_;(repeat (refine qg ?_;(try dsimp only);try simp only[reduceCtorEq,E0]));refine Zah fun Q hQ=>?_;refine Zai fun Q hQ=>?_;refine Zaf fun K hK=>?_;(try simp only[go_sem,hx]);refine kg hK ?_;refine Zah fun Q hQ=>?_;refine Zai fun Q hQ=>?_;obtain⟨y28,h29,hF⟩:=Zae hF;refine Zaf fun K hK=>?_;(try simp only[go_sem]);refine Zar (ZcI h29) rfl (by simp only[go_sem]) (by simp only[go_sem]) ?_;(try dsimp only);(try simp only[go_sem]);refine kg hK ?_;refine ci hF (fun hc hF=>?_) (fun hc hF=>?_)
      ·refine Zaf fun K hK=>?_;(try simp only[go_sem]);refine kg hK ?_;refine Zaw ?_;(repeat (refine qg ?_;(try dsimp only);try simp only[reduceCtorEq,E0]));cases hF;cases (hj27 _ (hr27 _ rfl));simp only[go_sem]
      ·refine Zaf fun K hK=>?_;(try simp only[go_sem]);refine kg hK ?_;refine ci hF (fun hc hF=>?_) (fun hc hF=>?_)
       ·refine Zaf fun K hK=>?_;(try simp only[go_sem]);refine kg hK ?_;refine Zaw ?_;(repeat (refine qg ?_;(try dsimp only);try simp only[reduceCtorEq,E0]));cases hF;cases (hj27 _ (hr27 _ rfl));simp only[go_sem]
       ·refine Zbj ⟨[(1,.bp 0 0),(3,.mp 1),(4,.p (vi (i6:Int))),(5,.bp 2 0),(38,.p (.sl (v0.Releases.map Zag.c))),(39,.p (vi (v0.Releases.length:Int))),(40,.p (vi (i6:Int))),(55,.p (vb ((decide (x9.Day<0)) || (decide (x9.Day>v0.Until)))))],[(2,.cells [.p (vs x9.Version.b),.p (vi x9.Day),.p (.sl (x9.Exposures.map Zad.c))]),(1,.map (m18.map (cM kS pB))),(0,.cells [.p (vs v0.Product.b),.p (.sl (v0.Releases.map Zag.c)),.p (.sl (v0.Known.map Zac.c)),.p (vi v0.Until)])],3⟩ (fun K hK=>?_) ?_
        ·(try simp only[go_sem]);(try simp only[go_sem]);refine Zap rfl ?_ ?_<;>intro hg30<;>(try simp only[hg30,go_sem])
         ·(try simp only[go_sem,hg30]);refine kg hK ?_;exact (Upd.sub lb (by simp[go_sem,Zaq,Env.get,hg30]) (by simp[go_sem,Zao,Heap.get,Zat]))
         ·(try simp only[go_sem,hg30]);refine kg hK ?_;exact (Upd.sub lb (by simp[go_sem,Zaq,Env.get,hg30]) (by simp[go_sem,Zao,Heap.get,Zat]))
        refine ci hF (fun hc hF=>?_) (fun hc hF=>?_)
        ·refine Zaf fun K hK=>?_;(try simp only[go_sem]);refine kg hK ?_;refine Zaw ?_;(repeat (refine qg ?_;(try dsimp only);try simp only[reduceCtorEq,E0]));cases hF;cases (hj27 _ (hr27 _ rfl));simp only[go_sem]
        ·obtain⟨b33,h34,hF⟩:=Zae hF;refine Zc8 ⟨[(1,.bp 0 0),(3,.mp 1),(5,.bp 2 0),(38,.p (.sl (v0.Releases.map Zag.c))),(39,.p (vi (v0.Releases.length:Int))),(40,.p (vi (i6:Int))),(66,.p (vb b33))],[(2,.cells [.p (vs x9.Version.b),.p (vi x9.Day),.p (.sl (x9.Exposures.map Zad.c))]),(1,.map (m18.map (cM kS pB))),(0,.cells [.p (vs v0.Product.b),.p (.sl (v0.Releases.map Zag.c)),.p (.sl (v0.Known.map Zac.c)),.p (vi v0.Until)])],3⟩ (fun K hK=>?_) ?_
         ·(try simp only[go_sem]);(try simp only[go_sem]);refine ZaI rfl ?_ ?_<;>intro hg35<;>(try simp only[hg35,go_sem])
          ·simp only[hg35,gbS] at h34;obtain⟨x36,h37,h34⟩:=Zae h34;replace h37:=Zas Zag.c h37;(try simp only[go_sem] at h37);cases h34;(try simp only[go_sem,h37]);refine kg hK ?_;exact us
          ·simp only[hg35,gbS] at h34;cases h34;(try simp only[go_sem,hg35]);refine kg hK ?_;exact us
         refine ci hF (fun hc hF=>?_) (fun hc hF=>?_)
         ·refine Zaf fun K hK=>?_;(try simp only[go_sem]);refine kg hK ?_;refine Zaw ?_;(repeat (refine qg ?_;(try dsimp only);try simp only[reduceCtorEq,E0]));cases hF;cases (hj27 _ (hr27 _ rfl));simp only[go_sem]
         ·refine Zan ?_;(repeat (refine qg ?_;(try dsimp only);try simp only[reduceCtorEq,E0]));refine Zaf fun K hK=>?_;(try simp only[go_sem]);refine kg hK ?_;obtain⟨y38,h39,hF⟩:=Zae hF;refine Zaf fun K hK=>?_;(try simp only[go_sem]);refine Zar (ZeV h39) rfl (by simp only[go_sem]) (by simp only[go_sem]) ?_;(try dsimp only);(try simp only[go_sem]);refine kg hK ?_;refine Zaf fun K hK=>?_;(try simp only[go_sem]);refine kg hK ?_;refine ci hF (fun hc hF=>?_) (fun hc hF=>?_)
          ·refine Zaf fun K hK=>?_;(try simp only[go_sem]);refine kg hK ?_;refine Zaw ?_;(repeat (refine qg ?_;(try dsimp only);try simp only[reduceCtorEq,E0]));cases hF;cases (hj27 _ (hr27 _ rfl));simp only[go_sem]
          ·refine Zan ?_;(repeat (refine qg ?_;(try dsimp only);try simp only[reduceCtorEq,E0]));refine Zaj ?_;(try simp only[go_sem,hw7]);(repeat (refine qg ?_;(try dsimp only);try simp only[reduceCtorEq,E0]));cases hF;exact⟨_,rfl,us⟩
    rintro⟨⟩ hF;(try dsimp only at hF ⊢);(repeat (refine qg ?_;(try dsimp only);try simp only[reduceCtorEq,E0]));refine Zah fun Q hQ=>?_;obtain⟨y40,h41,hF⟩:=Zae hF;refine Zaf fun K hK=>?_;(try simp only[go_sem]);refine Zar (ZfV h41) rfl (by simp only[go_sem]) (by simp only[go_sem]) ?_;(try dsimp only);(try simp only[go_sem]);refine kg hK ?_;refine Zaf fun K hK=>?_;(try simp only[go_sem]);refine kg hK ?_;refine ci hF (fun hc hF=>?_) (fun hc hF=>?_)
    ·refine Zaf fun K hK=>?_;(try simp only[go_sem]);refine kg hK ?_;refine Zaw ?_;(repeat (refine qg ?_;(try dsimp only);try simp only[reduceCtorEq,E0]));cases hF;simp only[go_sem]
    ·refine Zan ?_;(repeat (refine qg ?_;(try dsimp only);try simp only[reduceCtorEq,E0]));refine Zaf fun K hK=>?_;(try simp only[go_sem]);refine kg hK ?_;refine Zah fun Q hQ=>?_;refine Zaf fun K hK=>?_;(try simp only[go_sem]);refine kg hK ?_;refine Zaz hF (fun (m47:(List (Str × Bool)))=>⟨[(1,.bp 0 0),(8,.mp 2)],[(2,.map (m47.map (cM kS pB))),(0,.cells [.p (vs v0.Product.b),.p (.sl (v0.Releases.map Zag.c)),.p (.sl (v0.Known.map Zac.c)),.p (vi v0.Until)])],3⟩) ?_ ?_
     ·intro y48 hF hj48 Q hQ;refine Zai fun Q hQ=>?_;refine Zbb 99 rfl (fun _ _=>ZbU) fun hl44=>?_;simp only[List.length_map,top] at hl44;refine Zbe hF (fun i42 m46=>⟨[(1,.bp 0 0),(8,.mp 2),(99,.p (.sl (v0.Known.map Zac.c))),(100,.p (vi (v0.Known.length:Int))),(101,.p (vi (i42:Int)))],[(2,.map (m46.map (cM kS pB))),(0,.cells [.p (vs v0.Product.b),.p (.sl (v0.Releases.map Zag.c)),.p (.sl (v0.Known.map Zac.c)),.p (vi v0.Until)])],3⟩) us ?_ ?_
      ·rintro m46 hy Q hQ;(try dsimp only at hy ⊢);have hlt:decide (((v0.Known.length:Int):Int)<(v0.Known.length:Int))=false:=by simp
       refine Zaf fun K hK=>?_;(try simp only[go_sem,hlt]);refine kg hK ?_;refine Zah fun Q hQ=>?_;refine Zay rfl (fun hc=>?_) (fun hc=>?_)
       ·cases hc
       refine Zax ?_;(repeat (refine qg ?_;(try dsimp only);try simp only[E0]));exact⟨_,hy,us⟩
      ·rintro i42 x45 m46 z48 hi hx hF hb48 hr48 Q hQ;(try dsimp only at hF ⊢);have hlt:decide ((i42:Int)<(v0.Known.length:Int))=true:=by simp;omega
       have hw43:IntKind.i64.wrap ((i42:Int)+1)=((i42+1:Nat):Int):=by rw[wrap64 (by omega) (by omega)];simp
       refine Zaf fun K hK=>?_;(try simp only[go_sem,hlt]);refine kg hK ?_;refine Zah fun Q hQ=>?_;refine Zay rfl (fun hc=>?_) (fun hc=>?_)
       rotate_left;· cases hc
       refine Zan ?_;(repeat (refine qg ?_;(try dsimp only);try simp only[reduceCtorEq,E0]));refine Zah fun Q hQ=>?_;refine Zai fun Q hQ=>?_;refine Zaf fun K hK=>?_;(try simp only[go_sem,hx]);refine kg hK ?_;refine Zaj ?_;(try simp only[go_sem]);(repeat (refine qg ?_;(try dsimp only);try simp only[reduceCtorEq,E0]));refine Zaj ?_;(try simp only[go_sem,hw43]);(repeat (refine qg ?_;(try dsimp only);try simp only[reduceCtorEq,E0]));cases hF;exact⟨_,rfl,us⟩
     rintro m47 hF;(try dsimp only at hF ⊢);(repeat (refine qg ?_;(try dsimp only);try simp only[reduceCtorEq,E0]));refine Zah fun Q hQ=>?_;refine Zaf fun K hK=>?_;(try simp only[go_sem]);refine kg hK ?_;refine Zaz hF (fun (_:Unit)=>⟨[],[],3⟩) ?_ ?_
     ·intro y58 hF hj58 Q hQ;refine Zai fun Q hQ=>?_;refine Zbb 110 rfl (fun _ _=>ZbU) fun hl51=>?_;simp only[List.length_map,top] at hl51;refine Zbe hF (fun i49 _=>⟨[(8,.mp 2),(110,.p (.sl (v0.Releases.map Zag.c))),(111,.p (vi (v0.Releases.length:Int))),(112,.p (vi (i49:Int)))],[(2,.map (m47.map (cM kS pB)))],3⟩) us ?_ ?_
      ·rintro⟨⟩ hy Q hQ;(try dsimp only at hy ⊢);have hlt:decide (((v0.Releases.length:Int):Int)<(v0.Releases.length:Int))=false:=by simp
       refine Zaf fun K hK=>?_;(try simp only[go_sem,hlt]);refine kg hK ?_;refine Zah fun Q hQ=>?_;refine Zay rfl (fun hc=>?_) (fun hc=>?_)
       ·cases hc
       refine Zax ?_;(repeat (refine qg ?_;(try dsimp only);try simp only[E0]));exact⟨_,hy,(us (hh:=trivial))⟩
      ·rintro i49 x52 ⟨⟩ z58 hi hx hF hb58 hr58 Q hQ;(try dsimp only at hF ⊢);have hlt:decide ((i49:Int)<(v0.Releases.length:Int))=true:=by simp;omega
       have hw50:IntKind.i64.wrap ((i49:Int)+1)=((i49+1:Nat):Int):=by rw[wrap64 (by omega) (by omega)];simp
       refine Zaf fun K hK=>?_;(try simp only[go_sem,hlt]);refine kg hK ?_;refine Zah fun Q hQ=>?_;refine Zay rfl (fun hc=>?_) (fun hc=>?_)
       rotate_left;· cases hc
       refine Zan ?_;(repeat (refine qg ?_;(try dsimp only);try simp only[reduceCtorEq,E0]));refine Zah fun Q hQ=>?_;refine Zai fun Q hQ=>?_;refine Zaf fun K hK=>?_;(try simp only[go_sem,hx]);refine kg hK ?_;refine Zaf fun K hK=>?_;(try simp only[go_sem]);refine kg hK ?_;refine Zaz hF (fun (_:Unit)=>⟨[(8,.mp 2),(110,.p (.sl (v0.Releases.map Zag.c))),(111,.p (vi (v0.Releases.length:Int))),(112,.p (vi (i49:Int)))],[(2,.map (m47.map (cM kS pB)))],4⟩) ?_ ?_
       ·intro y63 hF hj63 Q hQ;refine Zai fun Q hQ=>?_;refine Zbb 117 rfl (fun _ _=>ZbU) fun hl61=>?_;simp only[List.length_map,top] at hl61;refine Zbe hF (fun i59 _=>⟨[(8,.mp 2),(110,.p (.sl (v0.Releases.map Zag.c))),(111,.p (vi (v0.Releases.length:Int))),(112,.p (vi (i49:Int))),(117,.p (.sl (x52.Exposures.map Zad.c))),(118,.p (vi (x52.Exposures.length:Int))),(119,.p (vi (i59:Int)))],[(2,.map (m47.map (cM kS pB)))],4⟩) us ?_ ?_
        ·rintro⟨⟩ hy Q hQ;(try dsimp only at hy ⊢);have hlt:decide (((x52.Exposures.length:Int):Int)<(x52.Exposures.length:Int))=false:=by simp
         refine Zaf fun K hK=>?_;(try simp only[go_sem,hlt]);refine kg hK ?_;refine Zah fun Q hQ=>?_;refine Zay rfl (fun hc=>?_) (fun hc=>?_)
         ·cases hc
         refine Zax ?_;(repeat (refine qg ?_;(try dsimp only);try simp only[E0]));exact⟨_,hy,us⟩
        ·rintro i59 x62 ⟨⟩ z63 hi hx hF hb63 hr63 Q hQ;(try dsimp only at hF ⊢);have hlt:decide ((i59:Int)<(x52.Exposures.length:Int))=true:=by simp;omega
         have hw60:IntKind.i64.wrap ((i59:Int)+1)=((i59+1:Nat):Int):=by rw[wrap64 (by omega) (by omega)];simp
         refine Zaf fun K hK=>?_;(try simp only[go_sem,hlt]);refine kg hK ?_;refine Zah fun Q hQ=>?_;refine Zay rfl (fun hc=>?_) (fun hc=>?_)
         rotate_left;· cases hc
         refine Zan ?_;(repeat (refine qg ?_;(try dsimp only);try simp only[reduceCtorEq,E0]));refine Zah fun Q hQ=>?_;refine Zai fun Q hQ=>?_;refine Zaf fun K hK=>?_;(try simp only[go_sem,hx]);refine kg hK ?_;refine Zaf fun K hK=>?_;(try simp only[go_sem]);refine kg hK ?_;refine ci hF (fun hc hF=>?_) (fun hc hF=>?_)
         ·refine Zaf fun K hK=>?_;(try simp only[go_sem]);refine kg hK ?_;refine Zaw ?_;(repeat (refine qg ?_;(try dsimp only);try simp only[reduceCtorEq,E0]));cases hF;cases (hj63 _ (hr63 _ rfl));cases (hj58 _ (hr58 _ rfl));simp only[go_sem]
         ·refine Zan ?_;(repeat (refine qg ?_;(try dsimp only);try simp only[reduceCtorEq,E0]));refine Zaj ?_;(try simp only[go_sem,hw60]);(repeat (refine qg ?_;(try dsimp only);try simp only[reduceCtorEq,E0]));cases hF;exact⟨_,rfl,us⟩
       rintro⟨⟩ hF;(try dsimp only at hF ⊢);(repeat (refine qg ?_;(try dsimp only);try simp only[reduceCtorEq,E0]));refine Zaj ?_;(try simp only[go_sem,hw50]);(repeat (refine qg ?_;(try dsimp only);try simp only[reduceCtorEq,E0]));cases hF;exact⟨_,rfl,us⟩
     rintro⟨⟩ hF;(try dsimp only at hF ⊢);(repeat (refine qg ?_;(try dsimp only);try simp only[reduceCtorEq,E0]));refine Zaf fun K hK=>?_;(try simp only[go_sem]);refine kg hK ?_;refine Zaw ?_;(repeat (refine qg ?_;(try dsimp only);try simp only[reduceCtorEq,E0]));cases hF;simp only[go_sem]
theorem ZeJ {v0:Zam} {r0} (hF:ZbY v0=some r0):APure Try.prog 97 [.p (.agg [vs v0.Product.b,.sl (v0.Releases.map Zag.c),.sl (v0.Known.map Zac.c),vi v0.Until])] (.p (vi r0)):=by
 refine apureZ 2 rc97_ok rfl ?_;simp only[rc97,ZaG,rk,ro,rm,rp,rn,rb,rg,rT,rF];unfold ZbY at hF;refine Zaf fun K hK=>?_;(try simp only[go_sem]);refine kg hK ?_;refine Zaf fun K hK=>?_;(try simp only[go_sem]);refine kg hK ?_;refine Zah fun Q hQ=>?_;refine Zaf fun K hK=>?_;(try simp only[go_sem]);refine kg hK ?_;refine Zaz hF (fun (_:Unit)=>⟨[],[],2⟩) ?_ ?_
 ·intro y22 hF hj22 Q hQ;refine Zai fun Q hQ=>?_;refine Zbb 9 rfl (fun _ _=>ZbU) fun hl3=>?_;simp only[List.length_map,top] at hl3;refine Zbe hF (fun i1 m13=>⟨[(1,.bp 0 0),(3,.mp 1),(9,.p (.sl (v0.Releases.map Zag.c))),(10,.p (vi (v0.Releases.length:Int))),(11,.p (vi (i1:Int)))],[(1,.map (m13.map (cM kS pB))),(0,.cells [.p (vs v0.Product.b),.p (.sl (v0.Releases.map Zag.c)),.p (.sl (v0.Known.map Zac.c)),.p (vi v0.Until)])],2⟩) us ?_ ?_
  ·rintro m13 hy Q hQ;(try dsimp only at hy ⊢);have hlt:decide (((v0.Releases.length:Int):Int)<(v0.Releases.length:Int))=false:=by simp
   refine Zaf fun K hK=>?_;(try simp only[go_sem,hlt]);refine kg hK ?_;refine Zah fun Q hQ=>?_;refine Zay rfl (fun hc=>?_) (fun hc=>?_)
   ·cases hc
   refine Zax ?_;(repeat (refine qg ?_;(try dsimp only);try simp only[E0]));exact⟨_,hy,(us (hh:=trivial))⟩
  ·rintro i1 x4 m13 z22 hi hx hF hb22 hr22 Q hQ;(try dsimp only at hF ⊢);have hlt:decide ((i1:Int)<(v0.Releases.length:Int))=true:=by simp;omega
   have hw2:IntKind.i64.wrap ((i1:Int)+1)=((i1+1:Nat):Int):=by rw[wrap64 (by omega) (by omega)];simp
   refine Zaf fun K hK=>?_;(try simp only[go_sem,hlt]);refine kg hK ?_;refine Zah fun Q hQ=>?_;refine Zay rfl (fun hc=>?_) (fun hc=>?_)
   rotate_left;· cases hc
   refine Zan ?_;(repeat (refine qg ?_;(try dsimp only);try simp only[reduceCtorEq,E0]));refine Zah fun Q hQ=>?_;refine Zai fun Q hQ=>?_;refine Zaf fun K hK=>?_;(try simp only[go_sem,hx]);refine kg hK ?_;refine Zah fun Q hQ=>?_;refine Zai fun Q hQ=>?_;obtain⟨y23,h24,hF⟩:=Zae hF;refine Zaf fun K hK=>?_;(try simp only[go_sem]);refine Zar (Zct h24) rfl (by simp only[go_sem]) (by simp only[go_sem]) ?_;(try dsimp only);(try simp only[go_sem]);refine kg hK ?_;refine ci hF (fun hc hF=>?_) (fun hc hF=>?_)
   ·refine Zaf fun K hK=>?_;(try simp only[go_sem]);refine kg hK ?_;refine Zaw ?_;(repeat (refine qg ?_;(try dsimp only);try simp only[reduceCtorEq,E0]));cases hF;cases (hj22 _ (hr22 _ rfl));simp only[go_sem]
   ·refine Zaf fun K hK=>?_;(try simp only[go_sem]);refine kg hK ?_;refine ci hF (fun hc hF=>?_) (fun hc hF=>?_)
    ·refine Zaf fun K hK=>?_;(try simp only[go_sem]);refine kg hK ?_;refine Zaw ?_;(repeat (refine qg ?_;(try dsimp only);try simp only[reduceCtorEq,E0]));cases hF;cases (hj22 _ (hr22 _ rfl));simp only[go_sem]
    ·refine Zbj ⟨[(1,.bp 0 0),(3,.mp 1),(4,.p (vi (i1:Int))),(5,.bp 2 0),(9,.p (.sl (v0.Releases.map Zag.c))),(10,.p (vi (v0.Releases.length:Int))),(11,.p (vi (i1:Int))),(26,.p (vb ((decide (x4.Day<0)) || (decide (x4.Day>v0.Until)))))],[(2,.cells [.p (vs x4.Version.b),.p (vi x4.Day),.p (.sl (x4.Exposures.map Zad.c))]),(1,.map (m13.map (cM kS pB))),(0,.cells [.p (vs v0.Product.b),.p (.sl (v0.Releases.map Zag.c)),.p (.sl (v0.Known.map Zac.c)),.p (vi v0.Until)])],3⟩ (fun K hK=>?_) ?_
     ·(try simp only[go_sem]);(try simp only[go_sem]);refine Zap rfl ?_ ?_<;>intro hg25<;>(try simp only[hg25,go_sem])
      ·(try simp only[go_sem,hg25]);refine kg hK ?_;exact (Upd.sub lb (by simp[go_sem,Zaq,Env.get,hg25]) (by simp[go_sem,Zao,Heap.get,Zat]))
      ·(try simp only[go_sem,hg25]);refine kg hK ?_;exact (Upd.sub lb (by simp[go_sem,Zaq,Env.get,hg25]) (by simp[go_sem,Zao,Heap.get,Zat]))
     refine ci hF (fun hc hF=>?_) (fun hc hF=>?_)
     ·refine Zaf fun K hK=>?_;(try simp only[go_sem]);refine kg hK ?_;refine Zaw ?_;(repeat (refine qg ?_;(try dsimp only);try simp only[reduceCtorEq,E0]));cases hF;cases (hj22 _ (hr22 _ rfl));simp only[go_sem]
     ·obtain⟨b28,h29,hF⟩:=Zae hF;refine Zc8 ⟨[(1,.bp 0 0),(3,.mp 1),(5,.bp 2 0),(9,.p (.sl (v0.Releases.map Zag.c))),(10,.p (vi (v0.Releases.length:Int))),(11,.p (vi (i1:Int))),(37,.p (vb b28))],[(2,.cells [.p (vs x4.Version.b),.p (vi x4.Day),.p (.sl (x4.Exposures.map Zad.c))]),(1,.map (m13.map (cM kS pB))),(0,.cells [.p (vs v0.Product.b),.p (.sl (v0.Releases.map Zag.c)),.p (.sl (v0.Known.map Zac.c)),.p (vi v0.Until)])],3⟩ (fun K hK=>?_) ?_
      ·(try simp only[go_sem]);(try simp only[go_sem]);refine ZaI rfl ?_ ?_<;>intro hg30<;>(try simp only[hg30,go_sem])
       ·simp only[hg30,gbS] at h29;obtain⟨x31,h32,h29⟩:=Zae h29;replace h32:=Zas Zag.c h32;(try simp only[go_sem] at h32);cases h29;(try simp only[go_sem,h32]);refine kg hK ?_;exact us
       ·simp only[hg30,gbS] at h29;cases h29;(try simp only[go_sem,hg30]);refine kg hK ?_;exact us
      refine ci hF (fun hc hF=>?_) (fun hc hF=>?_)
      ·refine Zaf fun K hK=>?_;(try simp only[go_sem]);refine kg hK ?_;refine Zaw ?_;(repeat (refine qg ?_;(try dsimp only);try simp only[reduceCtorEq,E0]));cases hF;cases (hj22 _ (hr22 _ rfl));simp only[go_sem]
      ·refine Zan ?_;(repeat (refine qg ?_;(try dsimp only);try simp only[reduceCtorEq,E0]));refine Zaf fun K hK=>?_;(try simp only[go_sem]);refine kg hK ?_;obtain⟨y33,h34,hF⟩:=Zae hF;refine Zaf fun K hK=>?_;(try simp only[go_sem]);refine Zar (ZeF h34) rfl (by simp only[go_sem]) (by simp only[go_sem]) ?_;(try dsimp only);(try simp only[go_sem]);refine kg hK ?_;refine Zaf fun K hK=>?_;(try simp only[go_sem]);refine kg hK ?_;refine ci hF (fun hc hF=>?_) (fun hc hF=>?_)
       ·refine Zaf fun K hK=>?_;(try simp only[go_sem]);refine kg hK ?_;refine Zaw ?_;(repeat (refine qg ?_;(try dsimp only);try simp only[reduceCtorEq,E0]));cases hF;cases (hj22 _ (hr22 _ rfl));simp only[go_sem]
       ·refine Zan ?_;(repeat (refine qg ?_;(try dsimp only);try simp only[reduceCtorEq,E0]));refine Zaj ?_;(try simp only[go_sem,hw2]);(repeat (refine qg ?_;(try dsimp only);try simp only[reduceCtorEq,E0]));cases hF;exact⟨_,rfl,us⟩
 rintro⟨⟩ hF;(try dsimp only at hF ⊢);(repeat (refine qg ?_;(try dsimp only);try simp only[reduceCtorEq,E0]));refine Zaf fun K hK=>?_;(try simp only[go_sem]);refine kg hK ?_;refine Zaw ?_;(repeat (refine qg ?_;(try dsimp only);try simp only[reduceCtorEq,E0]));cases hF;simp only[go_sem]
theorem Zfc {v0:Zam} {r0} (hF:ZbW v0=some r0):APure Try.prog 36 [.p (.agg [vs v0.Product.b,.sl (v0.Releases.map Zag.c),.sl (v0.Known.map Zac.c),vi v0.Until])] (.p (vi r0)):=by
 refine apureZ 2 rc36_ok rfl ?_;simp only[rc36,ZaG,rk,ro,rm,rp,rn,rb,rg,rT,rF];unfold ZbW at hF;refine Zaf fun K hK=>?_;(try simp only[go_sem]);refine kg hK ?_;refine Zah fun Q hQ=>?_;refine Zai fun Q hQ=>?_;obtain⟨y1,h2,hF⟩:=Zae hF;refine Zaf fun K hK=>?_;(try simp only[go_sem]);refine Zar (Zct h2) rfl (by simp only[go_sem]) (by simp only[go_sem]) ?_;(try dsimp only);(try simp only[go_sem]);refine kg hK ?_;refine ci hF (fun hc hF=>?_) (fun hc hF=>?_)
 ·refine Zaf fun K hK=>?_;(try simp only[go_sem]);refine kg hK ?_;refine Zaw ?_;(repeat (refine qg ?_;(try dsimp only);try simp only[reduceCtorEq,E0]));cases hF;simp only[go_sem]
 ·obtain⟨y3,h4,hF⟩:=Zae hF;refine Zaf fun K hK=>?_;(try simp only[go_sem]);refine Zar (Zfa h4) rfl (by simp only[go_sem]) (by simp only[go_sem]) ?_;(try dsimp only);(try simp only[go_sem]);refine kg hK ?_;refine ci hF (fun hc hF=>?_) (fun hc hF=>?_)
  ·refine Zaf fun K hK=>?_;(try simp only[go_sem]);refine kg hK ?_;refine Zaw ?_;(repeat (refine qg ?_;(try dsimp only);try simp only[reduceCtorEq,E0]));cases hF;simp only[go_sem]
  ·refine Zbj ⟨[(1,.bp 0 0),(21,.p (vb ((decide ((v0.Releases.length:Int)>500)) || (decide ((v0.Known.length:Int)>2000)))))],[(0,.cells [.p (vs v0.Product.b),.p (.sl (v0.Releases.map Zag.c)),.p (.sl (v0.Known.map Zac.c)),.p (vi v0.Until)])],1⟩ (fun K hK=>?_) ?_
   ·(try simp only[go_sem]);(try simp only[go_sem]);refine Zap rfl ?_ ?_<;>intro hg5<;>(try simp only[hg5,go_sem])
    ·(try simp only[go_sem,hg5]);refine kg hK ?_;exact (Upd.sub lb (by simp[go_sem,Zaq,Env.get,hg5]) (by simp[go_sem,Zao,Heap.get,Zat]))
    ·(try simp only[go_sem,hg5]);refine kg hK ?_;exact (Upd.sub lb (by simp[go_sem,Zaq,Env.get,hg5]) (by simp[go_sem,Zao,Heap.get,Zat]))
   refine ci hF (fun hc hF=>?_) (fun hc hF=>?_)
   ·refine Zaf fun K hK=>?_;(try simp only[go_sem]);refine kg hK ?_;refine Zaw ?_;(repeat (refine qg ?_;(try dsimp only);try simp only[reduceCtorEq,E0]));cases hF;simp only[go_sem]
   ·refine Zan ?_;(repeat (refine qg ?_;(try dsimp only);try simp only[reduceCtorEq,E0]));refine Zah fun Q hQ=>?_;obtain⟨y6,h7,hF⟩:=Zae hF;refine Zaf fun K hK=>?_;(try simp only[go_sem]);refine Zar (ZeJ h7) rfl (by simp only[go_sem]) (by simp only[go_sem]) ?_;(try dsimp only);(try simp only[go_sem]);refine kg hK ?_;refine Zaf fun K hK=>?_;(try simp only[go_sem]);refine kg hK ?_;refine ci hF (fun hc hF=>?_) (fun hc hF=>?_)
    ·refine Zaf fun K hK=>?_;(try simp only[go_sem]);refine kg hK ?_;refine Zaw ?_;(repeat (refine qg ?_;(try dsimp only);try simp only[reduceCtorEq,E0]));cases hF;simp only[go_sem]
    ·refine Zan ?_;(repeat (refine qg ?_;(try dsimp only);try simp only[reduceCtorEq,E0]));refine Zaf fun K hK=>?_;(try simp only[go_sem]);refine kg hK ?_;refine Zah fun Q hQ=>?_;refine Zaf fun K hK=>?_;(try simp only[go_sem]);refine kg hK ?_;refine Zaz hF (fun (m29:(List (Str × Bool)))=>⟨[(1,.bp 0 0),(4,.mp 1)],[(1,.map (m29.map (cM kS pB))),(0,.cells [.p (vs v0.Product.b),.p (.sl (v0.Releases.map Zag.c)),.p (.sl (v0.Known.map Zac.c)),.p (vi v0.Until)])],2⟩) ?_ ?_
     ·intro y30 hF hj30 Q hQ;refine Zai fun Q hQ=>?_;refine Zbb 39 rfl (fun _ _=>ZbU) fun hl10=>?_;simp only[List.length_map,top] at hl10;refine Zbe hF (fun i8 m20=>⟨[(1,.bp 0 0),(4,.mp 1),(39,.p (.sl (v0.Known.map Zac.c))),(40,.p (vi (v0.Known.length:Int))),(41,.p (vi (i8:Int)))],[(1,.map (m20.map (cM kS pB))),(0,.cells [.p (vs v0.Product.b),.p (.sl (v0.Releases.map Zag.c)),.p (.sl (v0.Known.map Zac.c)),.p (vi v0.Until)])],2⟩) us ?_ ?_
      ·rintro m20 hy Q hQ;(try dsimp only at hy ⊢);have hlt:decide (((v0.Known.length:Int):Int)<(v0.Known.length:Int))=false:=by simp
       refine Zaf fun K hK=>?_;(try simp only[go_sem,hlt]);refine kg hK ?_;refine Zah fun Q hQ=>?_;refine Zay rfl (fun hc=>?_) (fun hc=>?_)
       ·cases hc
       refine Zax ?_;(repeat (refine qg ?_;(try dsimp only);try simp only[E0]));exact⟨_,hy,us⟩
      ·rintro i8 x11 m20 z30 hi hx hF hb30 hr30 Q hQ;(try dsimp only at hF ⊢);have hlt:decide ((i8:Int)<(v0.Known.length:Int))=true:=by simp;omega
       have hw9:IntKind.i64.wrap ((i8:Int)+1)=((i8+1:Nat):Int):=by rw[wrap64 (by omega) (by omega)];simp
       refine Zaf fun K hK=>?_;(try simp only[go_sem,hlt]);refine kg hK ?_;refine Zah fun Q hQ=>?_;refine Zay rfl (fun hc=>?_) (fun hc=>?_)
       rotate_left;· cases hc
       refine Zan ?_;(repeat (refine qg ?_;(try dsimp only);try simp only[reduceCtorEq,E0]));refine Zah fun Q hQ=>?_;refine Zai fun Q hQ=>?_;refine Zaf fun K hK=>?_;(try simp only[go_sem,hx]);refine kg hK ?_;refine Zah fun Q hQ=>?_;refine Zai fun Q hQ=>?_;obtain⟨y31,h32,hF⟩:=Zae hF;refine Zaf fun K hK=>?_;(try simp only[go_sem]);refine Zar (Zct h32) rfl (by simp only[go_sem]) (by simp only[go_sem]) ?_;(try dsimp only);(try simp only[go_sem]);refine kg hK ?_;refine ci hF (fun hc hF=>?_) (fun hc hF=>?_)
       ·refine Zaf fun K hK=>?_;(try simp only[go_sem]);refine kg hK ?_;refine Zaw ?_;(repeat (refine qg ?_;(try dsimp only);try simp only[reduceCtorEq,E0]));cases hF;cases (hj30 _ (hr30 _ rfl));simp only[go_sem]
       ·obtain⟨b35,h36,hF⟩:=Zae hF;refine Zc8 ⟨[(1,.bp 0 0),(4,.mp 1),(6,.bp 2 0),(39,.p (.sl (v0.Known.map Zac.c))),(40,.p (vi (v0.Known.length:Int))),(41,.p (vi (i8:Int))),(51,.p (vb b35))],[(2,.cells [.p (vs x11.Advisory.b),.p (vi x11.Day),.p (vi x11.Ended)]),(1,.map (m20.map (cM kS pB))),(0,.cells [.p (vs v0.Product.b),.p (.sl (v0.Releases.map Zag.c)),.p (.sl (v0.Known.map Zac.c)),.p (vi v0.Until)])],3⟩ (fun K hK=>?_) ?_
        ·(try simp only[go_sem]);(try simp only[go_sem]);refine ZaI rfl ?_ ?_<;>intro hg37<;>(try simp only[hg37,go_sem])
         ·simp only[hg37,gbS] at h36;obtain⟨x38,h39,h36⟩:=Zae h36;replace h39:=Zas Zac.c h39;(try simp only[go_sem] at h39);cases h36;(try simp only[go_sem,h39]);refine kg hK ?_;exact us
         ·simp only[hg37,gbS] at h36;cases h36;(try simp only[go_sem,hg37]);refine kg hK ?_;exact us
        refine ci hF (fun hc hF=>?_) (fun hc hF=>?_)
        ·refine Zaf fun K hK=>?_;(try simp only[go_sem]);refine kg hK ?_;refine Zaw ?_;(repeat (refine qg ?_;(try dsimp only);try simp only[reduceCtorEq,E0]));cases hF;cases (hj30 _ (hr30 _ rfl));simp only[go_sem]
        ·obtain⟨y40,h41,hF⟩:=Zae hF;refine Zbj ⟨[(1,.bp 0 0),(4,.mp 1),(6,.bp 2 0),(39,.p (.sl (v0.Known.map Zac.c))),(40,.p (vi (v0.Known.length:Int))),(41,.p (vi (i8:Int))),(66,.p (vb ((!y40) || ((x11.Ended != (-1)) && ((decide (x11.Ended<x11.Day)) || (decide (x11.Ended>1000000)))))))],[(2,.cells [.p (vs x11.Advisory.b),.p (vi x11.Day),.p (vi x11.Ended)]),(1,.map (m20.map (cM kS pB))),(0,.cells [.p (vs v0.Product.b),.p (.sl (v0.Releases.map Zag.c)),.p (.sl (v0.Known.map Zac.c)),.p (vi v0.Until)])],3⟩ (fun K hK=>?_) ?_
         ·(try simp only[go_sem]);(try simp only[go_sem]);refine Zar (Zfa h41) rfl (by simp only[go_sem]) (by simp only[go_sem]) ?_;(try dsimp only);(try simp only[go_sem]);(try simp only[go_sem]);refine Zap rfl ?_ ?_<;>intro hg42<;>(try simp only[hg42,go_sem])
          ·(try simp only[go_sem,hg42]);refine kg hK ?_;exact (Upd.sub lb (by simp[go_sem,Zaq,Env.get,hg42]) (by simp[go_sem,Zao,Heap.get,Zat]))
          ·(try simp only[go_sem,hg42]);refine Zap rfl ?_ ?_<;>intro hg43<;>(try simp only[hg43,go_sem])
           ·(try simp only[go_sem,hg42,hg43]);refine Zap rfl ?_ ?_<;>intro hg44<;>(try simp only[hg44,go_sem])
            ·(try simp only[go_sem,hg42,hg43,hg44]);refine kg hK ?_;exact (Upd.sub lb (by simp[go_sem,Zaq,Env.get,hg42,hg43,hg44]) (by simp[go_sem,Zao,Heap.get,Zat]))
            ·(try simp only[go_sem,hg42,hg43,hg44]);refine kg hK ?_;exact (Upd.sub lb (by simp[go_sem,Zaq,Env.get,hg42,hg43,hg44]) (by simp[go_sem,Zao,Heap.get,Zat]))
           ·(try simp only[go_sem,hg42,hg43]);refine kg hK ?_;exact (Upd.sub lb (by simp[go_sem,Zaq,Env.get,hg42,hg43]) (by simp[go_sem,Zao,Heap.get,Zat]))
         refine ci hF (fun hc hF=>?_) (fun hc hF=>?_)
         ·refine Zaf fun K hK=>?_;(try simp only[go_sem]);refine kg hK ?_;refine Zaw ?_;(repeat (refine qg ?_;(try dsimp only);try simp only[reduceCtorEq,E0]));cases hF;cases (hj30 _ (hr30 _ rfl));simp only[go_sem]
         ·refine Zan ?_;(repeat (refine qg ?_;(try dsimp only);try simp only[reduceCtorEq,E0]));refine Zaj ?_;(try simp only[go_sem]);(repeat (refine qg ?_;(try dsimp only);try simp only[reduceCtorEq,E0]));refine Zaj ?_;(try simp only[go_sem,hw9]);(repeat (refine qg ?_;(try dsimp only);try simp only[reduceCtorEq,E0]));cases hF;exact⟨_,rfl,us⟩
     rintro m29 hF;(try dsimp only at hF ⊢);(repeat (refine qg ?_;(try dsimp only);try simp only[reduceCtorEq,E0]));refine Zah fun Q hQ=>?_;refine Zaf fun K hK=>?_;(try simp only[go_sem]);refine kg hK ?_;refine Zaz hF (fun (_:Unit)=>⟨[],[],2⟩) ?_ ?_
     ·intro y54 hF hj54 Q hQ;refine Zai fun Q hQ=>?_;refine Zbb 93 rfl (fun _ _=>ZbU) fun hl47=>?_;simp only[List.length_map,top] at hl47;refine Zbe hF (fun i45 _=>⟨[(4,.mp 1),(93,.p (.sl (v0.Releases.map Zag.c))),(94,.p (vi (v0.Releases.length:Int))),(95,.p (vi (i45:Int)))],[(1,.map (m29.map (cM kS pB)))],2⟩) us ?_ ?_
      ·rintro⟨⟩ hy Q hQ;(try dsimp only at hy ⊢);have hlt:decide (((v0.Releases.length:Int):Int)<(v0.Releases.length:Int))=false:=by simp
       refine Zaf fun K hK=>?_;(try simp only[go_sem,hlt]);refine kg hK ?_;refine Zah fun Q hQ=>?_;refine Zay rfl (fun hc=>?_) (fun hc=>?_)
       ·cases hc
       refine Zax ?_;(repeat (refine qg ?_;(try dsimp only);try simp only[E0]));exact⟨_,hy,(us (hh:=trivial))⟩
      ·rintro i45 x48 ⟨⟩ z54 hi hx hF hb54 hr54 Q hQ;(try dsimp only at hF ⊢);have hlt:decide ((i45:Int)<(v0.Releases.length:Int))=true:=by simp;omega
       have hw46:IntKind.i64.wrap ((i45:Int)+1)=((i45+1:Nat):Int):=by rw[wrap64 (by omega) (by omega)];simp
       refine Zaf fun K hK=>?_;(try simp only[go_sem,hlt]);refine kg hK ?_;refine Zah fun Q hQ=>?_;refine Zay rfl (fun hc=>?_) (fun hc=>?_)
       rotate_left;· cases hc
       refine Zan ?_;(repeat (refine qg ?_;(try dsimp only);try simp only[reduceCtorEq,E0]));refine Zah fun Q hQ=>?_;refine Zai fun Q hQ=>?_;refine Zaf fun K hK=>?_;(try simp only[go_sem,hx]);refine kg hK ?_;refine Zaf fun K hK=>?_;(try simp only[go_sem]);refine kg hK ?_;refine Zaz hF (fun (_:Unit)=>⟨[(4,.mp 1),(93,.p (.sl (v0.Releases.map Zag.c))),(94,.p (vi (v0.Releases.length:Int))),(95,.p (vi (i45:Int)))],[(1,.map (m29.map (cM kS pB)))],3⟩) ?_ ?_
       ·intro y59 hF hj59 Q hQ;refine Zai fun Q hQ=>?_;refine Zbb 100 rfl (fun _ _=>ZbU) fun hl57=>?_;simp only[List.length_map,top] at hl57;refine Zbe hF (fun i55 _=>⟨[(4,.mp 1),(93,.p (.sl (v0.Releases.map Zag.c))),(94,.p (vi (v0.Releases.length:Int))),(95,.p (vi (i45:Int))),(100,.p (.sl (x48.Exposures.map Zad.c))),(101,.p (vi (x48.Exposures.length:Int))),(102,.p (vi (i55:Int)))],[(1,.map (m29.map (cM kS pB)))],3⟩) us ?_ ?_
        ·rintro⟨⟩ hy Q hQ;(try dsimp only at hy ⊢);have hlt:decide (((x48.Exposures.length:Int):Int)<(x48.Exposures.length:Int))=false:=by simp
         refine Zaf fun K hK=>?_;(try simp only[go_sem,hlt]);refine kg hK ?_;refine Zah fun Q hQ=>?_;refine Zay rfl (fun hc=>?_) (fun hc=>?_)
         ·cases hc
         refine Zax ?_;(repeat (refine qg ?_;(try dsimp only);try simp only[E0]));exact⟨_,hy,us⟩
        ·rintro i55 x58 ⟨⟩ z59 hi hx hF hb59 hr59 Q hQ;(try dsimp only at hF ⊢);have hlt:decide ((i55:Int)<(x48.Exposures.length:Int))=true:=by simp;omega
         have hw56:IntKind.i64.wrap ((i55:Int)+1)=((i55+1:Nat):Int):=by rw[wrap64 (by omega) (by omega)];simp
         refine Zaf fun K hK=>?_;(try simp only[go_sem,hlt]);refine kg hK ?_;refine Zah fun Q hQ=>?_;refine Zay rfl (fun hc=>?_) (fun hc=>?_)
         rotate_left;· cases hc
         refine Zan ?_;(repeat (refine qg ?_;(try dsimp only);try simp only[reduceCtorEq,E0]));refine Zah fun Q hQ=>?_;refine Zai fun Q hQ=>?_;refine Zaf fun K hK=>?_;(try simp only[go_sem,hx]);refine kg hK ?_;refine Zaf fun K hK=>?_;(try simp only[go_sem]);refine kg hK ?_;refine ci hF (fun hc hF=>?_) (fun hc hF=>?_)
         ·refine Zaf fun K hK=>?_;(try simp only[go_sem]);refine kg hK ?_;refine Zaw ?_;(repeat (refine qg ?_;(try dsimp only);try simp only[reduceCtorEq,E0]));cases hF;cases (hj59 _ (hr59 _ rfl));cases (hj54 _ (hr54 _ rfl));simp only[go_sem]
         ·refine Zan ?_;(repeat (refine qg ?_;(try dsimp only);try simp only[reduceCtorEq,E0]));refine Zaj ?_;(try simp only[go_sem,hw56]);(repeat (refine qg ?_;(try dsimp only);try simp only[reduceCtorEq,E0]));cases hF;exact⟨_,rfl,us⟩
       rintro⟨⟩ hF;(try dsimp only at hF ⊢);(repeat (refine qg ?_;(try dsimp only);try simp only[reduceCtorEq,E0]));refine Zaj ?_;(try simp only[go_sem,hw46]);(repeat (refine qg ?_;(try dsimp only);try simp only[reduceCtorEq,E0]));cases hF;exact⟨_,rfl,us⟩
     rintro⟨⟩ hF;(try dsimp only at hF ⊢);(repeat (refine qg ?_;(try dsimp only);try simp only[reduceCtorEq,E0]));refine Zaf fun K hK=>?_;(try simp only[go_sem]);refine kg hK ?_;refine Zaw ?_;(repeat (refine qg ?_;(try dsimp only);try simp only[reduceCtorEq,E0]));cases hF;simp only[go_sem]
theorem ref11_viewOf_ok {v0:Zam} {r0} (hF:Zcj v0=some r0):APure Try.prog 90 [.p (.agg [vs v0.Product.b,.sl (v0.Releases.map Zag.c),.sl (v0.Known.map Zac.c),vi v0.Until])] (.p (.agg [vs r0.s.Product.b,.sl (r0.s.Releases.map Zag.c),.sl (r0.s.Known.map Zac.c),vi r0.s.Until,.mp (r0.known.map (cM kS (pA Zac.c)))])):=by
 refine apureZ 2 rc90_ok rfl ?_;simp only[rc90,ZaG,rk,ro,rm,rn,rb,rg];unfold Zcj at hF;refine Zaf fun K hK=>?_;(try simp only[go_sem]);refine kg hK ?_;refine Zaf fun K hK=>?_;(try simp only[go_sem]);refine kg hK ?_;refine Zah fun Q hQ=>?_;refine Zaf fun K hK=>?_;(try simp only[go_sem]);refine kg hK ?_;refine Zaz hF (fun (m6:(List (Str × Zac)))=>⟨[(2,.bp 1 0),(3,.bp 3 0)],[(3,.cells [.p (vs v0.Product.b),.p (.sl (v0.Releases.map Zag.c)),.p (.sl (v0.Known.map Zac.c)),.p (vi v0.Until),.mp 2]),(2,.map (m6.map (cM kS (pA Zac.c)))),(1,.cells [.p (vs str_.b),.p (.c (.slice none 0 0)),.p (.c (.slice none 0 0)),.p (vi 0),.p (.c (.map none))])],4⟩) ?_ ?_
 ·intro y7 hF hj7 Q hQ;refine Zai fun Q hQ=>?_;refine Zbb 10 rfl (fun _ _=>ZbU) fun hl3=>?_;simp only[List.length_map,top] at hl3;refine Zbe hF (fun i1 m5=>⟨[(2,.bp 1 0),(3,.bp 3 0),(10,.p (.sl (v0.Known.map Zac.c))),(11,.p (vi (v0.Known.length:Int))),(12,.p (vi (i1:Int)))],[(3,.cells [.p (vs v0.Product.b),.p (.sl (v0.Releases.map Zag.c)),.p (.sl (v0.Known.map Zac.c)),.p (vi v0.Until),.mp 2]),(2,.map (m5.map (cM kS (pA Zac.c)))),(1,.cells [.p (vs str_.b),.p (.c (.slice none 0 0)),.p (.c (.slice none 0 0)),.p (vi 0),.p (.c (.map none))])],4⟩) us ?_ ?_
  ·rintro m5 hy Q hQ;(try dsimp only at hy ⊢);have hlt:decide (((v0.Known.length:Int):Int)<(v0.Known.length:Int))=false:=by simp
   refine Zaf fun K hK=>?_;(try simp only[go_sem,hlt]);refine kg hK ?_;refine Zah fun Q hQ=>?_;refine Zay rfl (fun hc=>?_) (fun hc=>?_)
   ·cases hc
   refine Zax ?_;(repeat (refine qg ?_;(try dsimp only);try simp only[E0]));exact⟨_,hy,us⟩
  ·rintro i1 x4 m5 z7 hi hx hF hb7 hr7 Q hQ;(try dsimp only at hF ⊢);have hlt:decide ((i1:Int)<(v0.Known.length:Int))=true:=by simp;omega
   have hw2:IntKind.i64.wrap ((i1:Int)+1)=((i1+1:Nat):Int):=by rw[wrap64 (by omega) (by omega)];simp
   refine Zaf fun K hK=>?_;(try simp only[go_sem,hlt]);refine kg hK ?_;refine Zah fun Q hQ=>?_;refine Zay rfl (fun hc=>?_) (fun hc=>?_)
   rotate_left;· cases hc
   refine Zan ?_;(repeat (refine qg ?_;(try dsimp only);try simp only[reduceCtorEq,E0]));refine Zah fun Q hQ=>?_;refine Zai fun Q hQ=>?_;refine Zaf fun K hK=>?_;(try simp only[go_sem,hx]);refine kg hK ?_;refine Zaj ?_;(try simp only[go_sem]);(repeat (refine qg ?_;(try dsimp only);try simp only[reduceCtorEq,E0]));refine Zaj ?_;(try simp only[go_sem,hw2]);(repeat (refine qg ?_;(try dsimp only);try simp only[reduceCtorEq,E0]));cases hF;exact⟨_,rfl,us⟩
 rintro m6 hF;(try dsimp only at hF ⊢);(repeat (refine qg ?_;(try dsimp only);try simp only[reduceCtorEq,E0]));refine Zaf fun K hK=>?_;(try simp only[go_sem]);refine kg hK ?_;refine Zaw ?_;(repeat (refine qg ?_;(try dsimp only);try simp only[reduceCtorEq,E0]));cases hF;simp only[go_sem]
theorem ZcO {v0:Zam} {r0} (hF:ZbV v0=some r0):APure Try.prog 92 [.p (.agg [vs v0.Product.b,.sl (v0.Releases.map Zag.c),.sl (v0.Known.map Zac.c),vi v0.Until])] (.p (.sl (r0.map Zaa.c))):=by
 refine apureZ 2 rc92_ok rfl ?_;simp only[rc92,ZaG,rk,ro,rm,rn,rb,rg];unfold ZbV at hF;refine Zaf fun K hK=>?_;(try simp only[go_sem]);refine kg hK ?_;refine Zaf fun K hK=>?_;(try simp only[go_sem]);refine kg hK ?_;refine Zah fun Q hQ=>?_;refine Zaf fun K hK=>?_;(try simp only[go_sem]);refine kg hK ?_;refine Zaz hF (fun (m6:(List (Str × Zac)))=>⟨[(1,.bp 0 0),(3,.mp 1)],[(1,.map (m6.map (cM kS (pA Zac.c)))),(0,.cells [.p (vs v0.Product.b),.p (.sl (v0.Releases.map Zag.c)),.p (.sl (v0.Known.map Zac.c)),.p (vi v0.Until)])],2⟩) ?_ ?_
 ·intro y7 hF hj7 Q hQ;refine Zai fun Q hQ=>?_;refine Zbb 16 rfl (fun _ _=>ZbU) fun hl3=>?_;simp only[List.length_map,top] at hl3;refine Zbe hF (fun i1 m5=>⟨[(1,.bp 0 0),(3,.mp 1),(16,.p (.sl (v0.Known.map Zac.c))),(17,.p (vi (v0.Known.length:Int))),(18,.p (vi (i1:Int)))],[(1,.map (m5.map (cM kS (pA Zac.c)))),(0,.cells [.p (vs v0.Product.b),.p (.sl (v0.Releases.map Zag.c)),.p (.sl (v0.Known.map Zac.c)),.p (vi v0.Until)])],2⟩) us ?_ ?_
  ·rintro m5 hy Q hQ;(try dsimp only at hy ⊢);have hlt:decide (((v0.Known.length:Int):Int)<(v0.Known.length:Int))=false:=by simp
   refine Zaf fun K hK=>?_;(try simp only[go_sem,hlt]);refine kg hK ?_;refine Zah fun Q hQ=>?_;refine Zay rfl (fun hc=>?_) (fun hc=>?_)
   ·cases hc
   refine Zax ?_;(repeat (refine qg ?_;(try dsimp only);try simp only[E0]));exact⟨_,hy,us⟩
  ·rintro i1 x4 m5 z7 hi hx hF hb7 hr7 Q hQ;(try dsimp only at hF ⊢);have hlt:decide ((i1:Int)<(v0.Known.length:Int))=true:=by simp;omega
   have hw2:IntKind.i64.wrap ((i1:Int)+1)=((i1+1:Nat):Int):=by rw[wrap64 (by omega) (by omega)];simp
   refine Zaf fun K hK=>?_;(try simp only[go_sem,hlt]);refine kg hK ?_;refine Zah fun Q hQ=>?_;refine Zay rfl (fun hc=>?_) (fun hc=>?_)
   rotate_left;· cases hc
   refine Zan ?_;(repeat (refine qg ?_;(try dsimp only);try simp only[reduceCtorEq,E0]));refine Zah fun Q hQ=>?_;refine Zai fun Q hQ=>?_;refine Zaf fun K hK=>?_;(try simp only[go_sem,hx]);refine kg hK ?_;refine Zaj ?_;(try simp only[go_sem]);(repeat (refine qg ?_;(try dsimp only);try simp only[reduceCtorEq,E0]));refine Zaj ?_;(try simp only[go_sem,hw2]);(repeat (refine qg ?_;(try dsimp only);try simp only[reduceCtorEq,E0]));cases hF;exact⟨_,rfl,us⟩
 rintro m6 hF;(try dsimp only at hF ⊢);(repeat (refine qg ?_;(try dsimp only);try simp only[reduceCtorEq,E0]));refine Zaf fun K hK=>?_;(try simp only[go_sem]);refine kg hK ?_;refine Zah fun Q hQ=>?_;refine Zaf fun K hK=>?_;(try simp only[go_sem]);refine kg hK ?_;refine ZeM (Upd.ownTmp _ 6 rfl) ?_;dsimp only;refine Zaz hF (fun (l92:(List Zaa))=>⟨[(6,.os 2 0 l92.length)],[(2,.slice (l92.map Zaa.c))],3⟩) ?_ ?_
 ·intro y93 hF hj93 Q hQ;refine Zai fun Q hQ=>?_;refine Zbb 28 rfl (fun _ _=>ZbU) fun hl10=>?_;simp only[List.length_map,top] at hl10;refine Zbe hF (fun i8 l66=>⟨[(1,.bp 0 0),(3,.mp 1),(6,.os 2 0 l66.length),(28,.p (.sl (v0.Releases.map Zag.c))),(29,.p (vi (v0.Releases.length:Int))),(30,.p (vi (i8:Int)))],[(2,.slice (l66.map Zaa.c)),(1,.map (m6.map (cM kS (pA Zac.c)))),(0,.cells [.p (vs v0.Product.b),.p (.sl (v0.Releases.map Zag.c)),.p (.sl (v0.Known.map Zac.c)),.p (vi v0.Until)])],3⟩) us ?_ ?_
  ·rintro l66 hy Q hQ;(try dsimp only at hy ⊢);have hlt:decide (((v0.Releases.length:Int):Int)<(v0.Releases.length:Int))=false:=by simp
   refine Zaf fun K hK=>?_;(try simp only[go_sem,hlt]);refine kg hK ?_;refine Zah fun Q hQ=>?_;refine Zay rfl (fun hc=>?_) (fun hc=>?_)
   ·cases hc
   refine Zax ?_;(repeat (refine qg ?_;(try dsimp only);try simp only[E0]));exact⟨_,hy,us⟩
  ·rintro i8 x11 l66 z93 hi hx hF hb93 hr93 Q hQ;(try dsimp only at hF ⊢);have hlt:decide ((i8:Int)<(v0.Releases.length:Int))=true:=by simp;omega
   have hw9:IntKind.i64.wrap ((i8:Int)+1)=((i8+1:Nat):Int):=by rw[wrap64 (by omega) (by omega)];simp
   refine Zaf fun K hK=>?_;(try simp only[go_sem,hlt]);refine kg hK ?_;refine Zah fun Q hQ=>?_;refine Zay rfl (fun hc=>?_) (fun hc=>?_)
   rotate_left;· cases hc
   refine Zan ?_;(repeat (refine qg ?_;(try dsimp only);try simp only[reduceCtorEq,E0]));refine Zah fun Q hQ=>?_;refine Zai fun Q hQ=>?_;refine Zaf fun K hK=>?_;(try simp only[go_sem,hx]);refine kg hK ?_;refine Zaf fun K hK=>?_;(try simp only[go_sem]);refine kg hK ?_;refine ZbC hF (fun (n96:Int)=>⟨[(1,.bp 0 0),(3,.mp 1),(6,.os 2 0 l66.length),(8,.bp 3 0),(9,.p (vi n96)),(28,.p (.sl (v0.Releases.map Zag.c))),(29,.p (vi (v0.Releases.length:Int))),(30,.p (vi (i8:Int)))],[(3,.cells [.p (vs x11.Version.b),.p (vi x11.Day),.p (.sl (x11.Exposures.map Zad.c))]),(2,.slice (l66.map Zaa.c)),(1,.map (m6.map (cM kS (pA Zac.c)))),(0,.cells [.p (vs v0.Product.b),.p (.sl (v0.Releases.map Zag.c)),.p (.sl (v0.Known.map Zac.c)),.p (vi v0.Until)])],4⟩) ?_ ?_
   ·intro z97 hF hr97 Q hQ;refine Zaf fun K hK=>?_;(try simp only[go_sem,hw9]);refine kg hK ?_;refine ci hF (fun hc hF=>?_) (fun hc hF=>?_)
    ·obtain⟨x98,h99,hF⟩:=Zae hF;replace h99:=Zas Zag.c h99;(try simp only[go_sem] at h99);refine Zaj ?_;(try simp only[go_sem,hw9,h99]);(repeat (refine qg ?_;(try dsimp only);try simp only[reduceCtorEq,E0]));cases hF;exact⟨_,rfl,us⟩
    ·refine Zan ?_;(repeat (refine qg ?_;(try dsimp only);try simp only[reduceCtorEq,E0]));cases hF;exact⟨_,rfl,us⟩
   rintro n96 hF;(try dsimp only at hF ⊢);refine Zaf fun K hK=>?_;(try simp only[go_sem]);refine kg hK ?_;refine Zaz hF (fun (l113:(List Zaa))=>⟨[(1,.bp 0 0),(3,.mp 1),(6,.os 2 0 l113.length),(28,.p (.sl (v0.Releases.map Zag.c))),(29,.p (vi (v0.Releases.length:Int))),(30,.p (vi (i8:Int)))],[(2,.slice (l113.map Zaa.c)),(1,.map (m6.map (cM kS (pA Zac.c)))),(0,.cells [.p (vs v0.Product.b),.p (.sl (v0.Releases.map Zag.c)),.p (.sl (v0.Known.map Zac.c)),.p (vi v0.Until)])],4⟩) ?_ ?_
   ·intro y114 hF hj114 Q hQ;refine Zai fun Q hQ=>?_;refine Zbb 51 rfl (fun _ _=>ZbU) fun hl102=>?_;simp only[List.length_map,top] at hl102;refine Zbe hF (fun i100 l108=>⟨[(1,.bp 0 0),(3,.mp 1),(6,.os 2 0 l108.length),(8,.bp 3 0),(9,.p (vi n96)),(28,.p (.sl (v0.Releases.map Zag.c))),(29,.p (vi (v0.Releases.length:Int))),(30,.p (vi (i8:Int))),(51,.p (.sl (x11.Exposures.map Zad.c))),(52,.p (vi (x11.Exposures.length:Int))),(53,.p (vi (i100:Int)))],[(3,.cells [.p (vs x11.Version.b),.p (vi x11.Day),.p (.sl (x11.Exposures.map Zad.c))]),(2,.slice (l108.map Zaa.c)),(1,.map (m6.map (cM kS (pA Zac.c)))),(0,.cells [.p (vs v0.Product.b),.p (.sl (v0.Releases.map Zag.c)),.p (.sl (v0.Known.map Zac.c)),.p (vi v0.Until)])],4⟩) us ?_ ?_
    ·rintro l108 hy Q hQ;(try dsimp only at hy ⊢);have hlt:decide (((x11.Exposures.length:Int):Int)<(x11.Exposures.length:Int))=false:=by simp
     refine Zaf fun K hK=>?_;(try simp only[go_sem,hlt]);refine kg hK ?_;refine Zah fun Q hQ=>?_;refine Zay rfl (fun hc=>?_) (fun hc=>?_)
     ·cases hc
     refine Zax ?_;(repeat (refine qg ?_;(try dsimp only);try simp only[E0]));exact⟨_,hy,us⟩
    ·rintro i100 x103 l108 z114 hi hx hF hb114 hr114 Q hQ;(try dsimp only at hF ⊢);have hlt:decide ((i100:Int)<(x11.Exposures.length:Int))=true:=by simp;omega
     have hw101:IntKind.i64.wrap ((i100:Int)+1)=((i100+1:Nat):Int):=by rw[wrap64 (by omega) (by omega)];simp
     refine Zaf fun K hK=>?_;(try simp only[go_sem,hlt]);refine kg hK ?_;refine Zah fun Q hQ=>?_;refine Zay rfl (fun hc=>?_) (fun hc=>?_)
     rotate_left;· cases hc
     refine Zan ?_;(repeat (refine qg ?_;(try dsimp only);try simp only[reduceCtorEq,E0]));refine Zah fun Q hQ=>?_;refine Zai fun Q hQ=>?_;refine Zaf fun K hK=>?_;(try simp only[go_sem,hx]);refine kg hK ?_;refine Zaf fun K hK=>?_;(try simp only[go_sem]);refine kg hK ?_;refine Zaf fun K hK=>?_;(try simp only[go_sem]);refine kg hK ?_;refine ZbC hF (fun (n115:Int)=>⟨[(1,.bp 0 0),(3,.mp 1),(6,.os 2 0 l108.length),(8,.bp 3 0),(9,.p (vi n96)),(13,.bp 6 0),(28,.p (.sl (v0.Releases.map Zag.c))),(29,.p (vi (v0.Releases.length:Int))),(30,.p (vi (i8:Int))),(51,.p (.sl (x11.Exposures.map Zad.c))),(52,.p (vi (x11.Exposures.length:Int))),(53,.p (vi (i100:Int)))],[(6,.cells [.p (vs x103.Advisory.b),.p (vs x103.Component.b),.p (vi x103.Severity),.p (vi (if x11.Day<((mget kEqS x103.Advisory m6).getD (Zac.mk str_ 0 0)).Day then ((mget kEqS x103.Advisory m6).getD (Zac.mk str_ 0 0)).Day else x11.Day)),.p (vi n115)]),(3,.cells [.p (vs x11.Version.b),.p (vi x11.Day),.p (.sl (x11.Exposures.map Zad.c))]),(2,.slice (l108.map Zaa.c)),(1,.map (m6.map (cM kS (pA Zac.c)))),(0,.cells [.p (vs v0.Product.b),.p (.sl (v0.Releases.map Zag.c)),.p (.sl (v0.Known.map Zac.c)),.p (vi v0.Until)])],7⟩) ?_ ?_
     ·intro z116 hF hr116 Q hQ;refine Zaf fun K hK=>?_;(try simp only[go_sem]);refine kg hK ?_;refine ci hF (fun hc hF=>?_) (fun hc hF=>?_)
      ·refine Zaj ?_;(try simp only[go_sem]);(repeat (refine qg ?_;(try dsimp only);try simp only[reduceCtorEq,E0]));cases hF;exact⟨_,rfl,us⟩
      ·refine Zan ?_;(repeat (refine qg ?_;(try dsimp only);try simp only[reduceCtorEq,E0]));cases hF;exact⟨_,rfl,us⟩
     rintro n115 hF;(try dsimp only at hF ⊢);refine Zaf fun K hK=>?_;(try simp only[go_sem]);refine kg hK ?_;refine ci hF (fun hc hF=>?_) (fun hc hF=>?_)
     ·obtain⟨l117,h118,hF⟩:=Zae hF;obtain⟨h118,h118v⟩:=ZcP h118;(try simp only[go_sem] at h118);refine Zaj ?_;(try simp only[go_sem,h118]);(repeat (refine qg ?_;(try dsimp only);try simp only[reduceCtorEq,E0]));refine Zaj ?_;(try simp only[go_sem,hw101]);(repeat (refine qg ?_;(try dsimp only);try simp only[reduceCtorEq,E0]));cases hF;exact⟨_,rfl,(Upd.sub lb (by simp[go_sem,Zaq,Env.get,h118v]) (by simp[go_sem,Zao,Heap.get,Zat,h118v]))⟩
     ·refine Zan ?_;(repeat (refine qg ?_;(try dsimp only);try simp only[reduceCtorEq,E0]));refine Zaj ?_;(try simp only[go_sem,hw101]);(repeat (refine qg ?_;(try dsimp only);try simp only[reduceCtorEq,E0]));cases hF;exact⟨_,rfl,us⟩
   rintro l113 hF;(try dsimp only at hF ⊢);(repeat (refine qg ?_;(try dsimp only);try simp only[reduceCtorEq,E0]));refine Zaj ?_;(try simp only[go_sem,hw9]);(repeat (refine qg ?_;(try dsimp only);try simp only[reduceCtorEq,E0]));cases hF;exact⟨_,rfl,us⟩
 rintro l92 hF;(try dsimp only at hF ⊢);(repeat (refine qg ?_;(try dsimp only);try simp only[reduceCtorEq,E0]));refine Zaf fun K hK=>?_;(try simp only[go_sem]);refine kg hK ?_;refine Zaw ?_;(repeat (refine qg ?_;(try dsimp only);try simp only[reduceCtorEq,E0]));cases hF;simp only[go_sem]
end Go.Abs
