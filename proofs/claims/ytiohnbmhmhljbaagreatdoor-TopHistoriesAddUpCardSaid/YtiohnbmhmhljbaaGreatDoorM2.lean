/-
  Abs,part 10:append,make,maps,lengths. Abs,part 11:maps,lengths,slices of slices,make,min and max. Abs,part 12:slicing,make of a slice;all operations together. (and more of this kind).
-/
import Derived.Test.YtiohnbmhmhljbaaGreatDoorM1
import Derived.Orders
namespace Go.Abs
open Go
variable {P:Program}
theorem RowsAt.flat {cs:Array Value}:∀ {off wd:Nat} {vals:List (List Value)},RowsAt cs off wd vals→∀j x,vals.flatten[j]? =some x→cs[off+j]? =some x
  | off,wd,[],_,j,x,h=>by simp at h
  | off,wd,r :: vals,hr,j,x,h=>by
    obtain⟨h1,h2⟩:=hr 0 r rfl
    rw[List.flatten_cons] at h
    by_cases hj:j<r.length
    · rw[List.getElem?_append_left hj] at h
      simpa using h2 j x h
    · rw[List.getElem?_append_right (by omega)] at h
      have:=RowsAt.flat (cs:=cs) (off:=off+wd) (wd:=wd) (vals:=vals) (fun i r' h'=>by
        have:=hr (i+1) r' (by simpa using h')
        simpa [Nat.add_mul,Nat.add_assoc,Nat.add_comm,Nat.add_left_comm] using this) _ _ h
      rw[show off+wd+(j - r.length)=off+j by omega] at this
      exact this
theorem RowsAt.length {cs:Array Value}:∀ {off wd:Nat} {vals:List (List Value)},RowsAt cs off wd vals→vals.flatten.length=vals.length*wd
  | off,wd,[],_=>by simp
  | off,wd,r :: vals,hr=>by
    have h1:=(hr 0 r rfl).1
    have:=RowsAt.length (cs:=cs) (off:=off+wd) (wd:=wd) (vals:=vals) (fun i r' h'=>by
        have:=hr (i+1) r' (by simpa using h')
        simpa [Nat.add_mul,Nat.add_assoc,Nat.add_comm,Nat.add_left_comm] using this)
    simp[this,h1,Nat.add_mul,Nat.add_comm]
theorem ZdJ {wd:Nat}:∀ {vals:List (List Value)},(∀r∈vals,r.length=wd)→vals.flatten.length=vals.length*wd
 | [],_=>by simp
 | r :: vals,h=>by simp[ZdJ (vals:=vals) (fun r' h'=>h r' (by simp[h'])),h r (by simp),Nat.add_mul,Nat.add_comm]
theorem RowsAt.ofFlat {cs:Array Value}:∀ {off wd:Nat} {vals:List (List Value)},(∀r∈vals,r.length=wd)→(∀j x,vals.flatten[j]? =some x→cs[off+j]? =some x)→RowsAt cs off wd vals
  | off,wd,[],_,_=>fun i r h=>by simp at h
  | off,wd,r :: vals,hw,hf=>by
    have h0:=hw r (by simp)
    have ih:=RowsAt.ofFlat (cs:=cs) (off:=off+wd) (wd:=wd) (vals:=vals) (fun r' h'=>hw r' (by simp[h'])) (fun j x h=>by
      have:=hf (wd+j) x (by rw[List.flatten_cons,List.getElem?_append_right (by omega)];rw[show wd+j - r.length=j by omega];exact h)
      rwa [Nat.add_assoc])
    intro i r' h
    cases i with
    | zero =>
      simp at h;subst h
      exact⟨h0,fun j x hj=>by
        have hlt:j<r.length:=by
          rcases Nat.lt_or_ge j r.length with h | h
          · exact h
          · rw[List.getElem?_eq_none h] at hj;cases hj
        have:=hf j x (by rw[List.flatten_cons,List.getElem?_append_left hlt];exact hj)
        simpa using this⟩
    | succ i =>
      obtain⟨a,b⟩:=ih i r' (by simpa using h)
      exact⟨a,fun j x hj=>by
        have:=b j x hj
        rw[show off+(i+1)*wd+j=off+wd+i*wd+j by rw[Nat.add_mul];omega]
        exact this⟩
theorem RowsAt.drop {cs:Array Value} {off wd:Nat} {vals:List (List Value)} (h:RowsAt cs off wd vals) (n:Nat):RowsAt cs (off+n*wd) wd (vals.drop n):=by
  intro i r hr
  rw[List.getElem?_drop] at hr
  obtain⟨a,b⟩:=h _ _ hr
  exact⟨a,fun j x hj=>by
    have:=b j x hj
    rw[Nat.add_mul] at this
    rw[show off+n*wd+i*wd+j=off+(n*wd+i*wd)+j by omega]
    exact this⟩
theorem RowsAt.widths {cs:Array Value} {off wd:Nat} {vals:List (List Value)} (h:RowsAt cs off wd vals):∀r∈vals,r.length=wd:=by
 intro r hr
 obtain⟨i,hi⟩:=List.getElem?_of_mem hr
 exact (h i r hi).1
theorem widths_of {fz:Nat→Option Obj} {wd:Nat}:∀ {rows:List (List PV)} {vals:List (List Value)},PRepLL fz rows vals→(∀r∈rows,r.length=wd)→∀r∈vals,r.length=wd
 | [],_,h,_,r,hr=>by simp only[PRepLL] at h;subst h;cases hr
 | x :: xs,_,h,hw,r,hr=>by
  simp only[PRepLL] at h
  obtain⟨v,s,rfl,h1,h2⟩:=h
  cases hr with
  | head=>rw[h1.length];exact hw x (by simp)
  | tail _ hr=>exact widths_of h2 (fun r' h'=>hw r' (by simp[h'])) r hr
theorem ZgI {fz:Nat→Option Obj}:∀ {rows:List (List PV)} {vals:List (List Value)},PRepLL fz rows vals→(∀r∈rows,r.all PV.single=true)→∀v∈vals.flatten,v.oneCell'=true
 | [],_,h,_,v,hv=>by simp only[PRepLL] at h;subst h;cases hv
 | x :: xs,_,h,hw,v,hv=>by
  simp only[PRepLL] at h
  obtain⟨a,s,rfl,h1,h2⟩:=h
  rw[List.flatten_cons,List.mem_append] at hv
  rcases hv with hv | hv
  ·exact ZfL h1 (hw x (by simp)) v hv
  ·exact ZgI h2 (fun r' h'=>hw r' (by simp[h'])) v hv
theorem rowsOf_ok {g:G} {w:World} {H:Heap} {k:Nat} (hs:SimH g w H k) {x:AV} {v:Value} {rows:List (List PV)} (h:ARep g H k x v) (hr:rowsOf H x=some rows) {wd:Nat} (hw:∀r∈rows,r.length=wd) :
  ∃vals ba cap,PRepLL g.fz rows vals∧(∀r∈vals,r.length=wd)∧v= .slice ba rows.length cap∧rows.length≤top ∧
   (rows= []∨∃b off,ba=some ⟨b,off,none⟩∧∀j u,vals.flatten[j]? =some u→w.cell? ((⟨b,off,none⟩:Addr).add j)=some u):=by
 unfold rowsOf at hr
 split at hr
 ·cases hr
  simp only[ARep,PRep] at h
  obtain⟨hl,⟨rfl,ba,rfl⟩ | ⟨b,off,cap,wd',cs,t,fr,vals,rfl,hc,hf,hv,hat⟩⟩:=h
  ·exact⟨[],ba,0,by simp[PRepLL],by simp,rfl,by simp[top],.inl rfl⟩
  ·refine⟨vals,_,cap,hv,widths_of hv hw,rfl,hl,.inr ⟨b,off,rfl,fun j u hj=>?_⟩⟩
   rw[Zdv]
   simp[World.cell?,hs.fz b _ hf,hat.flat j u hj]
 ·cases hr
  have:=Zdm h
  subst this
  exact⟨[],none,0,by simp[PRepLL],by simp,rfl,by simp[top],.inl rfl⟩
 ·rename_i n off len
  split at hr
  ·rename_i rows' hrows
   split at hr
   ·rename_i hup
    cases hr
    simp only[ARep] at h
    obtain⟨hle,hos⟩:=h.2.2 rows' hrows
    obtain⟨ad,cap,rfl,hlc,hcap⟩:=hos hup
    obtain⟨_,ho',_⟩:=hs.obj n _ hrows
    simp only[ORep] at ho'
    obtain⟨o1,o2,o3,o4,o6,o5⟩:=ho'
    have hlen:(rows'.drop off).length=len:=by simp;omega
    rcases hcap with rfl | ⟨b,hb,hdrop,hocap,rfl⟩
    ·have:rows'.drop off= []:=List.eq_nil_of_length_eq_zero (by omega)
     rw[this]
     exact⟨[],ad,0,by simp[PRepLL],by simp,by simp[←hlen,this],by simp[top],.inl rfl⟩
    ·obtain⟨cs,t,vals,hw',hcap',hvals,hat,hsz⟩:=o5 b hb
     have hv2:=hvals.drop (off - (g.ρ n).drop)
     rw[List.drop_drop,show (g.ρ n).drop+(off - (g.ρ n).drop)=off by omega] at hv2
     refine⟨_,_,cap,hv2,widths_of hv2 hw,by rw[hlen],by simp only[List.length_drop];unfold lim at o1;unfold top;omega,.inr ⟨b,_,rfl,fun j u hj=>?_⟩⟩
     rw[Zdv]
     have:=(hat.drop (off - (g.ρ n).drop)).flat j u hj
     simp[World.cell?,hw',this]
   ·cases hr
  ·cases hr
 ·cases hr
theorem run_first {w:World} {rows:List (List PV)} {vals:List (List Value)} {ba:Option Addr} {cap wd:Nat} (hl:vals.length=rows.length) (hw:∀r∈vals,r.length=wd)
  (h:rows= []∨∃b off,ba=some ⟨b,off,none⟩∧∀j u,vals.flatten[j]? =some u→w.cell? ((⟨b,off,none⟩:Addr).add j)=some u) (len:Nat) :
  (Builtin.firstCells wd rows.length (.slice ba len cap)).run P w= .ok vals.flatten.toArray w:=by
 rcases h with rfl | ⟨b,off,rfl,h⟩
 ·have:vals= []:=List.eq_nil_of_length_eq_zero (by simpa using hl)
  subst this
  cases ba<;>simp[Builtin.firstCells,loadCells,loadCellsFrom]
 ·exact run_firstCells_some (P:=P) w wd rows.length _ len cap vals.flatten (by rw[ZdJ hw,hl]) h
theorem run_app {w:World} {e t u ty:TypeId} {i:TypeInfo} {z:Value} {wd bytes:Nat} (ht:P.underlying t=some (.slice e)) {e':TypeId} (hu:P.underlying u=some (.slice e')) (hi:P.info? e=some i) (hsz:i.size=wd) (hby:i.bytes=bytes) (hz:i.zero=some z)
  {olds news:List (List Value)} {ba:Option Addr} {bb:Option Addr} {sLen sCap m c:Nat}
  (hold:∀w',(∀a,w'.cell? a=w.cell? a)→(Builtin.firstCells wd sLen (.slice ba sLen sCap)).run P w'= .ok olds.flatten.toArray w')
  (hnew:∀w',(∀a,w'.cell? a=w.cell? a)→(Builtin.firstCells wd m (.slice bb m c)).run P w'= .ok news.flatten.toArray w')
  (hneed:sCap<sLen+m) (hb:(sLen+m)*bytes≤lim) (hl:sLen+m≤2*lim) :
  (Builtin.append_ #[t,u] ty #[.slice ba sLen sCap,.slice bb m c]).run P w =
   .ok (.slice (some ⟨w.heap.size,0,none⟩) (sLen+m) (grownCap w (sLen+m) sCap e))
    (w.drew.alloc (.cells (olds.flatten.toArray++news.flatten.toArray++Builtin.zeroCells z.cells (grownCap w (sLen+m) sCap e - (sLen+m))) e)):=by
 subst hsz hby
 have hn:¬(sLen+m≤sCap):=by omega
 have h63':¬(9223372036854775807<((sLen:Int)+(m:Int))):=by unfold lim at hl;omega
 have hfit:=growslice_fits (bytes:=i.bytes) hneed (by unfold lim at hb;exact hb)
 have h48':¬(281474976710656<Builtin.nextslicecap (sLen+m) sCap*i.bytes):=by omega
 have h1:=hold w.drew (fun _=>rfl)
 have h2:=hnew w.drew (fun _=>rfl)
 simp[Builtin.append_,run_underlying ht,run_underlying hu,sizeOf,typeInfo,zeroValue,hi,hz,Builtin.lenOf,hn,h63',h48',Question.forced,h1,h2,newRow,grownCap]
 congr 2
 apply Array.ext'
 simp[List.append_assoc]
theorem grown_top (w:World) (need old:Nat) (e:TypeId) (h:need≤9223372036854775807):grownCap w need old e≤top:=by
 have:=grownCap_le_maxLen w need old e h
 exact this
theorem grown_facts (w:World) (need old:Nat) (e:TypeId):need≤grownCap w need old e:=grownCap_ge w need old e
theorem RowsAt.grown {olds news:List (List Value)} {z:Array Value} {wd n:Nat} (ho:∀r∈olds,r.length=wd) (hn:∀r∈news,r.length=wd) :
  RowsAt (olds.flatten.toArray++news.flatten.toArray++Builtin.zeroCells z n) 0 wd (olds++news):=by
 refine RowsAt.ofFlat (fun r hr=>?_) (fun j x hj=>?_)
 ·rcases List.mem_append.1 hr with h | h
  ·exact ho r h
  ·exact hn r h
 ·rw[List.flatten_append] at hj
  have hlt:j<(olds.flatten++news.flatten).length:=by
   rcases Nat.lt_or_ge j (olds.flatten++news.flatten).length with h | h
   ·exact h
   ·rw[List.getElem?_eq_none h] at hj;cases hj
  rw[Nat.zero_add,Array.getElem?_append_left (by simpa using hlt)]
  simpa using hj
theorem da_size (w:World) (ob:Obj):(w.drew.alloc ob).heap.size=w.heap.size+1:=by
 show (w.heap.push ob).size=_
 simp
theorem da_new (w:World) (ob:Obj):(w.drew.alloc ob).heap[w.heap.size]? =some ob:=by
 show (w.heap.push ob)[w.heap.size]? =_
 simp
theorem da_old (w:World) (ob:Obj) {b:Nat} (h:b<w.heap.size):(w.drew.alloc ob).heap[b]? =w.heap[b]? :=by
 show (w.heap.push ob)[b]? =_
 simp[Array.getElem?_push,Nat.ne_of_lt h]
theorem s_append (args:Array Operand) (argTypes:Array TypeId):Sound P (.call {callee:= .builtin .append,args:=args,argTypes:=argTypes}):=by
  intro oo ho g w H k env a op v H' k' hs he hl hv
  simp only[lowOp,lowBuiltin] at hl
  split at hl
  · rename_i _ _ s x t u hargs hty hty1
    split at hl
    · rename_i e e' ht hu
      simp only[Option.bind_eq_bind,Option.bind_eq_some_iff,Option.map_eq_some_iff,Option.pure_def,Option.some.injEq] at hl
      obtain⟨wd,hwd,bytes,⟨i,hi,rfl⟩,zs,hz,s',h1,x',h2,rfl⟩:=hl
      obtain⟨i',z,hi',hz',hr⟩:=Zfg (fz:=g.fz) hz
      rw[hi] at hi';cases hi'
      have hisz:i.size=wd:=by simpa [sizeT,hi] using hwd
      have r1:=ZaR he h1
      have r2:=ZaR he h2
      have hargs':args= #[s,x]:=by apply Array.ext';simpa using hargs
      have hty':∃rest,argTypes=(t :: u :: rest).toArray:=by
        rcases argTypes with ⟨l⟩
        cases l with
        | nil=>simp at hty
        | cons p l=>cases l with
          | nil=>simp at hty1
          | cons q l=>simp at hty hty1;subst hty hty1;exact⟨l,rfl⟩
      obtain⟨rest,hty'⟩:=hty'
      have hexec:∀vs vx,a.eval s=vs→a.eval x=vx→(execOp a.eval oo).run P w=((Builtin.append_ #[t,u] oo.type #[vs,vx]).run P w).andThen fun v w'=> .ok (.value v) w':=by
        intro vs vx e1 e2
        subst e1 e2 hargs'
        simp only[execOp,ho,resolve,Sem.run_bind,Sem.run_pure,Result.andThen_ok,invoke,builtin,hty']
        simp[Builtin.append_]
      simp only[aop] at hv
      split at hv
      · rename_i new hnew
        split at hv
        · rename_i hc
          obtain⟨hzl,hc⟩:=hc
          have hzs:z.cells.size=wd:=by have:=hr.length;simp only[Array.length_toList] at this;omega
          obtain⟨nv,bb,c,n1,n2,hx,n4,n5⟩:=rowsOf_ok hs r2 hnew (fun r hr=>(hc r hr).1)
          have n6:=ZgI n1 (fun r hr=>(hc r hr).2)
          have hfirst:∀w',(∀a,w'.cell? a=w.cell? a)→(Builtin.firstCells wd new.length (.slice bb new.length c)).run P w'= .ok nv.flatten.toArray w':=by
            intro w' hw'
            refine run_first n1.length n2 ?_ _
            rcases n5 with h | ⟨b,off,h3,h4⟩
            · exact .inl h
            · exact .inr ⟨b,off,h3,fun j u hj=>by rw[hw'];exact h4 j u hj⟩
          split at hv
          ·
            rename_i hm
            rw[hm] at r1
            have hsv:=Zdm r1
            split at hv
            · rename_i hb
              simp only[Option.some.injEq,Prod.mk.injEq] at hv
              obtain⟨rfl,rfl,rfl⟩:=hv
              by_cases h0:new.length=0
              · have hnil:new= []:=List.eq_nil_of_length_eq_zero h0
                subst hnil
                have hnv:nv= []:=List.eq_nil_of_length_eq_zero (by simpa using n1.length)
                subst hnv
                have hrun:(execOp a.eval oo).run P w= .ok (.value (.slice none 0 0)) w:=by
                  rw[hexec _ _ hsv hx]
                  have:=hfirst w (fun _=>rfl)
                  simp[Builtin.append_,run_underlying ht,run_underlying hu,sizeOf,typeInfo,hi,Builtin.lenOf]
                  simp at this
                  simp[hisz,this]
                refine⟨{g with ρ:=fun m=>if m=k then ⟨none,0,0,0,wd,[]⟩ else g.ρ m},w,_,.inl hrun,?_,?_⟩
                · simp only[ARep]
                  refine⟨by simp,rfl,fun rows' h=>?_⟩
                  simp[Heap.get] at h;subst h
                  exact⟨by simp,fun _=>⟨none,0,rfl,by simp,.inl rfl⟩⟩
                · refine SimH.gen hs k (.slice []) (by omega) rfl (fun m e=>by simp[e]) (fun m e=>by simp[Heap.get,Ne.symm e]) (by simp[Heap.get]) (by omega) (fun o h=>?_) (fun _=>Nat.le_refl _) rfl rfl rfl (Nat.le_refl _)
                    (fun b hb _=>rfl) (fun b hb=>by simp[Loc.has] at hb) (fun hk=>by simp[ORep,lim])
                  have:=(hs.obj k o h).1;omega
              · have hrun:=run_app (P:=P) (w:=w) (ty:=oo.type) (olds:= []) (news:=nv) (ba:=none) (bb:=bb) (sLen:=0) (sCap:=0) (m:=new.length) (c:=c) ht hu hi hisz rfl hz'
                  (fun w' _=>by simp[Builtin.firstCells]) hfirst (by omega) (by simpa using hb.1) (by omega)
                simp only[Nat.zero_add] at hrun
                have hrun':=hexec _ _ hsv hx
                rw[hrun] at hrun'
                have hge:=grown_facts w new.length 0 e
                have hs':SimH g w.drew H k:=⟨fun n o h=>by
                    obtain⟨a1,a2,a3⟩:=hs.obj n o h
                    exact⟨a1,ORep.keeps (Keeps.refl g H k) rfl (fun _ _=>rfl) a2,a3⟩,hs.inj,hs.fz⟩
                have hrun'':(execOp a.eval oo).run P w= .ok (.value (.slice (some ⟨w.drew.heap.size,0,none⟩) new.length (grownCap w new.length 0 e))) {w.drew with heap:=w.drew.heap.push (.cells (([]:List (List Value)).flatten.toArray++nv.flatten.toArray++Builtin.zeroCells z.cells (grownCap w new.length 0 e - new.length)) e)}:=hrun'
                obtain⟨g',w',y,b1,b2,b3,b4⟩:=OpOK.new hs' (.cells (([]:List (List Value)).flatten.toArray++nv.flatten.toArray++Builtin.zeroCells z.cells (grownCap w new.length 0 e - new.length)) e) (.slice new) (newLoc new w.heap.size (grownCap w new.length 0 e) wd) (Zgm _ _ _ _) (.os k 0 new.length) _ hrun''
                  (fun g' h1 h2 hk=>ZfR (cs:=([]:List (List Value)).flatten.toArray++nv.flatten.toArray++Builtin.zeroCells z.cells (grownCap w new.length 0 e - new.length)) (vals:=nv) h1 hb.2 (fun r hr=>(hc r hr).1) ⟨hge,grown_top w _ _ e (by unfold lim at hb;omega)⟩ (PRepLL.mono hk.fz _ _ n1) (by simpa using RowsAt.grown (olds:= []) (news:=nv) (z:=z.cells) (n:=grownCap w new.length 0 e - new.length) (by simp) n2)
                    (by simp only[Array.size_append,List.size_toArray,size_zeroCells,hzs,ZdJ n2,n1.length,List.flatten_nil,List.length_nil,Nat.zero_add,←Nat.add_mul];exact Nat.mul_le_mul_right _ (by omega)))
                  (fun g' h1=>osRep_new (by omega) h1 (by simp[Heap.get]) rfl hge (fun h=>absurd (by rw[h];rfl) h0))
                exact⟨g',w',y,b1,b2,b3,{b4 with}⟩
            · cases hv
          ·
            rename_i n off len hm
            split at hv
            · rename_i rows hrows
              split at hv
              · rename_i hcc
                obtain⟨hup,hwid,hbound,hlim⟩:=hcc
                simp only[Option.some.injEq,Prod.mk.injEq] at hv
                obtain⟨rfl,rfl,rfl⟩:=hv
                rw[hm] at r1
                have hrs:rowsOf H (.os n off len)=some (rows.drop off):=by simp[rowsOf,hrows,hup]
                obtain⟨ov,oba,oc,p1,p2,p3,p4,p5⟩:=rowsOf_ok hs r1 hrs (fun r hr=>hwid r (List.mem_of_mem_drop hr))
                have hlen:(rows.drop off).length=len:=by simp;omega
                simp only[ARep] at r1
                obtain⟨hnk,hone,hos⟩:=r1
                obtain⟨hle,hos⟩:=hos rows hrows
                obtain⟨ad,cap,hsv,hlc,hcap⟩:=hos hup
                obtain⟨_,ho',hblk'⟩:=hs.obj n _ hrows
                simp only[ORep] at ho'
                obtain⟨o1,o2,o3,o4,o6,o5⟩:=ho'
                have hHn:(H.set n (.slice (rows++new))).get n=some (.slice (rows++new)):=by simp[Heap.get_set,hrows]
                have hHm:∀m,m≠n→(H.set n (.slice (rows++new))).get m=H.get m:=fun m e=>by simp[Heap.get_set,Ne.symm e]
                have hwid':∀r∈rows++new,r.length=wd:=fun r hr=>by
                  rcases List.mem_append.1 hr with h | h
                  · exact hwid r h
                  · exact (hc r h).1
                by_cases hroom:len+new.length≤cap
                ·
                  rcases hcap with hcap | ⟨b,hb,hdrop,hocap,rfl⟩
                  ·
                    have hn0:new.length=0:=by omega
                    have hnil:new= []:=List.eq_nil_of_length_eq_zero hn0
                    subst hnil
                    have hnv:nv= []:=List.eq_nil_of_length_eq_zero (by simpa using n1.length)
                    subst hnv
                    have hrun:(execOp a.eval oo).run P w= .ok (.value (.slice ad len cap)) w:=by
                      rw[hexec _ _ hsv hx]
                      have:=hfirst w (fun _=>rfl)
                      simp[Builtin.append_,run_underlying ht,run_underlying hu,sizeOf,typeInfo,hi,Builtin.lenOf,hlc]
                      simp at this
                      cases ad<;>simp[hisz,this,storeCells]
                    have hgen:=SimH.gen (g':=g) (w':=w) hs n (.slice (rows++ [])) (Nat.le_refl _) rfl (fun _ _=>rfl) hHm hHn hnk (fun o h=>by rw[hrows] at h;cases h;exact .inl ⟨rfl,by simp⟩) (fun h=>by rw[hrows] at h;cases h) rfl rfl rfl (Nat.le_refl _)
                      (fun _ _ _=>rfl) (fun b hb=>⟨.inl ⟨by rw[hrows];simp,hb⟩,(hblk' b hb).2⟩) (fun hk=>ORep.keeps hk rfl (fun _ _=>rfl) (by rw[List.append_nil];simp only[ORep];exact⟨o1,o2,o3,o4,o6,o5⟩))
                    refine⟨g,w,_,.inl hrun,?_,hgen⟩
                    simp only[ARep]
                    refine⟨hnk,rfl,fun rows' h=>?_⟩
                    rw[hHn] at h;cases h
                    exact⟨by simp;omega,fun _=>⟨ad,cap,rfl,hlc,.inl hcap⟩⟩
                  · obtain⟨cs,t',vals,hw',hcap',hvals,hat,hsz⟩:=o5 b hb
                    have hwd':(g.ρ n).w=wd:=by
                      cases hrw:rows with
                      | nil=>rw[o6 hrw] at hb;cases hb
                      | cons r rs=>rw[←o4 r (by rw[hrw];simp)];exact hwid r (by rw[hrw];simp)
                    rw[hwd'] at hat hsz hsv
                    have hvl:vals.length=rows.length - (g.ρ n).drop:=by rw[hvals.length];simp
                    have hfl:nv.flatten.length=new.length*wd:=by rw[ZdJ n2,n1.length]
                    have hpos:(g.ρ n).base+(off - (g.ρ n).drop)*wd+len*wd=(g.ρ n).base+(rows.length - (g.ρ n).drop)*wd:=by
                      rw[Nat.add_assoc,←Nat.add_mul];congr 2;omega
                    have hfit:(g.ρ n).base+(rows.length - (g.ρ n).drop)*wd+nv.flatten.length≤cs.size:=by
                      rw[hfl,Nat.add_assoc,←Nat.add_mul]
                      refine Nat.le_trans ?_ hsz
                      exact Nat.add_le_add_left (Nat.mul_le_mul_right _ (by omega)) _
                    have hst:=run_storeCells_at P b ((g.ρ n).base+(rows.length - (g.ρ n).drop)*wd) t' nv.flatten 0 cs w hw' (by simpa using hfit) n6
                    simp only[Nat.add_zero] at hst
                    have hrun:(execOp a.eval oo).run P w= .ok (.value (.slice (some ⟨b,(g.ρ n).base+(off - (g.ρ n).drop)*wd,none⟩) (len+new.length) cap))
                        (w.setRow b (cs.toList.take ((g.ρ n).base+(rows.length - (g.ρ n).drop)*wd)++nv.flatten++cs.toList.drop ((g.ρ n).base+(rows.length - (g.ρ n).drop)*wd+nv.flatten.length)).toArray):=by
                      rw[hexec _ _ hsv hx]
                      have hf:=hfirst w (fun _=>rfl)
                      simp only[Builtin.append_,List.getElem?_toArray,List.getElem?_cons_zero,List.getElem?_cons_succ,Sem.run_bind,run_underlying ht,run_underlying hu,Zc6 hwd,Result.andThen_ok,Builtin.lenOf,Sem.run_pure,Bool.false_eq_true,if_false,Sem.run_ite,if_pos hroom,Bool.not_false,if_true,hf,Zdv,hpos,hst]
                    have hgen:=SimH.put (w':=w.setRow b (cs.toList.take ((g.ρ n).base+(rows.length - (g.ρ n).drop)*wd)++nv.flatten++cs.toList.drop ((g.ρ n).base+(rows.length - (g.ρ n).drop)*wd+nv.flatten.length)).toArray)
                      hs (o':= .slice (rows++new)) hrows hb (by
                        simp only[Compat]
                        rcases Nat.eq_zero_or_pos new.length with h0 | h0
                        · exact .inl ⟨trivial,by simp[h0]⟩
                        · exact .inr (by simp;omega)) rfl rfl rfl (by simp) (fun b' hb'=>setRow_other w b b' _ hb') (fun hk=>by
                      simp only[ORep]
                      refine⟨by simpa using hlim,by simp;omega,fun _=>by rw[hb];simp,fun r hr=>by rw[hwd'];exact hwid' r hr,fun h=>?_,fun b' hb'=>?_⟩
                      · exact o6 (List.append_eq_nil_iff.1 h).1
                      · rw[hb] at hb';cases hb'
                        refine⟨_,t',vals++nv,setRow_heap w b cs _ t' _ hw',by simp;omega,?_,?_,?_⟩
                        · rw[List.drop_append_of_le_length (by omega)]
                          exact PRepLL.append (PRepLL.mono hk.fz _ _ hvals) (PRepLL.mono hk.fz _ _ n1)
                        · rw[hwd']
                          refine RowsAt.ofFlat (fun r hr=>?_) (fun j u hj=>?_)
                          · rcases List.mem_append.1 hr with h | h
                            · exact hat.widths r h
                            · exact n2 r h
                          · rw[List.flatten_append] at hj
                            rw[List.getElem?_toArray,seg_get _ _ _ _ (by simpa using hfit)]
                            have hvf:=hat.length
                            rw[hvl] at hvf
                            by_cases hjl:j<vals.flatten.length
                            · rw[List.getElem?_append_left hjl] at hj
                              rw[if_neg (by omega)]
                              simpa using hat.flat j u hj
                            · rw[List.getElem?_append_right (by omega)] at hj
                              have hjl2:j - vals.flatten.length<nv.flatten.length:=by
                                rcases Nat.lt_or_ge (j - vals.flatten.length) nv.flatten.length with h | h
                                · exact h
                                · rw[List.getElem?_eq_none h] at hj;cases hj
                              rw[if_pos (by omega)]
                              rw[show (g.ρ n).base+j - ((g.ρ n).base+(rows.length - (g.ρ n).drop)*wd)=j - vals.flatten.length by omega]
                              exact hj
                        · rw[hwd']
                          simp only[List.size_toArray,List.length_append,List.length_take,List.length_drop,Array.length_toList]
                          omega)
                    refine⟨g,_,_,.inl hrun,?_,hgen⟩
                    simp only[ARep]
                    refine⟨hnk,rfl,fun rows' h=>?_⟩
                    rw[hHn] at h;cases h
                    exact⟨by simp;omega,fun _=>⟨_,cap,rfl,hroom,.inr ⟨b,hb,hdrop,hocap,by rw[hwd']⟩⟩⟩
                ·
                  have hrun:=run_app (P:=P) (w:=w) (ty:=oo.type) (olds:=ov) (news:=nv) (ba:=ad) (bb:=bb) (sLen:=len) (sCap:=cap) (m:=new.length) (c:=c) ht hu hi hisz rfl hz'
                    (fun w' hw'=>by
                      rw[hsv] at p3
                      simp only[Value.slice.injEq] at p3
                      obtain⟨rfl,_,rfl⟩:=p3
                      have:=run_first (P:=P) (w:=w') (rows:=rows.drop off) (ba:=ad) (cap:=cap) p1.length p2 (by
                        rcases p5 with h | ⟨b,off',h3,h4⟩
                        · exact .inl h
                        · exact .inr ⟨b,off',h3,fun j u hj=>by rw[hw'];exact h4 j u hj⟩) len
                      rwa [hlen] at this) hfirst (by omega)
                    (Nat.le_trans (Nat.mul_le_mul_right _ (by omega)) hbound) (by omega)
                  have hrun':=hexec _ _ hsv hx
                  rw[hrun] at hrun'
                  have hge:=grown_facts w (len+new.length) cap e
                  have hdropa:(rows++new).drop off=rows.drop off++new:=List.drop_append_of_le_length (by omega)
                  have hgen:=SimH.gen (g':= {g with ρ:=fun m=>if m=n then ⟨some w.heap.size,0,off,off+grownCap w (len+new.length) cap e,wd,[]⟩ else g.ρ m}) (w':=w.drew.alloc (.cells (ov.flatten.toArray++nv.flatten.toArray++Builtin.zeroCells z.cells (grownCap w (len+new.length) cap e - (len+new.length))) e)) hs n (.slice (rows++new))
                    (Nat.le_refl _) rfl (fun m e=>by simp[e]) hHm hHn hnk (fun o h=>by rw[hrows] at h;cases h;exact .inr (by simp;omega)) (fun h=>by rw[hrows] at h;cases h) rfl rfl rfl (by rw[da_size];omega)
                    (fun b hb _=>da_old _ _ hb) (fun b hb=>by simp[Loc.has] at hb;subst hb;exact⟨.inr (Nat.le_refl _),by rw[da_size];omega⟩)
                    (fun hk=>by
                      simp only[ORep,if_true]
                      refine⟨by simpa using hlim,by simp;omega,fun _=>by simp,hwid',fun h=>?_,fun b hb=>?_⟩
                      · have h0:new.length=0:=by rw[(List.append_eq_nil_iff.1 h).2];rfl
                        omega
                      cases hb
                      refine⟨_,e,ov++nv,da_new _ _,⟨by simp;omega,by have:=grown_top w (len+new.length) cap e (by have hq:=hlim;unfold lim at hq;omega);omega⟩,?_,RowsAt.grown p2 n2,?_⟩
                      · rw[hdropa];exact PRepLL.append (PRepLL.mono hk.fz _ _ p1) (PRepLL.mono hk.fz _ _ n1)
                      · have hsz1:(ov.flatten.toArray++nv.flatten.toArray++Builtin.zeroCells z.cells (grownCap w (len+new.length) cap e - (len+new.length))).size=(len+new.length+(grownCap w (len+new.length) cap e - (len+new.length)))*wd:=by
                          simp only[Array.size_append,List.size_toArray,size_zeroCells,hzs,ZdJ n2,ZdJ p2,n1.length,p1.length,hlen,←Nat.add_mul]
                        rw[hsz1,Nat.zero_add]
                        exact Nat.mul_le_mul_right _ (by omega))
                  refine⟨_,_,_,.inl hrun',?_,hgen⟩
                  simp only[ARep]
                  refine⟨hnk,rfl,fun rows' h=>?_⟩
                  rw[hHn] at h;cases h
                  refine⟨by simp;omega,fun _=>⟨_,_,rfl,hge,.inr ⟨w.heap.size,?_⟩⟩⟩
                  simp
              · cases hv
            · cases hv
          · cases hv
        · cases hv
      · cases hv
    · cases hl
  · cases hl
end Go.Abs
namespace Go.Abs
open Go
variable {P:Program}
theorem s_len (args:Array Operand) (argTypes:Array TypeId):Sound P (.call {callee:= .builtin .len,args:=args,argTypes:=argTypes}):=by
  intro oo ho g w H k env a op v H' k' hs he hl hv
  simp only[lowOp,lowBuiltin] at hl
  split at hl
  · rename_i _ _ x t hargs hty
    have hargs':args= #[x]:=by apply Array.ext';simpa using hargs
    have hexec:∀vx,a.eval x=vx→(execOp a.eval oo).run P w=((Builtin.len_ argTypes oo.type #[vx]).run P w).andThen fun v w'=> .ok (.value v) w':=by
      intro vx e1
      subst e1 hargs'
      simp only[execOp,ho,resolve,Sem.run_bind,Sem.run_pure,Result.andThen_ok,invoke,builtin]
      simp
    split at hl
    ·
      rename_i ht
      simp only[Option.map_eq_some_iff] at hl
      obtain⟨y,h1,rfl⟩:=hl
      have r1:=ZaR he h1
      simp only[aop] at hv
      split at hv
      · rename_i s hm
        rw[hm] at r1
        simp only[Option.some.injEq,Prod.mk.injEq] at hv
        obtain⟨rfl,rfl,rfl⟩:=hv
        exact OpOK.same hs (x:=goInt s.size) (by rw[hexec _ (Zdm r1)];simp[Builtin.len_,hty,run_underlying ht]) (ZbZ _)
      · cases hv
    ·
      rename_i e ht
      simp only[Option.map_eq_some_iff] at hl
      obtain⟨y,h1,rfl⟩:=hl
      have r1:=ZaR he h1
      have fin:∀ {ba n c},a.eval x= .slice ba n c→(execOp a.eval oo).run P w= .ok (.value (goInt n)) w:=by
        intro ba n c hx
        rw[hexec _ hx];simp[Builtin.len_,hty,run_underlying ht]
      simp only[aop] at hv
      split at hv
      · rename_i rows hm
        rw[hm] at r1
        simp only[Option.some.injEq,Prod.mk.injEq] at hv
        obtain⟨rfl,rfl,rfl⟩:=hv
        simp only[ARep,PRep] at r1
        rcases r1.2 with ⟨rfl,ba,hx⟩ | ⟨b,off,cap,wd',cs,t',fr,vals,hx,_⟩
        · exact OpOK.same hs (fin hx) (ZbZ _)
        · exact OpOK.same hs (fin hx) (ZbZ _)
      · rename_i hm
        rw[hm] at r1
        simp only[Option.some.injEq,Prod.mk.injEq] at hv
        obtain⟨rfl,rfl,rfl⟩:=hv
        exact OpOK.same hs (fin (Zdm r1)) (ZbZ _)
      · rename_i n off len hm
        rw[hm] at r1
        split at hv
        · rename_i rows hrows
          split at hv
          · rename_i hup
            simp only[Option.some.injEq,Prod.mk.injEq] at hv
            obtain⟨rfl,rfl,rfl⟩:=hv
            simp only[ARep] at r1
            obtain⟨hle,hos⟩:=r1.2.2 rows hrows
            obtain⟨ad,cap,hx,_⟩:=hos hup
            exact OpOK.same hs (fin hx) (ZbZ _)
          · cases hv
        · cases hv
      · cases hv
    ·
      rename_i kt e ht
      simp only[Option.map_eq_some_iff] at hl
      obtain⟨y,h1,rfl⟩:=hl
      have r1:=ZaR he h1
      simp only[aop] at hv
      split at hv
      · rename_i n hm
        rw[hm] at r1
        split at hv
        · rename_i es hes
          simp only[Option.some.injEq,Prod.mk.injEq] at hv
          obtain⟨rfl,rfl,rfl⟩:=hv
          simp only[ARep] at r1
          obtain⟨b,hb,hx⟩:=r1.2.2 es hes
          obtain⟨_,ho',_⟩:=hs.obj n _ hes
          simp only[ORep] at ho'
          obtain⟨b',ms,clock,hb',hw,hm1,hm2⟩:=ho'
          rw[hb] at hb';cases hb'
          have:=hm1.pairs.length
          simp only[List.length_map,Array.length_toList] at this
          refine OpOK.same hs (x:=goInt es.length) ?_ (ZbZ _)
          rw[hexec _ hx];simp[Builtin.len_,hty,run_underlying ht,getObj,Sem.run,hw,this]
        · cases hv
      · rename_i hm
        rw[hm] at r1
        simp only[Option.some.injEq,Prod.mk.injEq] at hv
        obtain⟨rfl,rfl,rfl⟩:=hv
        refine OpOK.same hs (x:=goInt 0) ?_ (ZbZ _)
        rw[hexec _ (Zdm r1)];simp[Builtin.len_,hty,run_underlying ht]
      · rename_i es hm
        rw[hm] at r1
        simp only[Option.some.injEq,Prod.mk.injEq] at hv
        obtain⟨rfl,rfl,rfl⟩:=hv
        simp only[ARep,PRep] at r1
        obtain⟨b,ms,clock,hx,hf,hm1⟩:=r1
        have:=hm1.length
        simp only[List.length_map,Array.length_toList] at this
        have hw:=hs.fz _ _ hf
        refine OpOK.same hs (x:=goInt es.length) ?_ (ZbZ _)
        rw[hexec _ hx];simp[Builtin.len_,hty,run_underlying ht,getObj,Sem.run,hw,this]
      · cases hv
    · cases hl
  · cases hl
theorem aint64s {g:G} {H:Heap} {k:Nat} {ev:RX→AV}:∀ {l:List RX} {vs:List Value} {zs:List Int},ARepL g H k (l.map ev) vs→l.mapM (fun x=>aint64 (ev x))=some zs→vs=zs.map (.int .i64)
 | [],vs,zs,h,hz=>by simp only[List.map_nil,ARepL] at h;simp at hz;subst h hz;rfl
 | x :: l,vs,zs,h,hz=>by
  simp only[List.map_cons,ARepL] at h
  obtain⟨v,r,rfl,h1,h2⟩:=h
  simp only[List.mapM_cons,Option.bind_eq_bind,Option.bind_eq_some_iff,Option.pure_def,Option.some.injEq] at hz
  obtain⟨z,hz1,zs',hz2,rfl⟩:=hz
  rw[aint64s h2 hz2]
  unfold aint64 at hz1
  split at hz1
  ·rename_i n hm
   cases hz1
   rw[hm] at h1
   rw[Zdm h1];rfl
  ·cases hz1
theorem fold_min2 (w:World):∀(r:List Int) (z:Int),((r.map (Value.int .i64)).foldlM Builtin.min2 (.int .i64 z)).run P w= .ok (.int .i64 (r.foldl (fun a b=>if b<a then b else a) z)) w
 | [],z=>by simp
 | b :: r,z=>by simp[Builtin.min2,fold_min2 w r]
theorem fold_max2 (w:World):∀(r:List Int) (z:Int),((r.map (Value.int .i64)).foldlM Builtin.max2 (.int .i64 z)).run P w= .ok (.int .i64 (r.foldl (fun a b=>if a<b then b else a) z)) w
 | [],z=>by simp
 | b :: r,z=>by simp[Builtin.max2,fold_max2 w r]
theorem s_min (args:Array Operand) (argTypes:Array TypeId):Sound P (.call {callee:= .builtin .min,args:=args,argTypes:=argTypes}):=by
 intro oo ho g w H k env a op v H' k' hs he hl hv
 simp only[lowOp,lowBuiltin,Option.map_eq_some_iff] at hl
 obtain⟨l,h1,rfl⟩:=hl
 have r1:=Zef he h1
 simp only[aop] at hv
 split at hv
 ·rename_i z r hz
  simp only[Option.some.injEq,Prod.mk.injEq] at hv
  obtain⟨rfl,rfl,rfl⟩:=hv
  have e:=aint64s r1 hz
  refine OpOK.same hs ?_ (ZbZ _)
  have e':(Array.map a.eval args).toList=Value.int .i64 z :: r.map (Value.int .i64):=by simpa using e
  simp only[execOp,ho,resolve,Sem.run_bind,Sem.run_pure,Result.andThen_ok,invoke,builtin,Builtin.min_,e',fold_min2]
 ·cases hv
theorem s_max (args:Array Operand) (argTypes:Array TypeId):Sound P (.call {callee:= .builtin .max,args:=args,argTypes:=argTypes}):=by
 intro oo ho g w H k env a op v H' k' hs he hl hv
 simp only[lowOp,lowBuiltin,Option.map_eq_some_iff] at hl
 obtain⟨l,h1,rfl⟩:=hl
 have r1:=Zef he h1
 simp only[aop] at hv
 split at hv
 ·rename_i z r hz
  simp only[Option.some.injEq,Prod.mk.injEq] at hv
  obtain⟨rfl,rfl,rfl⟩:=hv
  have e:=aint64s r1 hz
  refine OpOK.same hs ?_ (ZbZ _)
  have e':(Array.map a.eval args).toList=Value.int .i64 z :: r.map (Value.int .i64):=by simpa using e
  simp only[execOp,ho,resolve,Sem.run_bind,Sem.run_pure,Result.andThen_ok,invoke,builtin,Builtin.max_,e',fold_max2]
 ·cases hv
theorem s_makeMap (t:TypeId):Sound P (.makeMap t none):=by
 intro oo ho g w H k env a op v H' k' hs he hl hv
 simp only[lowOp,Option.some.injEq] at hl
 subst hl
 simp only[aop,Option.some.injEq,Prod.mk.injEq] at hv
 obtain⟨rfl,rfl,rfl⟩:=hv
 refine OpOK.new hs (.map #[] 0) _ ⟨some w.heap.size,0,0,0,0,[]⟩ (.inl rfl) _ (.map (some w.heap.size)) ?_ (fun g' h1 h2 hk=>?_) (fun g' h1=>?_)
 ·simp[execOp,ho,Instr.makeMap]
 ·simp only[ORep]
  exact⟨w.heap.size,#[],0,by rw[h1],push_get w _,by simp[MRep],by simp⟩
 ·simp only[ARep]
  exact⟨by omega,rfl,fun cs _=>⟨_,by rw[h1],rfl⟩⟩
def FK.fits:FK→TypeDesc→Prop
 | .int,.int _=>True
 | .str,.string=>True
 | .bool,.bool=>True
 | _,_=>False
theorem fkT_desc {t:TypeId} {q:FK} (h:fkT P t=some q):∃d,P.underlying t=some d∧q.fits d:=by
 unfold fkT at h
 split at h<;>simp only[Option.some.injEq,reduceCtorEq] at h
 all_goals (subst h;refine⟨_,by assumption,?_⟩;exact trivial)
theorem sameNow_eq {q:FK} {d:TypeDesc} {a b:Value} {r:Bool} (hq:q.fits d) (h:flatEq q a b=some r):Instr.sameNow d a b=some r:=by
 unfold flatEq at h
 split at h
 ·cases d<;>simp only[FK.fits] at hq
  split at h
  ·rename_i e;cases h;simp[Instr.sameNow,e]
  ·cases h
 ·cases d<;>simp only[FK.fits] at hq
  cases h;rfl
 ·cases d<;>simp only[FK.fits] at hq
  cases h;rfl
 ·cases h
theorem ZgH {t:TypeId} {q:FK} (h:fkT P t=some q) (e:Bool) (n:Nat) (v:Value) (w:World):(Instr.checkKey e (n+1) t v).run P w= .ok () w:=by
 unfold fkT at h
 split at h<;>simp only[Option.some.injEq,reduceCtorEq] at h
 all_goals (rename_i ht;simp[Instr.checkKey,run_underlying ht])
theorem Zft {cs:Array Value} {fz:Nat→Option Obj} {e:Bool} {n:Nat} {w:World}:∀(fs:List Field) (off:Nat) (qs:List FK) (as:List PV),flatFields P fs off=some qs→PRepL fz as (cs.toList.drop off)→as.length=qs.length →
    (forIn fs PUnit.unit fun f (_ : PUnit) => if f.name ≠ "_" then do
              let x←part f.type cs f.offset
              Instr.checkKey e (n+1) f.type x
              pure (ForInStep.yield PUnit.unit)
            else pure (ForInStep.yield PUnit.unit):Sem PUnit).run P w= .ok PUnit.unit w
  | [],_,_,_,_,_,_=>by simp
  | f :: fs,off,qs,as,hf,ha,hl=>by
    simp only[flatFields] at hf
    split at hf
    · rename_i hc
      obtain⟨hoff,hname,hsz⟩:=hc
      split at hf
      · rename_i q qs' hq hqs
        cases hf
        cases as with
        | nil=>simp at hl
        | cons a as =>
          simp only[PRepL] at ha
          obtain⟨u,r,e1,_,h1⟩:=ha
          have g1:cs[off]? =some u:=by
            have:=congrArg (fun l=>l[0]?) e1
            simpa using this
          have d1:cs.toList.drop (off+1)=r:=by
            have:=congrArg (List.drop 1) e1
            simpa [List.drop_drop,Nat.add_comm] using this
          have p1:(part f.type cs f.offset).run P w= .ok u w:=by simp[part,ZdI (fkT_agg hq),hoff,g1]
          have p2:=ZgH (P:=P) hq e n u w
          have ih:=Zft (e:=e) (n:=n) (w:=w) (cs:=cs) (fz:=fz) fs (off+1) qs' as hqs (by rw[d1];exact h1) (by simpa using hl)
          simp only[List.forIn_cons,Sem.run_bind,hname,ne_eq,not_false_eq_true,if_true,p1,p2,Result.andThen_ok,Sem.run_pure]
          exact ih
      · cases hf
    · cases hf
theorem keyT_cases {t:TypeId} {q:KQ} (h:keyT P t=some q):(∃f,q= .one f∧fkT P t=some f)∨∃qs,q= .many qs∧eqable P t=some qs:=by
 unfold keyT at h
 split at h
 ·cases h;exact .inl ⟨_,rfl,by assumption⟩
 ·simp only[Option.map_eq_some_iff] at h
  obtain⟨qs,h1,rfl⟩:=h
  exact .inr ⟨qs,rfl,h1⟩
theorem Zfl {t:TypeId} {qs:List FK} (h:eqable P t=some qs):∃fs,P.underlying t=some (.struct fs)∧P.stoodInHeld t=false∧flatFields P fs.toList 0=some qs:=by
 unfold eqable at h
 split at h
 ·rename_i fs hfs
  split at h
  ·rename_i hc;exact⟨fs,hfs,hc.1,h⟩
  ·cases h
 ·cases h
theorem run_checkK {t:TypeId} {q:KQ} (h:keyT P t=some q) {fz:Nat→Option Obj} {kx:PV} {kv:Value} (hk:PRep fz kx kv) (ho:keyOk q kx=true) (e:Bool) (w:World):(Instr.checkKey e 10000 t kv).run P w= .ok () w:=by
 rcases keyT_cases h with ⟨f,rfl,hf⟩ | ⟨qs,rfl,hq⟩
 ·exact ZgH hf e 9999 kv w
 ·obtain⟨fs,hfs,_,hff⟩:=Zfl hq
  cases kx<;>simp only[keyOk,Bool.false_eq_true] at ho
  rename_i as
  simp only[PRep] at hk
  obtain⟨vs,rfl,hl⟩:=hk
  rw[Instr.checkKey]
  simp only[Sem.run_bind,run_underlying hfs,Result.andThen_ok]
  rw[←Array.forIn_toList]
  have:=Zft (P:=P) (e:=e) (n:=9998) (w:=w) (cs:=vs) fs.toList 0 qs as hff (by simpa using hl) (by simpa using ho)
  rw[this];simp
def kscan (q:KQ) (key:PV):List (PV × PV)→Nat→Option (Option Nat)
 | [],_=>some none
 | e :: r,i=>match keyEq q key e.1 with
  | some true=>some (some i)
  | some false=>kscan q key r (i+1)
  | none=>none
theorem mfind_scan {q:KQ} {key:PV}:∀ {es:List (PV × PV)} {r:Option PV} (i:Nat),mfind q key es=some r→∃o,kscan q key es i=some o∧match o with
  | none=>r=none
  | some j=>i≤j∧∃e,es[j - i]? =some e∧r=some e.2
 | [],r,i,h=>by simp only[mfind,Option.some.injEq] at h;exact⟨none,rfl,h.symm⟩
 | e :: es,r,i,h=>by
  simp only[mfind] at h
  simp only[kscan]
  split at h
  ·rename_i hk;rw[hk];cases h
   exact⟨some i,rfl,Nat.le_refl _,e,by simp,rfl⟩
  ·rename_i hk;rw[hk]
   obtain⟨o,h1,h2⟩:=mfind_scan (i+1) h
   refine⟨o,h1,?_⟩
   cases o with
   | none=>exact h2
   | some j =>
    obtain⟨h3,e',h4,h5⟩:=h2
    exact⟨by omega,e',by rw[show j - i=(j - (i+1))+1 by omega];simpa using h4,h5⟩
  ·cases h
theorem mput_scan {q:KQ} {key x:PV}:∀ {es es':List (PV × PV)} (i:Nat),mput q key x es=some es'→∃o,kscan q key es i=some o∧match o with
  | none=>es'=es++ [(key,x)]
  | some j=>i≤j∧∃e,es[j - i]? =some e∧keyEq q key e.1=some true∧es'=es.set (j - i) (key,x)
 | [],es',i,h=>by simp only[mput,Option.some.injEq] at h;exact⟨none,rfl,h.symm⟩
 | e :: es,es',i,h=>by
  simp only[mput] at h
  simp only[kscan]
  split at h
  ·rename_i hk;rw[hk];cases h
   exact⟨some i,rfl,Nat.le_refl _,e,by simp,hk,by simp⟩
  ·rename_i hk;rw[hk]
   simp only[Option.map_eq_some_iff] at h
   obtain⟨es2,h,rfl⟩:=h
   obtain⟨o,h1,h2⟩:=mput_scan (i+1) h
   refine⟨o,h1,?_⟩
   cases o with
   | none=>simp only at h2 ⊢;rw[h2];rfl
   | some j =>
    obtain⟨h3,e',h4,h5,h6⟩:=h2
    refine⟨by omega,e',by rw[show j - i=(j - (i+1))+1 by omega];simpa using h4,h5,?_⟩
    rw[h6,show j - i=(j - (i+1))+1 by omega];rfl
  ·cases h
theorem keyEq_one {q:FK} {kx ek:PV} {b:Bool} (h:keyEq (.one q) kx ek=some b):∃a c,kx= .c a∧ek= .c c∧flatEq q a c=some b:=by
 unfold keyEq at h
 split at h
 ·rename_i e
  cases e
  exact⟨_,_,rfl,rfl,h⟩
 ·rename_i e
  cases e
 ·cases h
theorem keyEq_many {qs:List FK} {kx ek:PV} {b:Bool} (h:keyEq (.many qs) kx ek=some b):∃as bs,kx= .agg as∧ek= .agg bs∧cellsEq qs as bs=some b:=by
 unfold keyEq at h
 split at h
 ·rename_i e
  cases e
 ·rename_i e
  cases e
  exact⟨_,_,rfl,rfl,h⟩
 ·cases h
theorem scan_now {fz:Nat→Option Obj} {q:FK} {d:TypeDesc} (hq:q.fits d) {kx:PV} {kv:Value} (hk:PRep fz kx kv):∀ {es:List (PV × PV)} {ms:List MapEntry} {o:Option Nat} (i:Nat),PRepM fz es (ms.map fun m=>(m.key,m.val))→kscan (.one q) kx es i=some o →
  Instr.findNow d kv ms i=some (o.bind fun j=>(ms[j - i]?).map fun m=>(j,m.val))∧∀j,o=some j→i≤j
 | [],ms,o,i,h,hf=>by
  simp only[PRepM,List.map_eq_nil_iff] at h;subst h
  simp only[kscan,Option.some.injEq] at hf;subst hf
  exact⟨rfl,fun j h=>by cases h⟩
 | (ek,ev) :: es,[],o,i,h,hf=>by simp[PRepM] at h
 | (ek,ev) :: es,m :: ms',o,i,h,hf=>by
  simp only[PRepM,List.map_cons,List.cons.injEq,Prod.mk.injEq] at h
  obtain⟨ka,va,r',⟨⟨e1,e2⟩,e3⟩,h1,h2,h4⟩:=h
  subst e1 e2 e3
  simp only[kscan] at hf
  have hsame:∀b,keyEq (.one q) kx ek=some b→Instr.sameNow d kv m.key=some b:=by
   intro b hb
   obtain⟨a,c,rfl,rfl,hb⟩:=keyEq_one hb
   simp only[PRep] at hk h1
   rw[hk,h1];exact sameNow_eq hq hb
  split at hf
  ·rename_i hk'
   cases hf
   exact⟨by simp[Instr.findNow,hsame _ hk'],fun j h=>by cases h;exact Nat.le_refl _⟩
  ·rename_i hk'
   obtain⟨ih1,ih2⟩:=scan_now hq hk (i+1) h4 hf
   have hstep:Instr.findNow d kv (m :: ms') i=Instr.findNow d kv ms' (i+1):=by simp[Instr.findNow,hsame _ hk']
   refine⟨?_,fun j h=>by have:=ih2 j h;omega⟩
   rw[hstep,ih1]
   cases o with
   | none=>rfl
   | some j =>
    have:=ih2 j rfl
    simp only[Option.bind_some]
    rw[show j - i=(j - (i+1))+1 by omega];simp
  ·cases hf
theorem equal_many {t:TypeId} {qs:List FK} (hq:eqable P t=some qs) {fz:Nat→Option Obj} {as bs:List PV} {xs ys:Array Value} (h1:PRepL fz as xs.toList) (h2:PRepL fz bs ys.toList) {r:Bool} (hr:cellsEq qs as bs=some r) (w:World) :
  (Op.equal t (.agg xs) (.agg ys)).run P w= .ok r w:=by
 obtain⟨fs,hfs,hst,hff⟩:=Zfl hq
 have hfo:P.fieldsOf t=fs:=by simp[Program.fieldsOf,hfs]
 show (Op.equalIn 10000 t (.agg xs) (.agg ys)).run P w= .ok r w
 rw[run_equalIn_struct w 9999 t xs ys (by rw[hfo];exact hfs) hst,hfo]
 exact ZeU (d:=9998) fs.toList 0 qs as bs r hff (by simpa using h1) (by simpa using h2) hr
theorem scan_ask {t:TypeId} {qs:List FK} (hq:eqable P t=some qs) {fz:Nat→Option Obj} {kx:PV} {kv:Value} (hk:PRep fz kx kv) (w:World):∀ {es:List (PV × PV)} {ms:List MapEntry} {o:Option Nat} (i:Nat),PRepM fz es (ms.map fun m=>(m.key,m.val))→kscan (.many qs) kx es i=some o →
  (Instr.findAsking t kv ms i).run P w= .ok (o.bind fun j=>(ms[j - i]?).map fun m=>(j,m.val)) w∧∀j,o=some j→i≤j
 | [],ms,o,i,h,hf=>by
  simp only[PRepM,List.map_eq_nil_iff] at h;subst h
  simp only[kscan,Option.some.injEq] at hf;subst hf
  exact⟨by simp[Instr.findAsking],fun j h=>by cases h⟩
 | (ek,ev) :: es,[],o,i,h,hf=>by simp[PRepM] at h
 | (ek,ev) :: es,m :: ms',o,i,h,hf=>by
  simp only[PRepM,List.map_cons,List.cons.injEq,Prod.mk.injEq] at h
  obtain⟨ka,va,r',⟨⟨e1,e2⟩,e3⟩,h1,h2,h4⟩:=h
  subst e1 e2 e3
  simp only[kscan] at hf
  have hsame:∀b,keyEq (.many qs) kx ek=some b→(Op.equal t kv m.key).run P w= .ok b w:=by
   intro b hb
   obtain⟨as,bs,rfl,rfl,hb⟩:=keyEq_many hb
   simp only[PRep] at hk h1
   obtain⟨xs,rfl,g1⟩:=hk
   obtain⟨ys,e5,g2⟩:=h1
   rw[e5]
   exact equal_many hq g1 g2 hb w
  split at hf
  ·rename_i hk'
   cases hf
   exact⟨by simp[Instr.findAsking,hsame _ hk'],fun j h=>by cases h;exact Nat.le_refl _⟩
  ·rename_i hk'
   obtain⟨ih1,ih2⟩:=scan_ask hq hk w (i+1) h4 hf
   refine⟨?_,fun j h=>by have:=ih2 j h;omega⟩
   simp only[Instr.findAsking,Sem.run_bind,hsame _ hk',Result.andThen_ok,Bool.false_eq_true,if_false,ih1]
   cases o with
   | none=>rfl
   | some j =>
    have:=ih2 j rfl
    simp only[Option.bind_some]
    rw[show j - i=(j - (i+1))+1 by omega];simp
  ·cases hf
theorem run_findKey {kt:TypeId} {d:TypeDesc} (hd:P.underlying kt=some d) {kv:Value} {ms:List MapEntry} {fr:Option (Nat × Value)} (hf:Instr.findNow d kv ms 0=some fr) (w:World):(Instr.findKey kt kv ms).run P w= .ok fr w:=by
 simp[Instr.findKey,run_underlying hd,hf]
theorem findKey_struct {t:TypeId} {fs:Array Field} (hu:P.underlying t=some (.struct fs)) (x:Value) (es:List MapEntry) (w:World):(Instr.findKey t x es).run P w=(Instr.findAsking t x es).run P w:=by
 cases es with
 | nil=>simp[Instr.findKey,run_underlying hu,Instr.findNow,Instr.findAsking]
 | cons e es=>simp[Instr.findKey,run_underlying hu,Instr.findNow,Instr.sameNow]
theorem run_scan {kt:TypeId} {q:KQ} (hq:keyT P kt=some q) {fz:Nat→Option Obj} {kx:PV} {kv:Value} (hk:PRep fz kx kv) {es:List (PV × PV)} {ms:List MapEntry} {o:Option Nat} (h:PRepM fz es (ms.map fun m=>(m.key,m.val))) (hs:kscan q kx es 0=some o) (w:World) :
  (Instr.findKey kt kv ms).run P w= .ok (o.bind fun j=>(ms[j]?).map fun m=>(j,m.val)) w:=by
 rcases keyT_cases hq with ⟨f,rfl,hf⟩ | ⟨qs,rfl,hq'⟩
 ·obtain⟨d,hd,hqd⟩:=fkT_desc hf
  have:=(scan_now hqd hk 0 h hs).1
  simp only[Nat.sub_zero] at this
  exact run_findKey hd this w
 ·obtain⟨fs,hfs,_,_⟩:=Zfl hq'
  rw[findKey_struct hfs,(scan_ask hq' hk w 0 h hs).1]
  simp
theorem run_lookup {t kt e:TypeId} (ht:P.underlying t=some (.map kt e)) {w:World} {mv kv z:Value} (hz:(zeroValue e).run P w= .ok z w) {es':Array MapEntry} {fr:Option (Nat × Value)}
  (hm:(mv= .map none∧es'= #[])∨∃b clock,mv= .map (some b)∧w.heap[b]? =some (.map es' clock)) (hck:(Instr.checkKey es'.isEmpty 10000 kt kv).run P w= .ok () w) (hfk:(Instr.findKey kt kv es'.toList).run P w= .ok fr w) (ok:Bool) :
  (Instr.lookup t mv kv ok).run P w= .ok (if ok then .tuple #[(fr.map (·.2)).getD z,.bool fr.isSome] else (fr.map (·.2)).getD z) w:=by
 rcases hm with ⟨rfl,rfl⟩ | ⟨b,clock,rfl,hb⟩
 ·simp only[Instr.lookup,Sem.run_bind,run_underlying ht,Result.andThen_ok,Sem.run_pure,hck,hfk]
  cases fr with
  | none=>simp[hz]
  | some x=>obtain⟨j,v⟩:=x;simp
 ·have hg:(getObj b).run P w= .ok (.map es' clock) w:=by simp[getObj,Sem.run,hb]
  simp only[Instr.lookup,Sem.run_bind,run_underlying ht,Result.andThen_ok,hg,Sem.run_pure,hck,hfk]
  cases fr with
  | none=>simp[hz]
  | some x=>obtain⟨j,v⟩:=x;simp
theorem PRepM.at {fz:Nat→Option Obj}:∀ {es:List (PV × PV)} {ms:List MapEntry},PRepM fz es (ms.map fun m=>(m.key,m.val))→∀ {j:Nat} {e:PV × PV},es[j]? =some e→∃v,(ms[j]?).map (fun m=>(j,m.val))=some (j,v)∧PRep fz e.2 v
 | [],_,_,j,e,he=>by simp at he
 | (ek,ev) :: es,[],h,j,e,he=>by simp[PRepM] at h
 | (ek,ev) :: es,m :: ms,h,j,e,he=>by
  simp only[PRepM,List.map_cons,List.cons.injEq,Prod.mk.injEq] at h
  obtain⟨ka,va,r',⟨⟨e1,e2⟩,e3⟩,h1,h2,h4⟩:=h
  subst e1 e2 e3
  cases j with
  | zero=>simp only[List.getElem?_cons_zero,Option.some.injEq] at he;subst he;exact⟨m.val,rfl,h2⟩
  | succ j =>
   obtain⟨v,h5,h6⟩:=PRepM.at h4 (j:=j) (by simpa using he)
   refine⟨v,?_,h6⟩
   simp only[List.getElem?_cons_succ]
   cases hm:ms[j]? with
   | none=>rw[hm] at h5;cases h5
   | some m'=>rw[hm] at h5;simpa using h5
theorem s_lookup (t:TypeId) (m key:Operand) (ok:Bool):Sound P (.lookup t m key ok):=by
 intro oo ho g w H k env a op v H' k' hs he hl hv
 simp only[lowOp] at hl
 split at hl
 ·rename_i kt e ht
  simp only[Option.bind_eq_bind,Option.bind_eq_some_iff,Option.pure_def,Option.some.injEq] at hl
  obtain⟨q,hq,zero,hz,m',h1,key',h2,rfl⟩:=hl
  have r1:=ZaR he h1
  have r2:=ZaR he h2
  simp only[zeroV,Option.bind_eq_some_iff] at hz
  obtain⟨z,⟨i,hi,hz0⟩,hz1⟩:=hz
  have hzero:(zeroValue e).run P w= .ok z w:=by simp[zeroValue,typeInfo,hi,hz0]
  have hzr:PRep g.fz zero z:=ofValue_rep hz1
  simp only[aop] at hv
  split at hv
  ·rename_i kx hk
   rw[hk] at r2
   simp only[ARep] at r2
   split at hv
   rotate_left 1
   ·cases hv
   rename_i hko
   split at hv
   ·rename_i es hes
    split at hv
    ·rename_i r hr
     simp only[Option.some.injEq,Prod.mk.injEq] at hv
     obtain⟨rfl,rfl,rfl⟩:=hv
     have hent:∃es':Array MapEntry,((a.eval m= .map none∧es'= #[])∨∃b clock,a.eval m= .map (some b)∧w.heap[b]? =some (.map es' clock))∧PRepM g.fz es (es'.toList.map fun m=>(m.key,m.val)):=by
      split at hes
      ·rename_i n hm
       rw[hm] at r1
       split at hes
       ·rename_i es0 hes0
        cases hes
        simp only[ARep] at r1
        obtain⟨b,hb,hx⟩:=r1.2.2 es hes0
        obtain⟨_,ho',_⟩:=hs.obj n _ hes0
        simp only[ORep] at ho'
        obtain⟨b',ms,clock,hb',hw,hm1,hm2⟩:=ho'
        rw[hb] at hb';cases hb'
        exact⟨ms,.inr ⟨b,clock,hx,hw⟩,hm1.pairs⟩
       ·cases hes
      ·rename_i hm
       rw[hm] at r1
       cases hes
       exact⟨#[],.inl ⟨Zdm r1,rfl⟩,by simp[PRepM]⟩
      ·rename_i es0 hm
       rw[hm] at r1
       cases hes
       simp only[ARep,PRep] at r1
       obtain⟨b,ms,clock,hx,hf,hm1⟩:=r1
       exact⟨ms,.inr ⟨b,clock,hx,hs.fz _ _ hf⟩,hm1⟩
      ·cases hes
     obtain⟨es',hm,hmr⟩:=hent
     obtain⟨o,hsc,hso⟩:=mfind_scan 0 hr
     have hfk:=run_scan (P:=P) hq r2 hmr hsc w
     have hck:=run_checkK (P:=P) hq r2 hko es'.isEmpty w
     obtain⟨fr,hfr,hrep,hsome⟩:∃fr:Option (Nat × Value),(o.bind fun j=>(es'.toList[j]?).map fun m=>(j,m.val))=fr∧PRep g.fz (r.getD zero) ((fr.map (·.2)).getD z)∧fr.isSome=r.isSome:=by
      cases o with
      | none =>
       simp only at hso;subst hso
       exact⟨none,rfl,by simpa using hzr,rfl⟩
      | some j =>
       obtain⟨_,en,h3,rfl⟩:=hso
       obtain⟨v,h4,h5⟩:=PRepM.at hmr (by simpa using h3)
       exact⟨some (j,v),by simpa using h4,by simpa using h5,rfl⟩
     rw[hfr] at hfk
     have hrun:=run_lookup (P:=P) ht hzero hm hck hfk ok
     refine OpOK.same hs (x:=if ok then .tuple #[(fr.map (·.2)).getD z,.bool fr.isSome] else (fr.map (·.2)).getD z) (by simp only[execOp,ho,Sem.run_bind,hrun,Result.andThen_ok,Sem.run_pure]) ?_
     rw[hsome]
     cases ok
     ·simpa [ARep] using hrep
     ·simp only[if_true,ARep]
      refine⟨_,rfl,?_⟩
      simp only[ARepL,ARep]
      exact⟨_,_,rfl,hrep,_,_,rfl,by simp[PRep],rfl⟩
    ·cases hv
   ·cases hv
  ·cases hv
 ·cases hl
theorem ba_beq (a b:ByteArray):(a == b)=true↔a=b:=by
 obtain⟨⟨x⟩⟩:=a
 obtain⟨⟨y⟩⟩:=b
 show ((⟨x⟩:Array UInt8) == ⟨y⟩)=true↔_
 simp
theorem ZfG {q:FK} {a b:Value} (n:Nat) (h:flatEq q a b=some true):Instr.sameBits n b a=true:=by
 unfold flatEq at h
 split at h
 ·split at h
  ·rename_i e;subst e
   simp only[Option.some.injEq,beq_iff_eq] at h
   subst h;simp[Instr.sameBits]
  ·cases h
 ·simp only[Option.some.injEq] at h
  have:=(ba_beq _ _).1 h
  subst this
  simp only[Instr.sameBits]
  exact h
 ·simp only[Option.some.injEq,beq_iff_eq] at h
  subst h;simp[Instr.sameBits]
 ·cases h
theorem ZfH {fz:Nat→Option Obj} (n:Nat):∀ {qs:List FK} {as bs:List PV} {xs ys:List Value},PRepL fz as xs→PRepL fz bs ys→cellsEq qs as bs=some true→xs.length=ys.length∧(ys.zip xs).all (fun (x,y)=>Instr.sameBits n x y)=true
 | [],[],[],xs,ys,h1,h2,h=>by
  simp only[PRepL] at h1 h2;subst h1 h2;exact⟨rfl,rfl⟩
 | q :: qs,.c a :: r,.c b :: s,xs,ys,h1,h2,h=>by
  simp only[cellsEq] at h
  split at h
  ·rename_i u v hu hv
   simp only[Option.some.injEq,Bool.and_eq_true] at h
   obtain⟨rfl,rfl⟩:=h
   simp only[PRepL,PRep] at h1 h2
   obtain⟨_,xs',rfl,rfl,g1⟩:=h1
   obtain⟨_,ys',rfl,rfl,g2⟩:=h2
   obtain⟨l1,l2⟩:=ZfH n g1 g2 hv
   exact⟨by simp[l1],by simp only[List.zip_cons_cons,List.all_cons,ZfG n hu,Bool.true_and];exact l2⟩
  ·cases h
theorem sameBits_key {fz:Nat→Option Obj} {q:KQ} {kx ek:PV} {kv ev:Value} (h1:PRep fz kx kv) (h2:PRep fz ek ev) (h:keyEq q kx ek=some true):Instr.sameBits 10000 ev kv=true:=by
 cases q with
 | one q =>
  obtain⟨a,c,rfl,rfl,hb⟩:=keyEq_one h
  simp only[PRep] at h1 h2
  subst h1 h2
  exact ZfG _ hb
 | many qs =>
  obtain⟨as,bs,rfl,rfl,hb⟩:=keyEq_many h
  simp only[PRep] at h1 h2
  obtain⟨xs,rfl,g1⟩:=h1
  obtain⟨ys,rfl,g2⟩:=h2
  obtain⟨l1,l2⟩:=ZfH 9999 g1 g2 hb
  show Instr.sameBits (9999+1) (.agg ys) (.agg xs)=true
  simp only[Instr.sameBits,Bool.and_eq_true,beq_iff_eq]
  exact⟨by simpa using l1.symm,l2⟩
theorem MRep.set {fz:Nat→Option Obj} {clock:Nat}:∀ {es:List (PV × PV)} {ms:List MapEntry},MRep fz clock es ms→∀ {j:Nat} {e:PV × PV},es[j]? =some e→∃m,ms[j]? =some m∧PRep fz e.1 m.key∧∀ {k x:PV} {kv u:Value},PRep fz k kv→PRep fz x u→MRep fz clock (es.set j (k,x)) (ms.set j {m with key:=kv,val:=u})
 | [],_,_,j,e,he=>by simp at he
 | (ek,ev) :: es,ms,h,j,e,he=>by
  simp only[MRep] at h
  obtain⟨m,ms',rfl,h1,h2,h3,h4⟩:=h
  cases j with
  | zero =>
   simp only[List.getElem?_cons_zero,Option.some.injEq] at he;subst he
   refine⟨m,rfl,h1,fun hk hu=>?_⟩
   simp only[List.set_cons_zero,MRep]
   exact⟨_,_,rfl,hk,hu,h3,h4⟩
  | succ j =>
   obtain⟨m',g1,g2,g3⟩:=MRep.set h4 (j:=j) (by simpa using he)
   refine⟨m',by simpa using g1,g2,fun hk hu=>?_⟩
   simp only[List.set_cons_succ,MRep]
   exact⟨_,_,rfl,h1,h2,h3,g3 hk hu⟩
theorem MRep.append {fz:Nat→Option Obj} {clock clock':Nat} (hc:clock≤clock'):∀ {es:List (PV × PV)} {ms:List MapEntry},MRep fz clock es ms→∀ {e:PV × PV} {m:MapEntry},PRep fz e.1 m.key→PRep fz e.2 m.val→m.born<clock'→MRep fz clock' (es++ [e]) (ms++ [m])
 | [],ms,h,e,m,h1,h2,h3=>by
  simp only[MRep] at h;subst h
  simp only[List.nil_append,MRep]
  exact⟨m,[],rfl,h1,h2,h3,rfl⟩
 | x :: es,ms,h,e,m,h1,h2,h3=>by
  simp only[MRep] at h
  obtain⟨y,r,rfl,a1,a2,a3,a4⟩:=h
  simp only[List.cons_append,MRep]
  exact⟨y,_,rfl,a1,a2,Nat.lt_of_lt_of_le a3 hc,MRep.append hc a4 h1 h2 h3⟩
theorem MRep.born {fz:Nat→Option Obj} {clock:Nat}:∀ {es:List (PV × PV)} {ms:List MapEntry},MRep fz clock es ms→∀m∈ms,m.born<clock
 | [],ms,h,m,hm=>by simp only[MRep] at h;subst h;cases hm
 | x :: es,ms,h,m,hm=>by
  simp only[MRep] at h
  obtain⟨y,r,rfl,a1,a2,a3,a4⟩:=h
  cases hm with
  | head=>exact a3
  | tail _ hm=>exact MRep.born a4 m hm
theorem ZgF (t:TypeId) (m key val:Operand) (o0:Op) (ho0:o0= .mapUpdate t m key val∨o0= .insert t m key val):Sound P o0:=by
 intro oo ho g w H k env a op v H' k' hs he hl hv
 have hlow:lowOp P o0=lowOp P (.mapUpdate t m key val):=by rcases ho0 with rfl | rfl<;>rfl
 rw[hlow] at hl
 have hex:(execOp a.eval oo).run P w=((Instr.mapUpdate t (a.eval m) (a.eval key) (a.eval val)).run P w).andThen fun _ w'=> .ok .skip w':=by
  rcases ho0 with rfl | rfl<;>simp[execOp,ho]
 simp only[lowOp] at hl
 split at hl
 ·rename_i kt e ht
  simp only[Option.bind_eq_bind,Option.bind_eq_some_iff,Option.pure_def,Option.some.injEq] at hl
  obtain⟨q,hq,m',h1,key',h2,val',h3,rfl⟩:=hl
  have r1:=ZaR he h1
  have r2:=ZaR he h2
  have r3:=ZaR he h3
  simp only[aop] at hv
  split at hv
  ·rename_i n kx x hm hk hx
   rw[hm] at r1
   rw[hk] at r2
   rw[hx] at r3
   simp only[ARep] at r2 r3
   split at hv
   rotate_left 1
   ·cases hv
   rename_i hko
   split at hv
   ·rename_i es hes
    simp only[Option.map_eq_some_iff] at hv
    obtain⟨es',hput,e'⟩:=hv
    simp only[Prod.mk.injEq] at e'
    obtain⟨rfl,rfl,rfl⟩:=e'
    simp only[ARep] at r1
    obtain⟨b,hb,hxm⟩:=r1.2.2 es hes
    obtain⟨_,ho',hblk⟩:=hs.obj n _ hes
    simp only[ORep] at ho'
    obtain⟨b',ms,clock,hb',hw,hm1,hm2⟩:=ho'
    rw[hb] at hb';cases hb'
    have hlt:=(hblk b (.inl hb)).2
    have hck:=run_checkK (P:=P) hq r2 hko false w
    obtain⟨o,hsc,hso⟩:=mput_scan 0 hput
    have hfk:=run_scan (P:=P) hq r2 hm1.pairs hsc w
    have fin:∀(ms':Array MapEntry) (clock':Nat),(Instr.mapUpdate t (.map (some b)) (a.eval key) (a.eval val)).run P w= .ok () {w with heap:=w.heap.setIfInBounds b (.map ms' clock')} →
      (∀g',Keeps g H k g' (H.set n (.map es')) k→MRep g'.fz clock' es' ms'.toList)→(ms'.toList.map (·.born)).Nodup→OpOK g w H k ((execOp a.eval oo).run P w) .junk (H.set n (.map es')) k:=by
     intro ms' clock' hrun hmr hnd
     refine OpOK.skip (w':= {w with heap:=w.heap.setIfInBounds b (.map ms' clock')}) (by rw[hex,hxm,hrun];rfl) (SimH.put hs hes hb rfl rfl rfl rfl (by simp) (fun b' hb'=>by simp[Ne.symm hb']) fun hk'=>?_)
     simp only[ORep]
     exact⟨b,ms',clock',hb,by simp[hlt],hmr g hk',hnd⟩
    rcases o with _ | j
    ·simp only at hso
     subst hso
     simp only[Option.bind_none] at hfk
     refine fin (ms.push {key:=a.eval key,val:=a.eval val,born:=clock}) (clock+1) ?_ ?_ ?_
     ·simp[Instr.mapUpdate,run_underlying ht,getObj,setObj,Sem.run,hw,hck,hfk]
     ·intro g' hk'
      rw[Array.toList_push]
      exact MRep.append (Nat.le_succ _) (MRep.mono hk'.fz (Nat.le_refl _) _ _ hm1) (PRep.mono hk'.fz _ _ r2) (PRep.mono hk'.fz _ _ r3) (Nat.lt_succ_self _)
     ·rw[Array.toList_push,List.map_append,List.nodup_append]
      refine⟨hm2,by simp,?_⟩
      intro c hc c' hc'
      simp only[List.map_cons,List.map_nil,List.mem_singleton] at hc'
      subst hc'
      obtain⟨mm,hmm,rfl⟩:=List.mem_map.1 hc
      have:=MRep.born hm1 mm hmm
      omega
    ·simp only[Nat.sub_zero] at hso
     obtain⟨_,ep,hep,hkeq,rfl⟩:=hso
     obtain⟨en,hj,hken,hset⟩:=MRep.set hm1 hep
     have hsame:Instr.sameBits 10000 en.key (a.eval key)=true:=sameBits_key r2 hken hkeq
     have hj':ms[j]? =some en:=by simpa using hj
     simp only[Option.bind_some,hj,Option.map_some] at hfk
     have hjl:j<ms.size:=by
      rcases Nat.lt_or_ge j ms.size with h | h
      ·exact h
      ·rw[Array.getElem?_eq_none h] at hj';cases hj'
     have hje:ms[j]=en:=by simpa [Array.getElem?_eq_getElem hjl] using hj'
     have hmod:(ms.modify j fun e=> {e with key:=a.eval key,val:=a.eval val}).toList=ms.toList.set j {en with key:=a.eval key,val:=a.eval val}:=by
      apply List.ext_getElem?
      intro i
      rw[Array.toList_modify,List.getElem?_modify,List.getElem?_set]
      by_cases hij:j=i
      ·subst hij
       simp[hjl,hje]
      ·simp[hij]
     refine fin (ms.modify j fun e=> {e with key:=a.eval key,val:=a.eval val}) clock ?_ ?_ ?_
     ·simp[Instr.mapUpdate,run_underlying ht,getObj,setObj,Sem.run,hw,hck,hfk,Instr.keyThatStays,hj',hsame]
     ·intro g' hk'
      rw[hmod]
      exact MRep.mono hk'.fz (Nat.le_refl _) _ _ (hset r2 r3)
     ·rw[hmod]
      have:(ms.toList.set j {en with key:=a.eval key,val:=a.eval val}).map (·.born)=ms.toList.map (·.born):=by
       rw[List.map_set]
       apply List.ext_getElem?
       intro i
       rw[List.getElem?_set]
       split
       ·rename_i hij;subst hij
        simp[hjl,hje]
       ·rfl
      rw[this];exact hm2
   ·cases hv
  ·cases hv
 ·cases hl
theorem s_mapUpdate (t:TypeId) (m key val:Operand):Sound P (.mapUpdate t m key val):=ZgF t m key val _ (.inl rfl)
theorem s_insert (t:TypeId) (m key val:Operand):Sound P (.insert t m key val):=ZgF t m key val _ (.inr rfl)
end Go.Abs
namespace Go.Abs
open Go
variable {P:Program}
def lowO (o:Option Operand):Option (Option RX):=match o with | none=>some none | some y=>(lowX y).map some
theorem optRep {g:G} {H:Heap} {k:Nat} {env:Env} {a:Act} (he:∀t,ARep g H k (env.get t) (a.tmps.getD t undef)) {o:Option Operand} {r:Option RX} (h:lowO o=some r) {d z:Int}
  (hz:bnd (St.ev ⟨env,H,k⟩) d r=some z):(o=none∧z=d)∨∃y q,o=some y∧a.eval y= .int q z:=by
 cases o with
 | none =>
  have h':some none=some r:=h
  cases h'
  have hz':some d=some z:=hz
  cases hz'
  exact .inl ⟨rfl,rfl⟩
 | some y =>
  simp only[lowO,Option.map_eq_some_iff] at h
  obtain⟨y',h1,rfl⟩:=h
  obtain⟨q,hq⟩:=Zfw (ZaR he h1) (by simpa [bnd] using hz)
  exact .inr ⟨y,q,rfl,hq⟩
theorem run_bounds {isSlice:Bool} {len cap:Nat} {low high:Option Value} {l h:Int} (hl:(low=none∧l=0)∨∃q,low=some (.int q l)) (hh:(high=none∧h=len)∨∃q,high=some (.int q h))
  (h0:0≤l) (h1:l≤h) (h2:h≤len) (hc:len≤cap) (w:World):(Instr.sliceBounds isSlice len cap low high none).run P w= .ok (l.toNat,h.toNat,cap) w:=by
 have b1:0≤h:=by omega
 have b2:h≤(cap:Int):=by omega
 have b3:l≤(h.toNat:Int):=by omega
 have b4:l≤(len:Int):=by omega
 rcases hl with ⟨rfl,rfl⟩ | ⟨q,rfl⟩<;>rcases hh with ⟨rfl,rfl⟩ | ⟨q',rfl⟩ <;>
  simp[Instr.sliceBounds,Instr.sliceBound,asIntOf,h0,b1,b2,b4]
 intro hlt
 omega
theorem s_slice (t:TypeId) (x:Operand) (lo hi:Option Operand):Sound P (.slice t x lo hi none):=by
  intro oo ho g w H k env a op v H' k' hs he hl hv
  have hlow:lowOp P (.slice t x lo hi none)=(match P.underlying t with
    | some .string=>do pure (.ssl (←lowX x) (←lowO lo) (←lowO hi))
    | some (.slice e)=>do pure (.lsl (←sizeT P e) (←lowX x) (←lowO lo) (←lowO hi))
    | _=>none):=rfl
  rw[hlow] at hl
  split at hl
  ·
    rename_i ht
    simp only[Option.bind_eq_bind,Option.bind_eq_some_iff,Option.pure_def,Option.some.injEq] at hl
    obtain⟨x',h1,lo',h2,hi',h3,rfl⟩:=hl
    have r1:=ZaR he h1
    simp only[aop] at hv
    split at hv
    · rename_i s hm
      rw[hm] at r1
      have hx:=Zdm r1
      split at hv
      · rename_i l h hl hh
        split at hv
        · rename_i hc
          simp only[Option.some.injEq,Prod.mk.injEq] at hv
          obtain⟨rfl,rfl,rfl⟩:=hv
          have e1:=optRep he h2 hl
          have e2:=optRep he h3 hh
          have hb:=run_bounds (P:=P) (isSlice:=false) (len:=s.size) (cap:=s.size) (low:=lo.map a.eval) (high:=hi.map a.eval) (l:=l) (h:=h)
            (by rcases e1 with ⟨rfl,rfl⟩ | ⟨y,q,rfl,e⟩;exact .inl ⟨rfl,rfl⟩;exact .inr ⟨q,by simp[e]⟩)
            (by rcases e2 with ⟨rfl,rfl⟩ | ⟨y,q,rfl,e⟩;exact .inl ⟨rfl,rfl⟩;exact .inr ⟨q,by simp[e]⟩) hc.1 hc.2.1 hc.2.2 (Nat.le_refl _) w
          refine OpOK.same hs (x:= .string (s.extract l.toNat h.toNat)) ?_ (ZbZ _)
          simp[execOp,ho,hx,Instr.sliceAt,Instr.slice,run_underlying ht,hb]
        · cases hv
      · cases hv
    · cases hv
  ·
    rename_i e ht
    simp only[Option.bind_eq_bind,Option.bind_eq_some_iff,Option.pure_def,Option.some.injEq] at hl
    obtain⟨wd,hwd,x',h1,lo',h2,hi',h3,rfl⟩:=hl
    have r1:=ZaR he h1
    have fin:∀ {ba:Option Addr} {len cap:Nat} {l h:Int},a.eval x= .slice ba len cap→((lo=none∧l=0)∨∃y q,lo=some y∧a.eval y= .int q l)→((hi=none∧h=len)∨∃y q,hi=some y∧a.eval y= .int q h) →
        0≤l→l≤h→h≤len→len≤cap→(execOp a.eval oo).run P w= .ok (.value (.slice (if cap=l.toNat then ba else ba.map (·.add (l.toNat*wd))) (h.toNat - l.toNat) (cap - l.toNat))) w:=by
      intro ba len cap l h hx e1 e2 c1 c2 c3 c4
      have hb:=run_bounds (P:=P) (isSlice:=true) (len:=len) (cap:=cap) (low:=lo.map a.eval) (high:=hi.map a.eval) (l:=l) (h:=h)
        (by rcases e1 with ⟨rfl,rfl⟩ | ⟨y,q,rfl,e⟩;exact .inl ⟨rfl,rfl⟩;exact .inr ⟨q,by simp[e]⟩)
        (by rcases e2 with ⟨rfl,rfl⟩ | ⟨y,q,rfl,e⟩;exact .inl ⟨rfl,rfl⟩;exact .inr ⟨q,by simp[e]⟩) c1 c2 c3 c4 w
      simp[execOp,ho,hx,Instr.sliceAt,Instr.slice,run_underlying ht,hb,Zc6 hwd]
    simp only[aop] at hv
    split at hv
    · rename_i rows hm
      rw[hm] at r1
      split at hv
      · rename_i l h hl hh
        split at hv
        · rename_i hc
          obtain⟨c1,c2,c3,c4⟩:=hc
          simp only[Option.some.injEq,Prod.mk.injEq] at hv
          obtain⟨rfl,rfl,rfl⟩:=hv
          have e1:=optRep he h2 hl
          have e2:=optRep he h3 hh
          simp only[ARep,PRep] at r1
          obtain⟨hlim,hr⟩:=r1
          rcases hr with ⟨rfl,ba,hx⟩ | ⟨b,off,cap,wd',cs,t',fr,vals,hx,hcap,hf,hvals,hat⟩
          · have hh0:h=0:=by simp at c3;omega
            have hl0:l=0:=by omega
            subst hh0 hl0
            refine OpOK.same hs (fin hx e1 e2 (by omega) (by omega) (by simp) (Nat.le_refl _)) ?_
            simp[ARep,PRep,top]
          · refine OpOK.same hs (fin hx e1 e2 c1 c2 (by omega) hcap) ?_
            simp only[ARep,PRep]
            have hlen:((rows.take h.toNat).drop l.toNat).length=h.toNat - l.toNat:=by simp;omega
            refine⟨by rw[hlen];omega,?_⟩
            by_cases hcl:cap=l.toNat
            ·
              have hz:(rows.take h.toNat).drop l.toNat= []:=List.eq_nil_of_length_eq_zero (by omega)
              refine .inr ⟨b,off,cap - l.toNat,wd',cs,t',fr,[],?_,by rw[hz];simp,hf,by rw[hz];simp[PRepLL],fun i r h=>by simp at h⟩
              rw[hlen,if_pos hcl]
            · refine .inr ⟨b,off+l.toNat*wd',cap - l.toNat,wd',cs,t',fr,(vals.take h.toNat).drop l.toNat,?_,by rw[hlen];omega,hf,?_,?_⟩
              · rw[hlen,if_neg hcl]
                by_cases hne:rows= []
                · have:h.toNat=0:=by rw[hne] at c3;simp at c3;omega
                  have:l.toNat=0:=by omega
                  simp[Zdv,this]
                · have hw':wd'=wd:=by
                    obtain⟨r,hr⟩:=List.exists_mem_of_ne_nil _ hne
                    obtain⟨i,hi⟩:=List.getElem?_of_mem hr
                    obtain⟨vr,hv1,hv2⟩:=PRepLL.get hvals hi
                    rw[←(hat _ _ hv1).1,hv2.length,c4 r hr]
                  simp[Zdv,hw']
              · exact (PRepLL.take' hvals h.toNat).drop l.toNat
              · refine RowsAt.drop (fun i r hr=>hat i r (take_get hr)) l.toNat
        · cases hv
      · cases hv
    · rename_i n off len hm
      rw[hm] at r1
      split at hv
      · rename_i rows hrows
        split at hv
        · rename_i l hl
          split at hv
          · rename_i hc
            obtain⟨c1,c2,c3,c4⟩:=hc
            simp only[Option.some.injEq,Prod.mk.injEq] at hv
            obtain⟨rfl,rfl,rfl⟩:=hv
            have hhi:hi=none:=by cases hi with | none=>rfl | some y=>simp[lowO] at h3
            have e1:=optRep he h2 hl
            simp only[ARep] at r1
            obtain⟨hnk,_,hos⟩:=r1
            obtain⟨hle,hos⟩:=hos rows hrows
            obtain⟨ad,cap,hx,hlc,hcap⟩:=hos c3
            refine OpOK.same hs (fin (h:=len) hx e1 (.inl ⟨hhi,rfl⟩) c1 c2 (by omega) hlc) ?_
            simp only[ARep]
            refine⟨hnk,rfl,fun rows' h=>?_⟩
            rw[hrows] at h;cases h
            refine⟨by omega,fun _=>⟨if cap=l.toNat then ad else ad.map (·.add (l.toNat*wd)),cap - l.toNat,by simp,by omega,?_⟩⟩
            by_cases hcl:cap=l.toNat
            · exact .inl (by omega)
            · rcases hcap with h0 | ⟨b,hb,hdrop,hocap,rfl⟩
              · omega
              · obtain⟨_,ho',_⟩:=hs.obj n _ hrows
                simp only[ORep] at ho'
                obtain⟨o1,o2,o3,o4,o6,o5⟩:=ho'
                have hw':(g.ρ n).w=wd:=by
                  cases hrw:rows with
                  | nil=>rw[o6 hrw] at hb;cases hb
                  | cons r rs=>rw[←o4 r (by rw[hrw];simp)];exact c4 r (by rw[hrw];simp)
                refine .inr ⟨b,hb,by omega,by omega,?_⟩
                rw[if_neg hcl]
                simp only[Option.map_some,Zdv,hw']
                congr 2
                rw[Nat.add_assoc,←Nat.add_mul]
                congr 2
                omega
          · cases hv
        · cases hv
      · cases hv
    · cases hv
  · cases hl
theorem s_makeSlice (t:TypeId) (l c:Operand):Sound P (.makeSlice t l c):=by
 intro oo ho g w H k env a op v H' k' hs he hl hv
 simp only[lowOp] at hl
 split at hl
 ·rename_i e ht
  simp only[Option.bind_eq_bind,Option.bind_eq_some_iff,Option.map_eq_some_iff,Option.pure_def,Option.some.injEq] at hl
  obtain⟨wd,hwd,bytes,⟨i,hi,rfl⟩,zs,hz,l',h1,c',h2,rfl⟩:=hl
  obtain⟨i',z,hi',hz',hr⟩:=Zfg (fz:=g.fz) hz
  rw[hi] at hi';cases hi'
  have hisz:i.size=wd:=by simpa [sizeT,hi] using hwd
  have r1:=ZaR he h1
  have r2:=ZaR he h2
  simp only[aop] at hv
  split at hv
  ·rename_i x y hx hy
   obtain⟨q1,e1⟩:=Zfw r1 hx
   obtain⟨q2,e2⟩:=Zfw r2 hy
   split at hv
   ·rename_i hc
    obtain⟨rfl,hx0,hb,hlim,hzl⟩:=hc
    simp only[Option.some.injEq,Prod.mk.injEq] at hv
    obtain⟨rfl,rfl,rfl⟩:=hv
    have hzs:z.cells.size=wd:=by have:=hr.length;simp only[Array.length_toList] at this;omega
    have hrun:=run_make (P:=P) w t e i z ht hi hz' q1 q2 x x hx0 (Int.le_refl _) (by rw[Int.mul_comm];unfold lim at hb;omega) (by unfold lim at hlim;omega)
    have hcells:madeCells z.cells (x.toNat*i.size)=(Array.range (x.toNat*wd)).map (z.cells[· % z.cells.size]!):=by rw[hisz];rfl
    rw[hcells] at hrun
    have hrows:(List.replicate x.toNat zs).length=x.toNat:=by simp
    refine OpOK.new hs (.cells ((Array.range (x.toNat*wd)).map (z.cells[· % z.cells.size]!)) e) _ (newLoc (List.replicate x.toNat zs) w.heap.size x.toNat wd) (Zgm _ _ _ _) _ (.slice (some ⟨w.heap.size,0,none⟩) x.toNat x.toNat) ?_ (fun g' h1 h2 hk=>?_) (fun g' h1=>?_)
    ·simp only[execOp,ho,e1,e2,Sem.run_bind,hrun,Result.andThen_ok,Sem.run_pure]
     rfl
    ·exact ZfR h1 (by rw[hrows];unfold lim at *;omega) (fun r hr'=>by rw[List.eq_of_mem_replicate hr'];exact hzl) (by rw[hrows];exact⟨Nat.le_refl _,by unfold lim top at *;omega⟩) (PRepLL.mono hk.fz _ _ (PRepLL.replicate hr _)) (RowsAt.zeros z.cells wd _ hzs) (by simp)
    ·exact osRep_new (by omega) h1 (by simp[Heap.get]) hrows (Nat.le_refl _) (fun h=>by have:=congrArg List.length h;simpa using this)
   ·cases hv
  ·cases hv
 ·cases hl
theorem s_callf (x:Operand) (args:Array Operand) (argTypes:Array TypeId):Sound P (.call {callee:= .value x,args:=args,argTypes:=argTypes}):=by
 intro oo ho g w H k env a op v H' k' hs he hl hv
 cases x with
 | func f =>
  simp only[lowOp] at hl
  split at hl
  ·split at hl
   ·simp only[Option.bind_eq_bind,Option.bind_eq_some_iff,Option.pure_def,Option.some.injEq] at hl
    obtain⟨l,_,rfl⟩:=hl
    simp[aop] at hv
   ·cases hl
  ·cases hl
 | _ =>
  simp only[lowOp,Option.bind_eq_bind,Option.bind_eq_some_iff,Option.pure_def,Option.some.injEq] at hl
  obtain⟨x,_,l,_,rfl⟩:=hl
  simp[aop] at hv
theorem s_none {o:Op} (h:lowOp P o=none):Sound P o:=by
 intro oo ho g w H k env a op v H' k' hs he hl hv
 rw[h] at hl
 cases hl
theorem sound (o:Op):Sound P o:=by
 cases o with
 | move x=>exact s_mv x
 | assign x=>exact s_assign x
 | pick c a b=>exact s_pick c a b
 | alloc t=>exact s_alloc t
 | box t v=>exact s_box t v
 | build t ps=>exact s_build t ps
 | buildSlice t n ps=>exact s_buildSlice t n ps
 | insert t m k v=>exact s_insert t m k v
 | load t a=>exact s_load t a
 | store t a v=>exact s_store t a v
 | nilCheck x=>exact s_nilCheck x
 | binOp op t x y u=>exact s_bin op t x y u
 | unOp op t x=>cases op<;>first | exact s_not t x | exact s_neg t x | exact s_none rfl
 | convert s d x=>exact s_conv s d x
 | makeFunc fn a b=>exact s_makeFunc fn a b
 | makeMap t r=>cases r<;>first | exact s_makeMap t | exact s_none rfl
 | makeSlice t l c=>exact s_makeSlice t l c
 | slice t x lo hi mx=>cases mx<;>first | exact s_slice t x lo hi | exact s_none rfl
 | fieldAddr s x i=>exact s_faddr s x i
 | field s x i=>exact s_fld s x i
 | indexAddr t x i=>exact s_iaddr t x i
 | index t x i=>exact s_index t x i
 | lookup t m k ok=>exact s_lookup t m k ok
 | mapUpdate t m k v=>exact s_mapUpdate t m k v
 | extract x i=>exact s_extract x i
 | call c =>
  obtain⟨callee,args,argTypes⟩:=c
  cases callee with
  | value x=>exact s_callf x args argTypes
  | invoke r m=>exact s_none rfl
  | builtin b=>cases b<;>first | exact s_len args argTypes | exact s_append args argTypes | exact s_min args argTypes | exact s_max args argTypes | exact s_none rfl
 | _=>exact s_none rfl
end Go.Abs
namespace Go.Abs
open Go
variable {P:Program}
def ACalls (P:Program) (f:FuncId) (avs:List AV) (H:Heap) (k:Nat) (K:AV→Heap→Nat→Prop):Prop :=
 ∀(g:G) (w:World) (args:Array Value),SimH g w H k→ARepL g H k avs args.toList →
  Calls P f args w fun e w'=>∃v r g' H' k',e= .returned v∧K r H' k'∧ARep g' H' k' r v∧SimH g' w' H' k'∧Evo g w H k g' w' H' k'
inductive RExit where
 | normal
 | exit (id:Nat)
 | ret
def RExit.rel:RExit→Exit→Prop
 | .normal,.normal=>True
 | .exit a,.exit b=>a=b
 | .ret,.ret=>True
 | _,_=>False
def Post (P:Program) (nt:Nat) (Q:RExit→St→Prop) (g:G) (w:World) (H:Heap) (k:Nat) (e:Exit) (a':Act) (w':World):Prop :=
 ∃e' st' g',RExit.rel e' e∧Q e' st'∧a'.tmps.size=nt∧a'.defers= []∧Sim g' w' st' a'.tmps∧Evo g w H k g' w' st'.H st'.k
def AW (P:Program) (nt:Nat) (c:Code) (Q:RExit→St→Prop) (st:St):Prop :=
 ∀(g:G) (w:World) (a:Act),a.tmps.size=nt→a.defers= []→Sim g w st a.tmps→c.wp P (Post P nt Q g w st.H st.k) a w
def AWr (P:Program) (nt:Nat) (rc:RCode) (Q:RExit→St→Prop) (st:St):Prop:=∀c,lower P nt c=some rc→AW P nt c Q st
theorem Post.trans {nt:Nat} {Q:RExit→St→Prop} {g g':G} {w w':World} {H H':Heap} {k k':Nat} {e:Exit} {a:Act} {w'':World} (h:Evo g w H k g' w' H' k') (hp:Post P nt Q g' w' H' k' e a w''):Post P nt Q g w H k e a w'':=by
 obtain⟨e',st',g'',h1,h2,h3,h4,h5,h6⟩:=hp
 exact⟨e',st',g'',h1,h2,h3,h4,h5,h.trans h6⟩
theorem Zd5 {nt:Nat} {rc:RCode} {Q Q':RExit→St→Prop} {st:St} (h:AWr P nt rc Q st) (hq:∀e s,Q e s→Q' e s):AWr P nt rc Q' st :=
 fun c hc g w a h1 h2 h3=>wp_mono (h c hc g w a h1 h2 h3) fun _ _ _ ⟨e',st',g',r1,r2,r3⟩=>⟨e',st',g',r1,hq _ _ r2,r3⟩
theorem Ze3 {ops:Array Oper} {d:Bool} {ls:List LOp} {rc:RCode} (h:regionR P ops d ls=some rc) (hb:rc≠ .bad):(rc= .region d ls∧(d=true→okDraw P ops ls=true))∨(d=true∧rc= .soft (softPairs ops ls) ls∧okSoft P ops ls=true):=by
 unfold regionR at h
 split at h
 ·rename_i hc
  split at h
  ·cases h;rename_i hs;exact .inr ⟨by simp at hc;exact hc.1,rfl,hs⟩
  ·cases h;exact absurd rfl hb
 ·rename_i hc
  cases h
  exact .inl ⟨rfl,fun hd=>by subst hd;simpa using hc⟩
theorem ZdG {ops:Array Oper} {d:Bool} {ls:List LOp} {rc:RCode} (h:regionR P ops d ls=some rc) (h1:∀d l,rc≠ .region d l) (h2:∀ps l,rc≠ .soft ps l) (h3:rc≠ .bad):False:=by
 rcases Ze3 h h3 with ⟨e,_⟩ | ⟨_,e,_⟩
 ·exact h1 _ _ e
 ·exact h2 _ _ e
theorem lower_skip {nt:Nat} {c:Code} (h:lower P nt c=some .skip):c= .skip:=by
 cases c<;>simp only[lower,Option.bind_eq_bind,Option.bind_eq_some_iff,Option.pure_def,Option.some.injEq,reduceCtorEq,and_false,exists_false] at h
 case region=>obtain⟨_,_,h⟩:=h;exact (ZdG h (fun _ _ e=>by cases e) (fun _ _ e=>by cases e) (fun e=>by cases e)).elim
 rfl
theorem lower_ret {nt:Nat} {c:Code} (h:lower P nt c=some .ret):c= .ret:=by
 cases c<;>simp only[lower,Option.bind_eq_bind,Option.bind_eq_some_iff,Option.pure_def,Option.some.injEq,reduceCtorEq,and_false,exists_false] at h
 case region=>obtain⟨_,_,h⟩:=h;exact (ZdG h (fun _ _ e=>by cases e) (fun _ _ e=>by cases e) (fun e=>by cases e)).elim
 rfl
theorem lower_exit {nt:Nat} {c:Code} {id:Nat} (h:lower P nt c=some (.exit id)):c= .exit id:=by
 cases c<;>simp only[lower,Option.bind_eq_bind,Option.bind_eq_some_iff,Option.pure_def,Option.some.injEq,reduceCtorEq,and_false,exists_false,RCode.exit.injEq] at h
 case region=>obtain⟨_,_,h⟩:=h;exact (ZdG h (fun _ _ e=>by cases e) (fun _ _ e=>by cases e) (fun e=>by cases e)).elim
 subst h;rfl
theorem lower_seq {nt:Nat} {c:Code} {x y:RCode} (h:lower P nt c=some (.seq x y)):∃a b,c= .seq a b∧lower P nt a=some x∧lower P nt b=some y:=by
 cases c<;>simp only[lower,Option.bind_eq_bind,Option.bind_eq_some_iff,Option.pure_def,Option.some.injEq,reduceCtorEq,and_false,exists_false,RCode.seq.injEq] at h
 case region=>obtain⟨_,_,h⟩:=h;exact (ZdG h (fun _ _ e=>by cases e) (fun _ _ e=>by cases e) (fun e=>by cases e)).elim
 obtain⟨x',h1,y',h2,rfl,rfl⟩:=h
 exact⟨_,_,rfl,h1,h2⟩
theorem lower_cond {nt:Nat} {c:Code} {z:RX} {x y:RCode} (h:lower P nt c=some (.cond z x y)):∃o a b,c= .cond o a b∧lowX o=some z∧lower P nt a=some x∧lower P nt b=some y:=by
 cases c<;>simp only[lower,Option.bind_eq_bind,Option.bind_eq_some_iff,Option.pure_def,Option.some.injEq,reduceCtorEq,and_false,exists_false,RCode.cond.injEq] at h
 case region=>obtain⟨_,_,h⟩:=h;exact (ZdG h (fun _ _ e=>by cases e) (fun _ _ e=>by cases e) (fun e=>by cases e)).elim
 obtain⟨z',h0,x',h1,y',h2,rfl,rfl,rfl⟩:=h
 exact⟨_,_,_,rfl,h0,h1,h2⟩
theorem lower_block {nt:Nat} {c:Code} {id:Nat} {x:RCode} (h:lower P nt c=some (.block id x)):∃a,c= .block id a∧lower P nt a=some x:=by
 cases c<;>simp only[lower,Option.bind_eq_bind,Option.bind_eq_some_iff,Option.pure_def,Option.some.injEq,reduceCtorEq,and_false,exists_false,RCode.block.injEq] at h
 case region=>obtain⟨_,_,h⟩:=h;exact (ZdG h (fun _ _ e=>by cases e) (fun _ _ e=>by cases e) (fun e=>by cases e)).elim
 obtain⟨x',h1,rfl,rfl⟩:=h
 exact⟨_,rfl,h1⟩
theorem lower_loop {nt:Nat} {c:Code} {x:RCode} (h:lower P nt c=some (.loop x)):∃a,c= .loop a∧lower P nt a=some x:=by
 cases c<;>simp only[lower,Option.bind_eq_bind,Option.bind_eq_some_iff,Option.pure_def,Option.some.injEq,reduceCtorEq,and_false,exists_false,RCode.loop.injEq] at h
 case region=>obtain⟨_,_,h⟩:=h;exact (ZdG h (fun _ _ e=>by cases e) (fun _ _ e=>by cases e) (fun e=>by cases e)).elim
 obtain⟨x',h1,rfl⟩:=h
 exact⟨_,rfl,h1⟩
theorem ZgG {nt:Nat} {c:Code} {d:Bool} {l:List LOp} (h:lower P nt c=some (.region d l)):∃id ops,c= .region id ops d∧ops.toList.mapM (lowOper P nt ops)=some l∧(d=true→okDraw P ops l=true):=by
 cases c<;>simp only[lower,Option.bind_eq_bind,Option.bind_eq_some_iff,Option.pure_def,Option.some.injEq,reduceCtorEq,and_false,exists_false] at h
 obtain⟨x',h1,h2⟩:=h
 rcases Ze3 h2 (fun e=>by cases e) with ⟨e,hd⟩ | ⟨_,e,_⟩
 ·cases e;exact⟨_,_,rfl,h1,hd⟩
 ·cases e
theorem lower_soft {nt:Nat} {c:Code} {ps:List (Nat × Nat)} {l:List LOp} (h:lower P nt c=some (.soft ps l)):∃id ops,c= .region id ops true∧ops.toList.mapM (lowOper P nt ops)=some l∧okSoft P ops l=true∧ps=softPairs ops l:=by
 cases c<;>simp only[lower,Option.bind_eq_bind,Option.bind_eq_some_iff,Option.pure_def,Option.some.injEq,reduceCtorEq,and_false,exists_false] at h
 obtain⟨x',h1,h2⟩:=h
 rcases Ze3 h2 (fun e=>by cases e) with ⟨e,hd⟩ | ⟨hd,e,ho⟩
 ·cases e
 ·cases e;subst hd;exact⟨_,_,rfl,h1,ho,rfl⟩
theorem Zan {nt:Nat} {Q:RExit→St→Prop} {st:St} (h:Q .normal st):AWr P nt .skip Q st:=by
 intro c hc g w a h1 h2 h3
 rw[lower_skip hc]
 exact wp_skip ⟨.normal,st,g,trivial,h,h1,h2,h3,Evo.refl⟩
theorem Zaw {nt:Nat} {Q:RExit→St→Prop} {st:St} (h:Q .ret st):AWr P nt .ret Q st:=by
 intro c hc g w a h1 h2 h3
 rw[lower_ret hc]
 exact wp_ret ⟨.ret,st,g,trivial,h,h1,h2,h3,Evo.refl⟩
theorem Zax {nt:Nat} {Q:RExit→St→Prop} {st:St} {id:Nat} (h:Q (.exit id) st):AWr P nt (.exit id) Q st:=by
 intro c hc g w a h1 h2 h3
 rw[lower_exit hc]
 exact wp_exit ⟨.exit id,st,g,rfl,h,h1,h2,h3,Evo.refl⟩
theorem ZgA {nt:Nat} {x y:RCode} {Q:RExit→St→Prop} {st:St} (h:AWr P nt x (fun e s=>match e with | .normal=>AWr P nt y Q s | e=>Q e s) st):AWr P nt (.seq x y) Q st:=by
 intro c hc g w a h1 h2 h3
 obtain⟨ca,cb,rfl,l1,l2⟩:=lower_seq hc
 refine wp_seq (wp_mono (h ca l1 g w a h1 h2 h3) fun e a' w' ⟨e',st',g',r1,r2,r3,r4,r5,r6⟩=>?_)
 cases e' with
 | normal =>
  cases e<;>simp only[RExit.rel] at r1
  exact wp_mono (r2 cb l2 g' w' a' r3 r4 r5) fun _ _ _ hp=>hp.trans r6
 | exit id =>
  cases e<;>simp only[RExit.rel] at r1
  exact⟨.exit id,st',g',r1,r2,r3,r4,r5,r6⟩
 | ret =>
  cases e<;>simp only[RExit.rel] at r1
  exact⟨.ret,st',g',trivial,r2,r3,r4,r5,r6⟩
theorem Zay {nt:Nat} {z:RX} {x y:RCode} {Q:RExit→St→Prop} {st:St} {t:Bool} (hz:st.ev z= .p (.c (.bool t))) (h1:t=true→AWr P nt x Q st) (h2:t=false→AWr P nt y Q st):AWr P nt (.cond z x y) Q st:=by
 intro c hc g w a s1 s2 s3
 obtain⟨o,ca,cb,rfl,l0,l1,l2⟩:=lower_cond hc
 have hr:=ZaR (k:=st.k) s3.env l0
 rw[hz] at hr
 have he:=Zdm hr
 refine wp_cond_split he (fun ht=>h1 ht ca l1 g w a s1 s2 s3) (fun ht=>h2 ht cb l2 g w a s1 s2 s3)
theorem aw_block {nt:Nat} {id:Nat} {x:RCode} {Q:RExit→St→Prop} {st:St} (h:AWr P nt x (fun e s=>match e with | .exit id'=>if id'=id then Q .normal s else Q (.exit id') s | e=>Q e s) st):AWr P nt (.block id x) Q st:=by
 intro c hc g w a h1 h2 h3
 obtain⟨ca,rfl,l1⟩:=lower_block hc
 refine wp_block (wp_mono (h ca l1 g w a h1 h2 h3) fun e a' w' ⟨e',st',g',r1,r2,r3,r4,r5,r6⟩=>?_)
 cases e' with
 | normal =>
  cases e<;>simp only[RExit.rel] at r1
  exact⟨.normal,st',g',trivial,r2,r3,r4,r5,r6⟩
 | exit id' =>
  cases e<;>simp only[RExit.rel] at r1
  subst r1
  simp only[Exit.inBlock]
  by_cases e:id'=id
  ·simp only[e,if_true] at r2 ⊢
   exact⟨.normal,st',g',trivial,r2,r3,r4,r5,r6⟩
  ·simp only[e,if_false] at r2 ⊢
   exact⟨.exit id',st',g',rfl,r2,r3,r4,r5,r6⟩
 | ret =>
  cases e<;>simp only[RExit.rel] at r1
  exact⟨.ret,st',g',trivial,r2,r3,r4,r5,r6⟩
def Upd (k0:Nat) (s s':St):Prop :=
 ∀(g:G) (w:World) (tm:Array Value),Sim g w s tm→∃g',Sim g' w s' tm∧∀(g0:G) (w0:World) (H0:Heap),Evo g0 w0 H0 k0 g w s.H s.k→Evo g0 w0 H0 k0 g' w s'.H s'.k
theorem Upd.refl (k0:Nat) (s:St):Upd k0 s s:=fun g w tm h=>⟨g,h,fun _ _ _ e=>e⟩
theorem Upd.trans {k0:Nat} {s s' s'':St} (h:Upd k0 s s') (h':Upd k0 s' s''):Upd k0 s s'':=fun g w tm hs=>by
 obtain⟨g1,s1,e1⟩:=h g w tm hs
 obtain⟨g2,s2,e2⟩:=h' g1 w tm s1
 exact⟨g2,s2,fun g0 w0 H0 e=>e2 _ _ _ (e1 _ _ _ e)⟩
theorem aw_upd {nt:Nat} {rc:RCode} {Q:RExit→St→Prop} {st st':St} (hu:Upd st.k st st') (h:AWr P nt rc Q st'):AWr P nt rc Q st:=by
 intro c hc g w a h1 h2 h3
 obtain⟨g',s',e'⟩:=hu g w a.tmps h3
 exact wp_mono (h c hc g' w a h1 h2 s') fun _ _ _ hp=>hp.trans (e' g w st.H Evo.refl)
theorem Zfj (p:Nat→Prop) (h:∃n,p n):∃m,p m∧∀n,p n→m≤n:=by
 obtain⟨n,hn⟩:=h
 induction n using Nat.strongRecOn with
 | _ n ih =>
  by_cases hx:∃m,m<n∧p m
  ·obtain⟨m,hm,hp⟩:=hx
   exact ih m hm hp
  ·exact⟨n,hn,fun m hm=>Nat.le_of_not_lt fun hlt=>hx ⟨m,hlt,hm⟩⟩
theorem aw_loop {nt:Nat} {x:RCode} {Q:RExit→St→Prop} {st:St} (I:Nat→St→Prop) (n:Nat) (h0:I n st)
  (h:∀n s,I n s→AWr P nt x (fun e s'=>match e with | .normal=>∃s'' m,Upd s.k s' s''∧m<n∧I m s'' | e=>Q e s') s):AWr P nt (.loop x) Q st:=by
 intro c hc g w a h1 h2 h3
 obtain⟨ca,rfl,l1⟩:=lower_loop hc
 let p:Act→World→Nat→Prop:=fun a' w' n=>∃s g',I n s∧a'.tmps.size=nt∧a'.defers= []∧Sim g' w' s a'.tmps∧Evo g w st.H st.k g' w' s.H s.k
 let μ:Act→World→Nat:=fun a' w'=> @dite _ (∃n,p a' w' n) (Classical.propDecidable _) (fun h=>Classical.choose (Zfj _ h)) (fun _=>0)
 have hμ:∀a' w' n,p a' w' n→p a' w' (μ a' w')∧μ a' w'≤n:=by
  intro a' w' n hp
  have hex:∃n,p a' w' n:=⟨n,hp⟩
  have e:μ a' w'=Classical.choose (Zfj _ hex):=by simp only[μ,dif_pos hex]
  rw[e]
  have hs:=Classical.choose_spec (Zfj _ hex)
  exact⟨hs.1,hs.2 n hp⟩
 refine wp_loop (fun a' w'=>∃n,p a' w' n) μ ⟨n,st,g,h0,h1,h2,h3,Evo.refl⟩ ?_
 rintro a' w' ⟨m,hm⟩
 obtain⟨⟨s,g',q1,q2,q3,q4,q5⟩,_⟩:=hμ a' w' m hm
 refine wp_mono (h _ s q1 ca l1 g' w' a' q2 q3 q4) fun e a'' w'' ⟨e',st',g'',r1,r2,r3,r4,r5,r6⟩=>?_
 cases e' with
 | normal =>
  cases e<;>simp only[RExit.rel] at r1
  obtain⟨s'',m',u1,u2,u3⟩:=r2
  obtain⟨g3,t1,t2⟩:=u1 g'' w'' a''.tmps r5
  have hp:p a'' w'' m':=⟨s'',g3,u3,r3,r4,t1,q5.trans (t2 _ _ _ r6)⟩
  exact⟨⟨m',hp⟩,Nat.lt_of_le_of_lt (hμ _ _ _ hp).2 u2⟩
 | exit id =>
  cases e<;>simp only[RExit.rel] at r1
  exact⟨.exit id,st',g'',r1,r2,r3,r4,r5,q5.trans r6⟩
 | ret =>
  cases e<;>simp only[RExit.rel] at r1
  exact⟨.ret,st',g'',trivial,r2,r3,r4,r5,q5.trans r6⟩
end Go.Abs
namespace Go.Abs
open Go
variable {P:Program}
def enters (P : Program) (f : FuncId) : Bool := match P.funcs[f]? with | some fn => fn.body.isSome && fn.name != "runtime.NumGoroutine" | none => false
def St.put (st:St) (dst:Option Nat) (v:AV):St:=match dst with | some d=> {st with env:=(d,v) :: st.env} | none=>st
def vOp (P:Program) (op:ROp) (st:St) (K:AV→Heap→Nat→Prop):Prop :=
 match op with
 | .call f args=>ACalls P f (args.map st.ev) st.H st.k K
 | .callv x args=>match st.ev x with
  | .fn (.func f) first cap=>enters P f=true∧ACalls P f (first++args.map st.ev++cap) st.H st.k K
  | _=>False
 | .snil neg x=>match rowsOf st.H (st.ev x) with
  | some rows=>∀b,(rows≠ []→b=false)→K (.p (.c (.bool (b != neg)))) st.H st.k
  | none=>False
 | op=>match aop op st.ev st.H st.k with
  | some (v,H,k)=>K v H k
  | none=>False
def vOps (P:Program):List LOp→St→(St→Prop)→Prop
 | [],st,Q=>Q st
 | o :: r,st,Q=>match o.g with
  | none=>vOp P o.op st fun v H k=>vOps P r (St.put ⟨st.env,H,k⟩ o.dst v) Q
  | some (d,b)=>match st.env.get d with
   | .p (.c (.bool x))=>(x=b→vOp P o.op st fun v H k=>vOps P r (St.put ⟨st.env,H,k⟩ o.dst v) Q)∧(x≠b→vOps P r (st.put o.dst (.tup [])) Q)
   | .tup _=>vOps P r (st.put o.dst (.tup [])) Q
   | _=>False
theorem ACalls.mono {f:FuncId} {avs:List AV} {H:Heap} {k:Nat} {K K':AV→Heap→Nat→Prop} (h:ACalls P f avs H k K) (hk:∀r H k,K r H k→K' r H k):ACalls P f avs H k K' :=
 fun g w args h1 h2=>(h g w args h1 h2).mono fun _ _ ⟨v,r,g',H',k',e,hK,rest⟩=>⟨v,r,g',H',k',e,hk _ _ _ hK,rest⟩
theorem put_size (a:Act) (dst:Option Nat) (v:Value):(a.put dst v).tmps.size=a.tmps.size:=by
 cases dst<;>simp[Act.put]
theorem Zfv (a:Act) (dst:Option Nat) (v:Value):(a.put dst v).defers=a.defers:=by
 cases dst<;>rfl
theorem env_put {g:G} {H:Heap} {k:Nat} {env:Env} {a:Act} {nt:Nat} (hsz:a.tmps.size=nt) (he:∀t,ARep g H k (env.get t) (a.tmps.getD t undef)) {dst:Option Nat} (hd:dst.all (· <nt)=true) {v:AV} {x:Value} (hv:ARep g H k v x) (H0:Heap) (k0:Nat) :
  ∀t,ARep g H k ((St.put ⟨env,H0,k0⟩ dst v).env.get t) ((a.put dst x).tmps.getD t undef):=by
 intro t
 cases dst with
 | none=>exact he t
 | some d =>
  simp only[Option.all_some,decide_eq_true_eq] at hd
  simp only[St.put,Env.get,Act.put]
  by_cases e:d=t
  ·subst e
   simp[hsz,hd,hv]
  ·simp only[if_neg e]
   have:=he t
   rw[Array.getD_eq_getD_getElem?] at this ⊢
   rw[Array.getElem?_setIfInBounds,if_neg e]
   exact this
theorem Zbs {nt:Nat} {ops:Array Oper} {o:Oper} {l:LOp} (h:lowOper P nt ops o=some l):(lowOp P o.op).getD .bad=l.op∧l.dst=o.dst∧o.dst.all (· <nt)=true ∧
  (o.guard=none∧l.g=none∨∃j b d,o.guard=some (j,b)∧(ops[j]?).bind (·.dst)=some d∧l.g=some (d,b)):=by
 simp only[lowOper] at h
 split at h
 ·cases h
 ·rename_i hd
  have hd':o.dst.all (· <nt)=true:=by simpa using hd
  simp only[Option.pure_def] at h
  split at h
  ·rename_i hg
   cases h
   exact⟨rfl,rfl,hd',.inl ⟨hg,rfl⟩⟩
  ·rename_i j b hg
   split at h
   ·rename_i d hd2
    cases h
    exact⟨rfl,rfl,hd',.inr ⟨j,b,d,hg,hd2,rfl⟩⟩
   ·cases h
theorem call_runs {oo:Oper} {f:FuncId} {args:Array Operand} {argTypes:Array TypeId} {a:Act} {w:World} (ho:oo.op= .call {callee:= .value (.func f),args:=args,argTypes:=argTypes}) (hf:enters P f=true) :
  (execOp a.eval oo).run P w= .ok (.enter f (args.map a.eval)) w:=by
 unfold enters at hf
 split at hf
 ·rename_i fn hfn
  simp only[Bool.and_eq_true,bne_iff_ne,ne_eq] at hf
  have hb:¬fn.body=none:=by intro h;rw[h] at hf;simp at hf
  simp[execOp,ho,resolve,Deferred.ofValue,Act.eval,invoke,callFunc,hfn,hf.2,hb]
 ·cases hf
theorem callv_runs {oo:Oper} {x:Operand} {args:Array Operand} {argTypes:Array TypeId} {a:Act} {w:World} {f:FuncId} {first cap:Array Value} (ho:oo.op= .call {callee:= .value x,args:=args,argTypes:=argTypes}) (hx:a.eval x= .func (.func f) first cap) (hf:enters P f=true) :
  (execOp a.eval oo).run P w= .ok (.enter f (first++args.map a.eval++cap)) w:=by
 unfold enters at hf
 split at hf
 ·rename_i fn hfn
  simp only[Bool.and_eq_true,bne_iff_ne,ne_eq] at hf
  have hb:¬fn.body=none:=by intro h;rw[h] at hf;simp at hf
  simp[execOp,ho,resolve,hx,Deferred.ofValue,invoke,callFunc,hfn,hf.2,hb]
 ·cases hf
theorem low_call {o:Op} {f:FuncId} {args:List RX} (h:lowOp P o=some (.call f args)):∃as ts,o= .call {callee:= .value (.func f),args:=as,argTypes:=ts}∧as.toList.mapM lowX=some args∧enters P f=true:=by
 cases o
 case call c =>
  obtain⟨callee,as,ts⟩:=c
  cases callee with
  | builtin b =>
   exfalso
   cases b<;>simp only[lowOp,lowBuiltin] at h<;>(repeat' split at h)<;>simp[Option.bind_eq_some_iff] at h
  | invoke r m=>simp[lowOp] at h
  | value x =>
   cases x with
   | func f' =>
    simp only[lowOp] at h
    split at h
    ·rename_i fn hfn
     split at h
     ·rename_i hc
      simp only[Option.bind_eq_bind,Option.bind_eq_some_iff,Option.pure_def,Option.some.injEq,ROp.call.injEq] at h
      obtain⟨l,hl',rfl,rfl⟩:=h
      exact⟨as,ts,rfl,hl',by simp only[enters,hfn];exact hc⟩
     ·cases h
    ·cases h
   | _=>simp[lowOp,Option.bind_eq_some_iff] at h
 all_goals
  exfalso
  (first | simp only[lowOp] at h | unfold lowOp at h)
  (repeat' split at h)<;>simp_all [Option.bind_eq_some_iff]
  all_goals
   obtain⟨_,_,_,_,h⟩:=h
   split at h<;>simp at h
theorem low_callv {o:Op} {x:RX} {args:List RX} (h:lowOp P o=some (.callv x args)):∃y as ts,o= .call {callee:= .value y,args:=as,argTypes:=ts}∧lowX y=some x∧as.toList.mapM lowX=some args:=by
 cases o
 case call c =>
  obtain⟨callee,as,ts⟩:=c
  cases callee with
  | builtin b =>
   exfalso
   cases b<;>simp only[lowOp,lowBuiltin] at h<;>(repeat' split at h)<;>simp[Option.bind_eq_some_iff] at h
  | invoke r m=>simp[lowOp] at h
  | value y =>
   cases y with
   | func f' =>
    exfalso
    simp only[lowOp] at h
    (repeat' split at h)<;>simp[Option.bind_eq_some_iff] at h
   | _ =>
    simp only[lowOp,Option.bind_eq_bind,Option.bind_eq_some_iff,Option.pure_def,Option.some.injEq,ROp.callv.injEq] at h
    obtain⟨z,hz,l,hl',rfl,rfl⟩:=h
    exact⟨_,as,ts,rfl,hz,hl'⟩
 all_goals
  exfalso
  (first | simp only[lowOp] at h | unfold lowOp at h)
  (repeat' split at h)<;>simp_all [Option.bind_eq_some_iff]
  all_goals
   obtain⟨_,_,_,_,h⟩:=h
   split at h<;>simp at h
theorem low_snil {o:Op} {neg:Bool} {x:RX} (h:lowOp P o=some (.snil neg x)):∃bo t y z u e,o= .binOp bo t y z u∧P.underlying t=some (.slice e)∧lowX y=some x∧z= .const (.slice none 0 0)∧((bo= .eql∧neg=false)∨(bo= .neq∧neg=true)):=by
 cases o
 case binOp bo t y z u =>
  simp only[lowOp,Option.bind_eq_bind,Option.bind_eq_some_iff] at h
  obtain⟨y',h1,z',h2,h⟩:=h
  split at h
  ·split at h<;>simp only[Option.some.injEq,reduceCtorEq] at h
  ·split at h<;>simp only[Option.some.injEq,reduceCtorEq] at h
  ·split at h<;>simp only[Option.some.injEq,reduceCtorEq] at h
  ·rename_i e he
   have hz:z'= .k (.c (.slice none 0 0))→z= .const (.slice none 0 0):=by
    rintro rfl
    cases z<;>simp only[lowX,Option.some.injEq,reduceCtorEq,Option.map_eq_some_iff] at h2
    rename_i v
    obtain⟨a,h2,h3⟩:=h2
    cases h3
    unfold PV.ofValue at h2
    split at h2
    ·simp only[Option.map_eq_some_iff,reduceCtorEq,and_false,exists_false] at h2
    ·simp only[PV.ofFlat] at h2
     split at h2
     ·simp only[Option.some.injEq,PV.c.injEq] at h2;rw[h2]
     ·cases h2
   split at h<;>simp only[Option.some.injEq,ROp.snil.injEq,reduceCtorEq] at h
   ·obtain⟨rfl,rfl⟩:=h
    exact⟨_,_,_,_,_,_,rfl,he,h1,hz rfl,.inl ⟨rfl,rfl⟩⟩
   ·obtain⟨rfl,rfl⟩:=h
    exact⟨_,_,_,_,_,_,rfl,he,h1,hz rfl,.inr ⟨rfl,rfl⟩⟩
  ·split at h
   ·split at h<;>simp only[Option.some.injEq,reduceCtorEq] at h
   ·cases h
  ·cases h
 case call c =>
  exfalso
  obtain⟨callee,as,ts⟩:=c
  cases callee with
  | builtin b=>cases b<;>simp only[lowOp,lowBuiltin] at h<;>(repeat' split at h)<;>simp[Option.bind_eq_some_iff] at h
  | invoke r m=>simp[lowOp] at h
  | value y =>
   cases y with
   | func f'=>simp only[lowOp] at h;(repeat' split at h)<;>simp[Option.bind_eq_some_iff] at h
   | _=>simp[lowOp,Option.bind_eq_some_iff] at h
 all_goals
  exfalso
  (first | simp only[lowOp] at h | unfold lowOp at h)
  (repeat' split at h)<;>simp_all [Option.bind_eq_some_iff]
theorem equalIn_nil {t e:TypeId} (ht:P.underlying t=some (.slice e)) (d:Nat) (ba:Option Addr) (l c:Nat) (w:World):(Op.equalIn (d+1) t (.slice ba l c) (.slice none 0 0)).run P w= .ok ba.isNone w:=by
 cases ba<;>simp only[Op.equalIn,Sem.run_bind,run_underlying ht,Result.andThen_ok]<;>rfl
theorem bin_nil {t e:TypeId} (ht:P.underlying t=some (.slice e)) (ba:Option Addr) (l c:Nat) (w:World) :
  (binOp .eql t (.slice ba l c) (.slice none 0 0)).run P w= .ok (.bool ba.isNone) w∧(binOp .neq t (.slice ba l c) (.slice none 0 0)).run P w= .ok (.bool !ba.isNone) w:=by
 have h:(Op.equal t (.slice ba l c) (.slice none 0 0)).run P w= .ok ba.isNone w:=equalIn_nil ht 9999 ba l c w
 constructor
 ·show (do pure (Value.bool (←Op.equal t (.slice ba l c) (.slice none 0 0))):Sem Value).run P w=_
  rw[Sem.run_bind,h];rfl
 ·show (do pure (Value.bool (!(←Op.equal t (.slice ba l c) (.slice none 0 0)))):Sem Value).run P w=_
  rw[Sem.run_bind,h];rfl
theorem guard_slice (op:BinOp) (t:TypeId) (x y:Operand) (ba:Option Addr) (l c:Nat) (w:World):(eqGuard op t x y (.slice ba l c) (.slice none 0 0)).run P w= .ok () w:=by
 cases op<;>rfl
theorem rows_val {g:G} {H:Heap} {k:Nat} {x:AV} {v:Value} {rows:List (List PV)} (h:ARep g H k x v) (hr:rowsOf H x=some rows):∃ba len cap,v= .slice ba len cap∧(rows≠ []→ba≠none):=by
 unfold rowsOf at hr
 split at hr
 ·cases hr
  simp only[ARep,PRep] at h
  rcases h.2 with ⟨rfl,ba,e⟩ | ⟨b,off,cap,w,cs,t,fr,vals,e,_⟩
  ·exact⟨ba,0,0,e,fun h=>absurd rfl h⟩
  ·exact⟨_,_,_,e,fun _=>by simp⟩
 ·cases hr
  have:=Zdm h
  exact⟨none,0,0,this,fun h=>absurd rfl h⟩
 ·rename_i n off len
  split at hr
  ·rename_i rs hH
   split at hr
   ·rename_i hl
    cases hr
    simp only[ARep] at h
    obtain⟨a,cap,e,h1,h2⟩:=(h.2.2 rs hH).2 hl
    refine⟨a,len,cap,e,fun hne=>?_⟩
    rcases h2 with h2 | ⟨b,_,_,_,h2⟩
    ·exfalso
     apply hne
     exact List.drop_eq_nil_of_le (by omega)
    ·rw[h2];simp
   ·cases hr
  ·cases hr
 ·cases hr
theorem vOp_ok0 {o:Oper} {op:ROp} {st:St} {K:AV→Heap→Nat→Prop} {g:G} {w:World} {a:Act} (hl:lowOp P o.op=some op) (hs:Sim g w st a.tmps) (hv:vOp P op st K)
  (next:Act→World→Prop) (Q:Exit→Act→World→Prop) (hn:∀v x H' k' g' w',K v H' k'→ARep g' H' k' v x→SimH g' w' H' k'→Evo g w st.H st.k g' w' H' k'→next (a.put o.dst x) w'):o.wp P a w next Q:=by
 have plain:(∃v H' k',aop op st.ev st.H st.k=some (v,H',k')∧K v H' k')→o.wp P a w next Q:=by
  rintro⟨v,H',k',h1,h2⟩
  obtain⟨g',w',x,hr,hx,hs',he⟩:=sound o.op o rfl g w st.H st.k st.env a op v H' k' hs.h hs.env hl h1
  unfold Oper.wp
  rcases hr with hr | ⟨hr,rfl⟩
  ·rw[hr];exact hn _ _ _ _ _ _ h2 hx hs' he
  ·rw[hr];exact hn _ _ _ _ _ _ h2 hx hs' he
 have calls:∀(f:FuncId) (avs:List AV) (args:Array Value),(execOp a.eval o).run P w= .ok (.enter f args) w→ARepL g st.H st.k avs args.toList→ACalls P f avs st.H st.k K→o.wp P a w next Q:=by
  intro f avs args hr ha hc
  unfold Oper.wp
  rw[hr]
  refine (hc g w args hs.h ha).mono ?_
  rintro e w' ⟨v,r,g',H',k',rfl,hK,h1,h2,h3⟩
  exact hn _ _ _ _ _ _ hK h1 h2 h3
 cases op
 case call f args =>
  obtain⟨as,ts,ho,hx,hen⟩:=low_call hl
  refine calls f _ _ (call_runs ho hen) ?_ hv
  have:=Zef (k:=st.k) hs.env hx
  simpa using this
 case callv x args =>
  obtain⟨y,as,ts,ho,hy,hx⟩:=low_callv hl
  simp only[vOp] at hv
  split at hv
  ·rename_i f first cap hev
   have hr:=ZaR (k:=st.k) hs.env hy
   rw[hev] at hr
   simp only[ARep] at hr
   obtain⟨p,q,e,h1,h2⟩:=hr
   refine calls f _ _ (callv_runs ho e hv.1) ?_ hv.2
   have:=Zef (k:=st.k) hs.env hx
   simp only[Array.toList_append,Array.toList_map]
   exact (h1.append this).append h2
  ·exact hv.elim
 case snil neg x =>
  obtain⟨bo,t,y,z,u,e,ho,ht,hy,rfl,hb⟩:=low_snil hl
  simp only[vOp] at hv
  split at hv
  ·rename_i rows hrows
   obtain⟨ba,len,cap,hval,hne⟩:=rows_val (ZaR (k:=st.k) hs.env hy) hrows
   have hrun:(execOp a.eval o).run P w= .ok (.value (.bool (ba.isNone != neg))) w:=by
    have hz:a.eval (.const (.slice none 0 0))= .slice none 0 0:=rfl
    obtain⟨q1,q2⟩:=bin_nil (P:=P) ht ba len cap w
    simp only[execOp,ho,Sem.run_bind,Sem.run_pure,hval,hz,guard_slice,Result.andThen_ok]
    rcases hb with ⟨rfl,rfl⟩ | ⟨rfl,rfl⟩
    ·rw[q1];simp
    ·rw[q2];simp
   unfold Oper.wp
   rw[hrun]
   refine hn _ _ _ _ _ _ (hv ba.isNone fun h=>?_) (ZbZ _) hs.h Evo.refl
   have:=hne h
   cases ba
   ·exact absurd rfl this
   ·rfl
  ·exact hv.elim
 all_goals
  refine plain ?_
  simp only[vOp] at hv
  split at hv
  ·rename_i v H' k' h1
   exact⟨v,H',k',h1,hv⟩
  ·exact hv.elim
theorem vOp_ok {o:Oper} {op:ROp} {st:St} {K:AV→Heap→Nat→Prop} {g:G} {w:World} {a:Act} (hl:(lowOp P o.op).getD .bad=op) (hs:Sim g w st a.tmps) (hv:vOp P op st K)
  (next:Act→World→Prop) (Q:Exit→Act→World→Prop) (hn:∀v x H' k' g' w',K v H' k'→ARep g' H' k' v x→SimH g' w' H' k'→Evo g w st.H st.k g' w' H' k'→next (a.put o.dst x) w'):o.wp P a w next Q:=by
 cases h:lowOp P o.op with
 | none =>
  rw[h] at hl
  have hl':ROp.bad=op:=hl
  subst hl'
  simp only[vOp,aop] at hv
 | some op' =>
  rw[h] at hl
  have hl':op'=op:=hl
  subst hl'
  exact vOp_ok0 h hs hv next Q hn
theorem yielded_ok {g:G} {st:St} {ops:Array Oper} {a:Act} {w:World} {nt:Nat} (hs:Sim g w st a.tmps) (hsz:a.tmps.size=nt) {j d:Nat} (hj:(ops[j]?).bind (·.dst)=some d) (hd:d<nt) {x:Bool} (hx:st.env.get d= .p (.c (.bool x))) :
  yielded ops a.tmps j=some x:=by
 have:=hs.env d
 rw[hx] at this
 have e:=Zdm this
 have hlt:d<a.tmps.size:=by omega
 simp only[Array.getD_eq_getD_getElem?,Array.getElem?_eq_getElem hlt,Option.getD_some] at e
 simp[yielded,hj,Array.getElem?_eq_getElem hlt,e]
theorem yielded_tup {g:G} {st:St} {ops:Array Oper} {a:Act} {w:World} {nt:Nat} (hs:Sim g w st a.tmps) (hsz:a.tmps.size=nt) {j d:Nat} (hj:(ops[j]?).bind (·.dst)=some d) (hd:d<nt) {l:List AV} (hx:st.env.get d= .tup l) :
  yielded ops a.tmps j=none:=by
 have:=hs.env d
 rw[hx] at this
 simp only[ARep] at this
 obtain⟨vs,e,_⟩:=this
 have hlt:d<a.tmps.size:=by omega
 simp only[Array.getD_eq_getD_getElem?,Array.getElem?_eq_getElem hlt,Option.getD_some] at e
 simp[yielded,hj,Array.getElem?_eq_getElem hlt,e]
theorem wpOps_ok {nt:Nat} {ops:Array Oper} (hall:∀o∈ops.toList,o.dst.all (· <nt)=true) {Q:St→Prop} {R:Exit→Act→World→Prop} (g0:G) (w0:World) (H0:Heap) (k0:Nat)
  (hR:∀g w st a,Q st→a.tmps.size=nt→a.defers= []→Sim g w st a.tmps→Evo g0 w0 H0 k0 g w st.H st.k→R .normal a w) :
  ∀(n i:Nat) (ls:List LOp) (g:G) (w:World) (st:St) (a:Act),i+n=ops.size→(ops.toList.drop i).mapM (lowOper P nt ops)=some ls→a.tmps.size=nt→a.defers= []→Sim g w st a.tmps→Evo g0 w0 H0 k0 g w st.H st.k →
   vOps P ls st Q→wpOps P ops R (List.range' i n) a w
 | 0,i,ls,g,w,st,a,hi,hl,h1,h2,h3,h4,hv=>by
  have hd:ops.toList.drop i= []:=List.drop_eq_nil_of_le (by simp;omega)
  rw[hd] at hl
  simp at hl
  subst hl
  exact hR g w st a hv h1 h2 h3 h4
 | n+1,i,ls,g,w,st,a,hi,hl,h1,h2,h3,h4,hv=>by
  have hlt:i<ops.size:=by omega
  have hlt':i<ops.toList.length:=by simpa using hlt
  rw[List.drop_eq_getElem_cons hlt'] at hl
  simp only[List.mapM_cons,Option.bind_eq_bind,Option.bind_eq_some_iff,Option.pure_def,Option.some.injEq] at hl
  obtain⟨l,hl1,ls',hl2,rfl⟩:=hl
  have hget:ops[i]? =some ops.toList[i]:=by simp[hlt]
  obtain⟨p1,p2,p3,p4⟩:=Zbs hl1
  have cont:∀v x H' k' g' w',vOps P ls' (St.put ⟨st.env,H',k'⟩ l.dst v) Q→ARep g' H' k' v x→SimH g' w' H' k'→Evo g w st.H st.k g' w' H' k'→wpOps P ops R (List.range' (i+1) n) (a.put ops.toList[i].dst x) w':=by
   intro v x H' k' g' w' hv' hx hs' he
   have hput:=env_put (H0:=H') (k0:=k') h1 (fun t=>ARep.keeps he.keeps _ _ (h3.env t)) (dst:=l.dst) (by rw[p2];exact p3) hx
   rw[p2] at hput
   rw[p2] at hv'
   have hst:∀(d:Option Nat),(St.put ⟨st.env,H',k'⟩ d v).H=H'∧(St.put ⟨st.env,H',k'⟩ d v).k=k':=fun d=>by cases d<;>exact⟨rfl,rfl⟩
   refine wpOps_ok hall g0 w0 H0 k0 hR n (i+1) ls' g' w' (St.put ⟨st.env,H',k'⟩ ops.toList[i].dst v) _ (by omega) hl2 (by rw[put_size];exact h1) (by rw[Zfv];exact h2) ⟨?_,?_⟩ ?_ hv'
   ·rw[(hst _).1,(hst _).2];exact hput
   ·rw[(hst _).1,(hst _).2];exact hs'
   ·rw[(hst _).1,(hst _).2];exact h4.trans he
  have skip:vOps P ls' (st.put l.dst (.tup [])) Q→wpOps P ops R (List.range' (i+1) n) (a.put ops.toList[i].dst undef) w:=fun hv' =>
   cont (.tup []) undef st.H st.k g w hv' (by simp[ARep,ARepL,undef]) h3.h Evo.refl
  rw[List.range'_succ]
  simp only[wpOps,hget]
  simp only[vOps] at hv
  rcases p4 with ⟨q1,q2⟩ | ⟨j,b,d,q1,q2,q3⟩
  ·rw[q2] at hv
   have hw:Region.wanted ops.toList[i] (yielded ops a.tmps)=true:=by unfold Region.wanted;rw[q1]
   rw[hw]
   exact .inl (vOp_ok p1 h3 hv _ _ cont)
  ·rw[q3] at hv
   simp only at hv
   have hdlt:d<nt:=by
    cases hj:ops[j]? with
    | none=>simp[hj] at q2
    | some oj =>
     simp only[hj,Option.bind_some] at q2
     have:=hall oj (List.mem_of_getElem? (by simpa using hj))
     simpa [q2] using this
   split at hv
   ·rename_i x hx
    have hy:=yielded_ok h3 h1 q2 hdlt hx
    by_cases e:x=b
    ·have hw:Region.wanted ops.toList[i] (yielded ops a.tmps)=true:=by unfold Region.wanted;rw[q1];simp[hy,e]
     rw[hw]
     exact .inl (vOp_ok p1 h3 (hv.1 e) _ _ cont)
    ·have hw:Region.wanted ops.toList[i] (yielded ops a.tmps)=false:=by unfold Region.wanted;rw[q1];simp[hy,e]
     rw[hw]
     exact skip (hv.2 e)
   ·rename_i l' hx
    have hy:=yielded_tup h3 h1 q2 hdlt hx
    have hw:Region.wanted ops.toList[i] (yielded ops a.tmps)=false:=by unfold Region.wanted;rw[q1];simp[hy]
    rw[hw]
    exact skip hv
   ·exact hv.elim
theorem ZdT {nt:Nat} {ops:Array Oper}:∀ {l:List Oper} {ls:List LOp},l.mapM (lowOper P nt ops)=some ls→∀o∈l,o.dst.all (· <nt)=true
 | [],_,_,o,ho=>by cases ho
 | x :: l,ls,h,o,ho=>by
  simp only[List.mapM_cons,Option.bind_eq_bind,Option.bind_eq_some_iff,Option.pure_def,Option.some.injEq] at h
  obtain⟨y,h1,ls',h2,rfl⟩:=h
  cases ho with
  | head=>exact (Zbs h1).2.2.1
  | tail _ ho=>exact ZdT h2 o ho
theorem Zaj {nt:Nat} {ls:List LOp} {Q:RExit→St→Prop} {st:St} (h:vOps P ls st (Q .normal)):AWr P nt (.region false ls) Q st:=by
 intro c hc g w a h1 h2 h3
 obtain⟨id,ops,rfl,hl,_⟩:=ZgG hc
 refine wp_region ?_
 rw[List.range_eq_range']
 exact wpOps_ok (P:=P) (ZdT hl) g w st.H st.k (Q:=Q .normal) (fun g' w' st' a' q1 q2 q3 q4 q5=>⟨.normal,st',g',trivial,q1,q2,q3,q4,q5⟩) ops.size 0 ls g w st a (by omega) (by simpa using hl) h1 h2 h3 Evo.refl h
end Go.Abs
namespace Go.Abs
open Go
variable {P:Program}
mutual
def ZaH (k:Nat):AV→Prop
 | .bp n _=>n<k
 | .ep n _ _ _=>n<k
 | .os n _ _=>n<k
 | .mp n=>n<k
 | .agg cs=>ZaC k cs
 | .tup cs=>ZaC k cs
 | .fn _ a b=>ZaC k a∧ZaC k b
 | .ifc _ x=>ZaH k x
 | .p _=>True
 | .junk=>True
def ZaC (k:Nat):List AV→Prop
 | []=>True
 | x :: xs=>ZaH k x∧ZaC k xs
end
def Zat (k:Nat):AObj→Prop
 | .cells cs=>ZaC k cs
 | _=>True
mutual
theorem ARep.sub {g:G} {H H':Heap} {k k':Nat} (hH:∀n o,H'.get n=some o→H.get n=some o):∀(x:AV) (v:Value),ARep g H k x v→ZaH k' x→ARep g H' k' x v
 | .p x,v,h,_=>by simp only[ARep] at *;exact h
 | .junk,_,_,_=>by simp only[ARep]
 | .agg cs,v,h,hb=>by
  simp only[ARep,ZaH] at *
  obtain⟨vs,e,hl⟩:=h
  exact⟨vs,e,ARepL.sub hH cs _ hl hb⟩
 | .tup cs,v,h,hb=>by
  simp only[ARep,ZaH] at *
  obtain⟨vs,e,hl⟩:=h
  exact⟨vs,e,ARepL.sub hH cs _ hl hb⟩
 | .bp n off,v,h,hb=>by
  simp only[ARep,ZaH] at *
  exact⟨hb,h.2.1,fun cs hcs=>h.2.2 cs (hH _ _ hcs)⟩
 | .ep n i j len,v,h,hb=>by
  simp only[ARep,ZaH] at *
  exact⟨hb,h.2.1,fun cs hcs=>h.2.2 cs (hH _ _ hcs)⟩
 | .os n off len,v,h,hb=>by
  simp only[ARep,ZaH] at *
  exact⟨hb,h.2.1,fun cs hcs=>h.2.2 cs (hH _ _ hcs)⟩
 | .mp n,v,h,hb=>by
  simp only[ARep,ZaH] at *
  exact⟨hb,h.2.1,fun cs hcs=>h.2.2 cs (hH _ _ hcs)⟩
 | .fn f a b,v,h,hb=>by
  simp only[ARep,ZaH] at *
  obtain⟨x,y,e,h1,h2⟩:=h
  exact⟨x,y,e,ARepL.sub hH _ _ h1 hb.1,ARepL.sub hH _ _ h2 hb.2⟩
 | .ifc t x,v,h,hb=>by
  simp only[ARep,ZaH] at *
  obtain⟨y,e,h1⟩:=h
  exact⟨y,e,ARep.sub hH _ _ h1 hb⟩
theorem ARepL.sub {g:G} {H H':Heap} {k k':Nat} (hH:∀n o,H'.get n=some o→H.get n=some o):∀(x:List AV) (v:List Value),ARepL g H k x v→ZaC k' x→ARepL g H' k' x v
 | [],_,h,_=>by simp only[ARepL] at *;exact h
 | x :: xs,v,h,hb=>by
  simp only[ARepL,ZaC] at *
  obtain⟨a,r,e,h1,h2⟩:=h
  exact⟨a,r,e,ARep.sub hH x a h1 hb.1,ARepL.sub hH xs r h2 hb.2⟩
end
theorem SimH.sub {g:G} {w:World} {H H':Heap} {k k':Nat} (hs:SimH g w H k) (hH:∀n o,H'.get n=some o→H.get n=some o) (hb:∀n o,H'.get n=some o→n<k'∧Zat k' o):SimH g w H' k' where
  obj:=fun n o h=>by
    obtain⟨h1,h2,h3⟩:=hs.obj n o (hH n o h)
    refine⟨(hb n o h).1,?_,h3⟩
    have:=(hb n o h).2
    cases o with
    | cells cs =>
      simp only[ORep,Zat] at *
      obtain⟨b,vs,t,a1,a2,a3⟩:=h2
      exact⟨b,vs,t,a1,a2,ARepL.sub hH _ _ a3 this⟩
    | slice rows=>simpa only[ORep] using h2
    | map es=>simpa only[ORep] using h2
  inj:=fun n m b h1 h2=>hs.inj n m b (fun h=>by
      cases h':H'.get n with
      | none=>exact h1 h'
      | some o=>rw[hH n o h'] at h;cases h) (fun h=>by
      cases h':H'.get m with
      | none=>exact h2 h'
      | some o=>rw[hH m o h'] at h;cases h)
  fz:=hs.fz
theorem Evo.sub {g0 g:G} {w0 w:World} {H0 H H':Heap} {k0 k k':Nat} (e:Evo g0 w0 H0 k0 g w H k) (hH:∀n o,H'.get n=some o→H.get n=some o) (hk:k0≤k'):Evo g0 w0 H0 k0 g w H' k' where
  kle:=hk
  os:=e.os
  tape:=e.tape
  output:=e.output
  size:=e.size
  fz:=e.fz
  fzNew:=e.fzNew
  frame:=e.frame
  names:=e.names
  dom:=fun n hn h=>by
    cases h':H'.get n with
    | none=>rfl
    | some o=>have:=e.dom n hn h;rw[hH n o h'] at this;cases this
  compat:=fun n o o' hn h h'=>e.compat n o o' hn h (hH n o' h')
  blks:=fun n b h h'=>e.blks n b (fun h2=>by
    cases h3:H'.get n with
    | none=>exact h h3
    | some o=>rw[hH n o h3] at h2;cases h2) h'
def Zaq (k:Nat) (env:Env):Env→Prop
 | []=>True
 | (t,x) :: r=>env.get t=x∧ZaH k x∧Zaq k env r
def Zao (k:Nat) (H:Heap):Heap→Prop
 | []=>True
 | (n,o) :: r=>H.get n=some o∧n<k∧Zat k o∧Zao k H r
theorem Zei {k:Nat} {H:Heap}:∀ {H':Heap},Zao k H H'→∀n o,H'.get n=some o→H.get n=some o∧n<k∧Zat k o
 | [],_,n,o,h=>by simp[Heap.get] at h
 | (m,x) :: r,hs,n,o,h=>by
  simp only[Zao] at hs
  simp only[Heap.get] at h
  split at h
  ·rename_i e;subst e;cases h;exact⟨hs.1,hs.2.1,hs.2.2.1⟩
  ·exact Zei hs.2.2.2 n o h
theorem envSub_get {k:Nat} {env:Env}:∀ {E:Env},Zaq k env E→∀t,E.get t= .junk∨(env.get t=E.get t∧ZaH k (E.get t))
 | [],_,t=> .inl rfl
 | (m,x) :: r,hs,t=>by
  simp only[Zaq] at hs
  simp only[Env.get]
  split
  ·rename_i e;subst e;exact .inr ⟨hs.1,hs.2.1⟩
  ·exact envSub_get hs.2.2 t
theorem Upd.sub {k0:Nat} {s:St} {E:Env} {H:Heap} {k:Nat} (hk:k0≤k) (he:Zaq k s.env E) (hh:Zao k s.H H):Upd k0 s ⟨E,H,k⟩:=by
 intro g w tm hs
 have hH:∀n o,H.get n=some o→s.H.get n=some o:=fun n o h=>(Zei hh n o h).1
 refine⟨g,⟨fun t=>?_,hs.h.sub hH fun n o h=>(Zei hh n o h).2⟩,fun g0 w0 H0 e=>e.sub hH hk⟩
 rcases envSub_get he t with h | ⟨h1,h2⟩
 ·show ARep g H k (E.get t) _
  rw[h];simp[ARep]
 ·have:=hs.env t
  rw[h1] at this
  exact ARep.sub hH _ _ this h2
theorem lb {a b:Nat} (h:Nat.ble a b=true:=by exact rfl):a≤b:=Nat.le_of_ble_eq_true h
theorem us {k0:Nat} {s:St} {E:Env} {H:Heap} {k:Nat} (hk:k0≤k:=by exact lb) (he:Zaq k s.env E:=by simp[go_sem,Zaq,Env.get]) (hh:Zao k s.H H:=by simp[go_sem,Zao,Heap.get,Zat]):Upd k0 s ⟨E,H,k⟩:=Upd.sub hk he hh
mutual
def AV.frz (q:Nat→Bool) (H:Heap):AV→AV
 | .os n off len=>match q n,H.get n with
  | true,some (.slice rows)=>if off+len=rows.length then .p (.sl (rows.drop off)) else .os n off len
  | _,_=> .os n off len
 | .agg cs=>AV.ofCells (frzL q H cs)
 | .tup cs=> .tup (frzL q H cs)
 | .p x=> .p x
 | .bp n o=>match q n,H.get n with
  | true,some (.cells cs)=>match allP cs with
   | some ps=> .p (.ptr (ps.drop o))
   | none=> .bp n o
  | _,_=> .bp n o
 | .ep a b c d=> .ep a b c d
 | .mp n=>match q n,H.get n with
  | true,some (.map es)=> .p (.mp es)
  | _,_=> .mp n
 | .fn f a b=> .fn f (frzL q H a) (frzL q H b)
 | .ifc t x=> .ifc t (AV.frz q H x)
 | .junk=> .junk
def frzL (q:Nat→Bool) (H:Heap):List AV→List AV
 | []=> []
 | x :: xs=>AV.frz q H x :: frzL q H xs
end
def AObj.frz (q:Nat→Bool) (H:Heap):AObj→AObj
 | .cells cs=> .cells (frzL q H cs)
 | .slice rows=> .slice rows
 | .map es=> .map es
def isShut (q:Nat→Bool):Nat→AObj→Bool
 | n,.slice _=>q n
 | n,.map _=>q n
 | n,.cells cs=>q n && (allP cs).isSome
def Heap.frz (q:Nat→Bool) (H0:Heap):Heap→Heap
 | []=> []
 | (n,o) :: r=>if isShut q n o then Heap.del (Heap.frz q H0 r) n else (n,o.frz q H0) :: Heap.frz q H0 r
def Env.frz (q:Nat→Bool) (H0:Heap):Env→Env
 | []=> []
 | (t,x) :: r=>(t,x.frz q H0) :: Env.frz q H0 r
def St.frz (q:Nat→Bool) (s:St):St:=⟨s.env.frz q s.H,s.H.frz q s.H,s.k⟩
theorem Zd2 (q:Nat→Bool) (H0:Heap):∀(H:Heap) (n:Nat),(Heap.frz q H0 H).get n=match H.get n with | some o=>if isShut q n o then none else some (o.frz q H0) | none=>none
 | [],n=>by simp[Heap.frz,Heap.get]
 | (m,o) :: r,n=>by
  simp only[Heap.frz]
  split
  ·rename_i hsh
   rw[Heap.get_del]
   by_cases e:m=n
   ·subst e;simp[Heap.get,hsh]
   ·simp only[if_neg e,Heap.get,Zd2 q H0 r n]
  ·rename_i hsh
   by_cases e:m=n
   ·subst e;simp[Heap.get,hsh]
   ·simp only[Heap.get,if_neg e,Zd2 q H0 r n]
open Classical in
noncomputable def shutG (q:Nat→Bool) (g:G) (w:World) (H:Heap):G :=
 {ρ:=g.ρ,fz:=fun b=>if ∃n o,H.get n=some o∧isShut q n o=true∧(g.ρ n).has b then w.heap[b]? else g.fz b}
theorem Zfi {q:Nat→Bool} {g:G} {w:World} {H:Heap} {k:Nat} (hs:SimH g w H k):∀b o,g.fz b=some o→(shutG q g w H).fz b=some o:=by
 intro b o h
 simp only[shutG]
 rw[if_neg]
 ·exact h
 ·rintro⟨n,o,hn,_,hb⟩
  rw[((hs.obj n _ hn).2.2 b hb).1] at h
  cases h
mutual
theorem frz_rep {q:Nat→Bool} {g:G} {w:World} {H:Heap} {k:Nat} (hs:SimH g w H k):∀(x:AV) (v:Value),ARep g H k x v→ARep (shutG q g w H) (H.frz q H) k (x.frz q H) v
  | .p x,v,h=>by simp only[AV.frz,ARep] at *;exact PRep.mono (Zfi hs) _ _ h
  | .junk,_,_=>by simp only[AV.frz,ARep]
  | .agg cs,v,h=>by
    simp only[AV.frz]
    simp only[ARep] at h
    obtain⟨vs,rfl,hl⟩:=h
    exact Ze2 (Zeu hs cs _ hl)
  | .tup cs,v,h=>by
    simp only[AV.frz,ARep] at *
    obtain⟨vs,e,hl⟩:=h
    exact⟨vs,e,Zeu hs cs _ hl⟩
  | .bp n off,v,h=>by
    simp only[ARep] at h
    have keep:(∀cs,H.get n=some (.cells cs)→isShut q n (.cells cs)=false)→ARep (shutG q g w H) (H.frz q H) k (.bp n off) v:=by
      intro hne
      simp only[ARep]
      refine⟨h.1,h.2.1,fun cs hcs=>?_⟩
      rw[Zd2] at hcs
      cases hn:H.get n with
      | none=>rw[hn] at hcs;cases hcs
      | some o =>
        rw[hn] at hcs
        simp only at hcs
        split at hcs
        · cases hcs
        · cases o<;>simp only[AObj.frz,Option.some.injEq,reduceCtorEq] at hcs
          exact h.2.2 _ hn
    simp only[AV.frz]
    split
    · rename_i cs hq hn
      split
      · rename_i ps hps
        obtain⟨b,hb,rfl⟩:=h.2.2 cs hn
        obtain⟨_,ho',hblk⟩:=hs.obj n _ hn
        simp only[ORep] at ho'
        obtain⟨b',vs,t,hb',hw',hr⟩:=ho'
        rw[hb] at hb';cases hb'
        have hf:(shutG q g w H).fz b=some (.cells vs t (0,0)):=by
          simp only[shutG]
          rw[if_pos ⟨n,_,hn,by simp[isShut,hq,hps],.inl hb⟩,hw']
        rw[Zff hps] at hr
        simp only[ARep,PRep]
        exact⟨b,off,vs,t,(0,0),vs.toList.drop off,rfl,hf,(PRepL.mono (Zfi hs) _ _ (ARepL.ofP.1 hr)).drop off,fun j x hj=>by simpa using hj⟩
      · rename_i hps
        exact keep fun cs' hn'=>by rw[hn] at hn';cases hn';simp[isShut,hps]
    · rename_i hno
      refine keep fun cs hn=>?_
      cases hq:q n with
      | false=>simp[isShut,hq]
      | true=>exact (hno cs hq hn).elim
  | .ep n i j len,v,h=>by
    simp only[AV.frz,ARep] at *
    refine⟨h.1,h.2.1,fun cs hcs=>?_⟩
    rw[Zd2] at hcs
    cases hn:H.get n with
    | none=>rw[hn] at hcs;cases hcs
    | some o =>
      rw[hn] at hcs
      simp only at hcs
      split at hcs
      · cases hcs
      · cases o<;>simp only[AObj.frz,Option.some.injEq,reduceCtorEq,AObj.slice.injEq] at hcs
        subst hcs
        exact h.2.2 _ hn
  | .os n off len,v,h=>by
    simp only[ARep] at h
    have keep:(∀rows,q n=true→H.get n=some (.slice rows)→off+len≠rows.length)→ARep (shutG q g w H) (H.frz q H) k (.os n off len) v:=by
      intro hne
      simp only[ARep]
      refine⟨h.1,h.2.1,fun rows hcs=>?_⟩
      rw[Zd2] at hcs
      cases hn:H.get n with
      | none=>rw[hn] at hcs;cases hcs
      | some o =>
        rw[hn] at hcs
        simp only at hcs
        split at hcs
        · cases hcs
        · cases o<;>simp only[AObj.frz,Option.some.injEq,reduceCtorEq,AObj.slice.injEq] at hcs
          subst hcs
          exact h.2.2 _ hn
    simp only[AV.frz]
    split
    · rename_i rows hq hn
      split
      · rename_i hup
        simp only[ARep,PRep]
        obtain⟨hle,hos⟩:=h.2.2 rows hn
        obtain⟨ad,cap,rfl,hlc,hcap⟩:=hos hup
        obtain⟨_,ho',hblk⟩:=hs.obj n _ hn
        simp only[ORep] at ho'
        obtain⟨o1,o2,o3,o4,o6,o5⟩:=ho'
        have hlen:(rows.drop off).length=len:=by simp;omega
        refine⟨by rw[hlen];unfold lim at o1;unfold top;omega,?_⟩
        rcases hcap with rfl | ⟨b,hb,hdrop,hocap,rfl⟩
        ·
          have hl0:len=0:=by omega
          have hz:rows.drop off= []:=List.eq_nil_of_length_eq_zero (by omega)
          exact .inl ⟨hz,ad,by rw[hl0]⟩
        · obtain⟨cs,t,vals,hw',hcap',hvals,hat,hsz⟩:=o5 b hb
          have hf:(shutG q g w H).fz b=some (.cells cs t (0,0)):=by
            simp only[shutG]
            rw[if_pos ⟨n,_,hn,by simp[isShut,hq],.inl hb⟩,hw']
          have hv2:=hvals.drop (off - (g.ρ n).drop)
          rw[List.drop_drop,show (g.ρ n).drop+(off - (g.ρ n).drop)=off by omega] at hv2
          refine .inr ⟨b,_,cap,(g.ρ n).w,cs,t,(0,0),_,by rw[hlen],by omega,hf,PRepLL.mono (Zfi hs) _ _ hv2,hat.drop _⟩
      · rename_i hup
        exact keep fun rows' _ h'=>by rw[hn] at h';cases h';exact hup
    · rename_i hno
      refine keep fun rows hq hn=>?_
      exact (hno rows hq hn).elim
  | .mp n,v,h=>by
    simp only[ARep] at h
    have keep:(∀es,H.get n=some (.map es)→q n=false)→ARep (shutG q g w H) (H.frz q H) k (.mp n) v:=by
      intro hne
      simp only[ARep]
      refine⟨h.1,h.2.1,fun cs hcs=>?_⟩
      rw[Zd2] at hcs
      cases hn:H.get n with
      | none=>rw[hn] at hcs;cases hcs
      | some o =>
        rw[hn] at hcs
        simp only at hcs
        split at hcs
        · cases hcs
        · cases o<;>simp only[AObj.frz,Option.some.injEq,reduceCtorEq,AObj.map.injEq] at hcs
          subst hcs
          exact h.2.2 _ hn
    simp only[AV.frz]
    split
    · rename_i es hq hn
      obtain⟨b,hb,rfl⟩:=h.2.2 es hn
      obtain⟨_,ho',hblk⟩:=hs.obj n _ hn
      simp only[ORep] at ho'
      obtain⟨b',ms,clock,hb',hw',hr,hd⟩:=ho'
      rw[hb] at hb';cases hb'
      have hf:(shutG q g w H).fz b=some (.map ms clock):=by
        simp only[shutG]
        rw[if_pos ⟨n,_,hn,by simp[isShut,hq],.inl hb⟩,hw']
      simp only[ARep,PRep]
      exact⟨b,ms,clock,rfl,hf,PRepM.mono (Zfi hs) _ _ hr.pairs⟩
    · rename_i hno
      refine keep fun es hn=>?_
      cases hq:q n with
      | false=>rfl
      | true=>exact (hno es hq hn).elim
  | .fn f a b,v,h=>by
    simp only[AV.frz,ARep] at *
    obtain⟨x,y,e,h1,h2⟩:=h
    exact⟨x,y,e,Zeu hs _ _ h1,Zeu hs _ _ h2⟩
  | .ifc t x,v,h=>by
    simp only[AV.frz,ARep] at *
    obtain⟨y,e,h1⟩:=h
    exact⟨y,e,frz_rep hs _ _ h1⟩
theorem Zeu {q:Nat→Bool} {g:G} {w:World} {H:Heap} {k:Nat} (hs:SimH g w H k):∀(x:List AV) (v:List Value),ARepL g H k x v→ARepL (shutG q g w H) (H.frz q H) k (frzL q H x) v
 | [],_,h=>by simp only[frzL,ARepL] at *;exact h
 | x :: xs,v,h=>by
  simp only[frzL,ARepL] at *
  obtain⟨a,r,e,h1,h2⟩:=h
  exact⟨a,r,e,frz_rep hs x a h1,Zeu hs xs r h2⟩
end
theorem SimH.frz {q:Nat→Bool} {g:G} {w:World} {H:Heap} {k:Nat} (hs:SimH g w H k):SimH (shutG q g w H) w (H.frz q H) k where
 obj:=fun n o h=>by
  rw[Zd2] at h
  cases hn:H.get n with
  | none=>rw[hn] at h;cases h
  | some o0 =>
   rw[hn] at h
   simp only at h
   split at h
   ·cases h
   ·rename_i hsh
    cases h
    obtain⟨h1,h2,h3⟩:=hs.obj n o0 hn
    refine⟨h1,?_,fun b hb=>⟨?_,(h3 b hb).2⟩⟩
    ·cases o0 with
     | cells cs =>
      simp only[AObj.frz,ORep] at *
      obtain⟨b,vs,t,a1,a2,a3⟩:=h2
      exact⟨b,vs,t,a1,a2,Zeu hs _ _ a3⟩
     | slice rows =>
      simp only[AObj.frz,ORep] at *
      obtain⟨o1,o2,o3,o4,o6,o5⟩:=h2
      refine⟨o1,o2,o3,o4,o6,fun b hb=>?_⟩
      obtain⟨cs,t,vals,a1,a2,a3,a4⟩:=o5 b hb
      exact⟨cs,t,vals,a1,a2,PRepLL.mono (Zfi hs) _ _ a3,a4⟩
     | map es =>
      simp only[AObj.frz,ORep] at *
      obtain⟨b,ms,c,a1,a2,a3,a4⟩:=h2
      exact⟨b,ms,c,a1,a2,MRep.mono (Zfi hs) (Nat.le_refl _) _ _ a3,a4⟩
    ·simp only[shutG]
     rw[if_neg]
     ·exact (h3 b hb).1
     ·rintro⟨m,o1,hm,hq,hbm⟩
      have:=hs.inj n m b (by rw[hn];simp) (by rw[hm];simp) hb hbm
      subst this
      rw[hn] at hm;cases hm
      exact hsh hq
 inj:=fun n m b h1 h2 h3 h4=>by
  refine hs.inj n m b (fun h=>h1 ?_) (fun h=>h2 ?_) h3 h4<;>rw[Zd2,h]
 fz:=fun b o h=>by
  simp only[shutG] at h
  split at h
  ·exact h
  ·exact hs.fz b o h
theorem Evo.frz {q:Nat→Bool} {g0 g:G} {w0 w:World} {H0 H:Heap} {k0 k:Nat} (hs:SimH g w H k) (e:Evo g0 w0 H0 k0 g w H k):Evo g0 w0 H0 k0 (shutG q g w H) w (H.frz q H) k where
 kle:=e.kle
 os:=e.os
 tape:=e.tape
 output:=e.output
 size:=e.size
 fz:=fun b o h=>Zfi hs _ _ (e.fz b o h)
 fzNew:=fun b o h=>by
  simp only[shutG] at h
  split at h
  ·rename_i hc
   obtain⟨n,o1,hn,hq,hb⟩:=hc
   exact .inr (e.blks n b (by rw[hn];simp) hb)
  ·exact e.fzNew b o h
 frame:=e.frame
 names:=e.names
 dom:=fun n hn h=>by rw[Zd2,e.dom n hn h]
 compat:=fun n o o' hn h h'=>by
  rw[Zd2] at h'
  cases hn':H.get n with
  | none=>rw[hn'] at h';cases h'
  | some o2 =>
   rw[hn'] at h'
   simp only at h'
   split at h'
   ·cases h'
   ·cases h'
    have:=e.compat n o o2 hn h hn'
    show Compat (g0.ρ n) (g.ρ n) o (o2.frz q H)
    cases o<;>cases o2<;>simp only[Compat,AObj.frz] at* <;>exact this
 blks:=fun n b h h'=>e.blks n b (fun h2=>h (by rw[Zd2,h2])) h'
theorem Upd.frz (q:Nat→Bool) (k0:Nat) (s:St):Upd k0 s (s.frz q):=by
 intro g w tm hs
 refine⟨shutG q g w s.H,⟨fun t=>?_,hs.h.frz⟩,fun g0 w0 H0 e=>e.frz hs.h⟩
 have h1:=frz_rep (q:=q) hs.h _ _ (hs.env t)
 have h2:∀(E:Env),(Env.frz q s.H E).get t= .junk∨(Env.frz q s.H E).get t=(E.get t).frz q s.H:=by
  intro E
  induction E with
  | nil=>exact .inl rfl
  | cons a E ih =>
   obtain⟨m,x⟩:=a
   simp only[Env.frz,Env.get]
   split
   ·exact .inr rfl
   ·exact ih
 show ARep _ _ _ ((Env.frz q s.H s.env).get t) _
 rcases h2 s.env with h | h
 ·rw[h];simp[ARep]
 ·rw[h];exact h1
inductive RRes where
 | t (n:Nat)
 | c (n sz:Nat) (agg:Bool)
structure RFun where
 nt:Nat
 np:Nat
 res:List RRes
 code:RCode
def lowRes (P:Program):ResultVar→Option RRes
 | .tmp n=>some (.t n)
 | .cell n ty=>do pure (.c n (←sizeT P ty) (←isAggT P ty))
def lowF (P:Program) (f:FuncId):Option RFun:=do
 let fn←P.funcs[f]?
 let c←fn.body
 if fn.params.size+fn.nfree>fn.ntmps then none else
 pure ⟨fn.ntmps,fn.params.size+fn.nfree,←fn.results.toList.mapM (lowRes P),←lower P fn.ntmps c⟩
def res1 (s:St):RRes→Option AV
 | .t n=>some (s.env.get n)
 | .c n sz agg=>match s.env.get n with
  | .bp m off=>match s.H.get m with
   | some (.cells cs)=>cut sz agg (cs.drop off)
   | _=>none
  | _=>none
def resv (rs:List RRes) (s:St):Option AV:=match rs.mapM (res1 s) with
 | some [x]=>some x
 | some xs=>some (.tup xs)
 | none=>none
def RUpd (k0:Nat) (r:AV) (H:Heap) (k:Nat) (r':AV) (H':Heap) (k':Nat):Prop :=
 ∀(g:G) (w:World) (v:Value),SimH g w H k→ARep g H k r v→∃g',SimH g' w H' k'∧ARep g' H' k' r' v∧∀(g0:G) (w0:World) (H0:Heap),Evo g0 w0 H0 k0 g w H k→Evo g0 w0 H0 k0 g' w H' k'
theorem RUpd.refl (k0:Nat) (r:AV) (H:Heap) (k:Nat):RUpd k0 r H k r H k:=fun g w v h1 h2=>⟨g,h1,h2,fun _ _ _ e=>e⟩
theorem RUpd.trans {k0:Nat} {r r' r'':AV} {H H' H'':Heap} {k k' k'':Nat} (h:RUpd k0 r H k r' H' k') (h':RUpd k0 r' H' k' r'' H'' k''):RUpd k0 r H k r'' H'' k'':=fun g w v h1 h2=>by
 obtain⟨g1,a1,a2,a3⟩:=h g w v h1 h2
 obtain⟨g2,b1,b2,b3⟩:=h' g1 w v a1 a2
 exact⟨g2,b1,b2,fun _ _ _ e=>b3 _ _ _ (a3 _ _ _ e)⟩
theorem RUpd.frz (q:Nat→Bool) (k0:Nat) (r:AV) (H:Heap) (k:Nat):RUpd k0 r H k (r.frz q H) (H.frz q H) k:=fun g w v h1 h2 =>
 ⟨shutG q g w H,h1.frz,frz_rep h1 _ _ h2,fun _ _ _ e=>e.frz h1⟩
theorem RUpd.sub {k0:Nat} {r:AV} {H H':Heap} {k k':Nat} (hk:k0≤k') (hr:ZaH k' r) (hh:Zao k' H H'):RUpd k0 r H k r H' k':=fun g w v h1 h2=>by
 have hH:∀n o,H'.get n=some o→H.get n=some o:=fun n o h=>(Zei hh n o h).1
 exact⟨g,h1.sub hH fun n o h=>(Zei hh n o h).2,ARep.sub hH _ _ h2 hr,fun _ _ _ e=>e.sub hH hk⟩
def Fin (rs:List RRes) (s:St) (k0:Nat) (K:AV→Heap→Nat→Prop):Prop :=
 match resv rs s with
 | some r=>∃r' H' k',RUpd k0 r s.H s.k r' H' k'∧K r' H' k'
 | none=>False
def ZaG:Nat→List AV→Env
 | _,[]=> []
 | i,x :: xs=>(i,x) :: ZaG (i+1) xs
theorem argEnv_get {g:G} {H:Heap} {k:Nat}:∀(avs:List AV) (vs:List Value) (i:Nat),ARepL g H k avs vs→∀t,(ZaG i avs).get t= .junk∨(i≤t∧∃v,vs[t - i]? =some v∧ARep g H k ((ZaG i avs).get t) v)
 | [],_,i,_,t=> .inl rfl
 | x :: xs,vs,i,h,t=>by
  simp only[ARepL] at h
  obtain⟨v,r,rfl,h1,h2⟩:=h
  simp only[ZaG,Env.get]
  split
  ·rename_i e;subst e
   exact .inr ⟨Nat.le_refl _,v,by simp,h1⟩
  ·rename_i e
   rcases argEnv_get xs r (i+1) h2 t with h | ⟨h3,u,h4,h5⟩
   ·exact .inl h
   ·exact .inr ⟨by omega,u,by rw[show t - i=(t - (i+1))+1 by omega];simpa using h4,h5⟩
def runRes (tmps:Array Value) (r:ResultVar):Sem Value :=
 match r with
 | .tmp t=>pure (tmps.getD t undef)
 | .cell a' t=>do loadVar t (←asAddr (tmps.getD a' undef))
theorem results_eq (fn:Func) (tmps:Array Value):results fn tmps=(do
    let vs←fn.results.mapM (runRes tmps)
    pure (if h:vs.size=1 then vs[0] else .tuple vs)):=rfl
theorem res1_ok {g:G} {w:World} {st:St} {a:Act} (hs:Sim g w st a.tmps) {r:ResultVar} {rr:RRes} (hl:lowRes P r=some rr) {x:AV} (hx:res1 st rr=some x) :
  ∃v,(runRes a.tmps r).run P w= .ok v w∧ARep g st.H st.k x v:=by
 cases r with
 | tmp n =>
  simp only[lowRes,Option.some.injEq] at hl;subst hl
  simp only[res1,Option.some.injEq] at hx;subst hx
  exact⟨_,rfl,hs.env n⟩
 | cell n ty =>
  simp only[lowRes,Option.bind_eq_bind,Option.bind_eq_some_iff,Option.pure_def,Option.some.injEq] at hl
  obtain⟨sz,hsz,agg,hagg,rfl⟩:=hl
  simp only[res1] at hx
  split at hx
  ·rename_i m off hm
   split at hx
   ·rename_i cs hcs
    have he:=hs.env n
    rw[hm] at he
    simp only[ARep] at he
    obtain⟨b,hb,hv⟩:=he.2.2 cs hcs
    obtain⟨_,ho',_⟩:=hs.h.obj m _ hcs
    simp only[ORep] at ho'
    obtain⟨b',vs,t',hb',hw,hr⟩:=ho'
    rw[hb] at hb';cases hb'
    obtain⟨z,h2,h3⟩:=load_ok (P:=P) (off:=off) (vals:=vs.toList.drop off) hw (fun j x hj=>by simpa using hj) (hr.drop off) hsz hagg hx
    exact⟨z,by simp[runRes,hv,asAddr,h2],h3⟩
   ·cases hx
  ·cases hx
theorem Zgt {g:G} {w:World} {st:St} {a:Act} (hs:Sim g w st a.tmps):∀ {rs:List ResultVar} {rrs:List RRes},rs.mapM (lowRes P)=some rrs→∀ {xs:List AV},rrs.mapM (res1 st)=some xs →
  ∃vs:List Value,(rs.mapM (runRes a.tmps)).run P w= .ok vs w∧ARepL g st.H st.k xs vs
 | [],rrs,h,xs,hx=>by
  simp at h;subst h
  simp at hx;subst hx
  exact⟨[],by simp,by simp[ARepL]⟩
 | r :: rs,rrs,h,xs,hx=>by
  simp only[List.mapM_cons,Option.bind_eq_bind,Option.bind_eq_some_iff,Option.pure_def,Option.some.injEq] at h
  obtain⟨rr,h1,rrs',h2,rfl⟩:=h
  simp only[List.mapM_cons,Option.bind_eq_bind,Option.bind_eq_some_iff,Option.pure_def,Option.some.injEq] at hx
  obtain⟨x,h3,xs',h4,rfl⟩:=hx
  obtain⟨v,q1,q2⟩:=res1_ok (P:=P) hs h1 h3
  obtain⟨vs,q3,q4⟩:=Zgt hs h2 h4
  refine⟨v :: vs,?_,?_⟩
  ·simp only[List.mapM_cons,Sem.run_bind,q1,Result.andThen_ok,q3,Sem.run_pure]
  ·simp only[ARepL];exact⟨_,_,rfl,q2,q4⟩
theorem afun {f:FuncId} {rf:RFun} (hl:lowF P f=some rf) {avs:List AV} (hn:avs.length=rf.np) {H:Heap} {k:Nat} {K:AV→Heap→Nat→Prop}
  (h:AWr P rf.nt rf.code (fun e s=>match e with | .exit _=>False | _=>Fin rf.res s k K) ⟨ZaG 0 avs,H,k⟩):ACalls P f avs H k K:=by
 intro g w args hs ha
 simp only[lowF,Option.bind_eq_bind,Option.bind_eq_some_iff] at hl
 obtain⟨fn,hf,c,hb,hl⟩:=hl
 split at hl
 ·cases hl
 ·rename_i hle
  simp only[Option.bind_eq_some_iff,Option.pure_def,Option.some.injEq] at hl
  obtain⟨rrs,hres,rc,hrc,rfl⟩:=hl
  have hal:=ha.length
  simp only[Array.length_toList] at hal
  have hsz:(args++Array.replicate (fn.ntmps - args.size) undef).size=fn.ntmps:=by simp at hn ⊢;omega
  refine calls_of_wp hf hb (wp_mono (h c hrc g w _ hsz rfl ⟨fun t=>?_,hs⟩) ?_)
  ·show ARep g H k ((ZaG 0 avs).get t) _
   rcases argEnv_get avs args.toList 0 ha t with h | ⟨_,v,h1,h2⟩
   ·rw[h];simp[ARep]
   ·simp only[Nat.sub_zero,Array.getElem?_toList] at h1
    have hlt:t<args.size:=by
     rcases Nat.lt_or_ge t args.size with h | h
     ·exact h
     ·rw[Array.getElem?_eq_none h] at h1;cases h1
    rw[Array.getD_eq_getD_getElem?,Array.getElem?_append_left hlt,h1]
    exact h2
  ·rintro e a' w' ⟨e',st',g',r1,r2,r3,r4,r5,r6⟩
   have fin:Fin rrs st' k K→∃v,(results fn a'.tmps).run P w'= .ok v w'∧∃v' r g' H' k',Ending.returned v=Ending.returned v'∧K r H' k'∧ARep g' H' k' r v'∧SimH g' w' H' k'∧Evo g w H k g' w' H' k':=by
    intro hfin
    simp only[Fin] at hfin
    split at hfin
    ·rename_i r hr
     obtain⟨r',H',k',hu,hK⟩:=hfin
     have key:∃v,(results fn a'.tmps).run P w'= .ok v w'∧ARep g' st'.H st'.k r v:=by
      simp only[resv] at hr
      have hrun:∀(vs:List Value),(fn.results.toList.mapM (runRes a'.tmps)).run P w'= .ok vs w' →
        (results fn a'.tmps).run P w'= .ok (if h:vs.toArray.size=1 then vs.toArray[0] else .tuple vs.toArray) w':=by
       intro vs hvs
       rw[results_eq,Array.mapM_eq_mapM_toList]
       simp only[Sem.run_bind,Sem.run_map,hvs,Result.andThen_ok,Sem.run_pure]
      split at hr
      ·rename_i x hxs
       cases hr
       obtain⟨vs,q1,q2⟩:=Zgt (P:=P) r5 hres hxs
       simp only[ARepL] at q2
       obtain⟨v,s,rfl,q3,rfl⟩:=q2
       exact⟨v,by rw[hrun _ q1];simp,q3⟩
      ·rename_i xs hne hxs
       cases hr
       obtain⟨vs,q1,q2⟩:=Zgt (P:=P) r5 hres hxs
       have hl1:¬vs.toArray.size=1:=by
        have:=q2.length
        intro h1
        simp only[List.size_toArray] at h1
        cases xs with
        | nil=>simp at this;simp[this] at h1
        | cons x xs=>cases xs with
         | nil=>exact hne x rfl
         | cons y ys=>simp at this;omega
       refine⟨.tuple vs.toArray,by rw[hrun _ q1,dif_neg hl1],?_⟩
       simp only[ARep]
       exact⟨_,rfl,q2⟩
      ·cases hr
     obtain⟨v,q1,q2⟩:=key
     obtain⟨g'',u1,u2,u3⟩:=hu g' w' v r5.h q2
     exact⟨v,q1,v,r',g'',H',k',rfl,hK,u2,u1,u3 _ _ _ r6⟩
    ·exact hfin.elim
   cases e' with
   | exit id=>exact r2.elim
   | normal =>
    cases e<;>simp only[RExit.rel] at r1
    exact⟨r4,fin r2⟩
   | ret =>
    cases e<;>simp only[RExit.rel] at r1
    exact⟨r4,fin r2⟩
end Go.Abs
namespace Go.Abs
open Go
variable {P:Program}
theorem aw_sr {nt:Nat} {ls:List LOp} {y:RCode} {Q:RExit→St→Prop} {st:St} (h:vOps P ls st (fun s=>AWr P nt y Q s)):AWr P nt (.seq (.region false ls) y) Q st :=
 ZgA (Zaj h)
def APure (P:Program) (f:FuncId) (xs:List AV) (r:AV):Prop:=ACalls P f xs [] 0 (fun r' H' k'=>r'=r∧H'= []∧k'=0)
mutual
theorem Zew {g g':G} {H H':Heap} {k k':Nat} (hf:g'.fz=g.fz):∀(x:AV) (v:Value),ZaH 0 x→ARep g H k x v→ARep g' H' k' x v
 | .p x,v,_,h=>by simp only[ARep] at *;rw[hf];exact h
 | .junk,_,_,_=>by simp only[ARep]
 | .agg cs,v,hb,h=>by
  simp only[ARep,ZaH] at *
  obtain⟨vs,e,hl⟩:=h
  exact⟨vs,e,Zdp hf cs _ hb hl⟩
 | .tup cs,v,hb,h=>by
  simp only[ARep,ZaH] at *
  obtain⟨vs,e,hl⟩:=h
  exact⟨vs,e,Zdp hf cs _ hb hl⟩
 | .bp n off,v,hb,h=>by simp[ZaH] at hb
 | .ep n i j len,v,hb,h=>by simp[ZaH] at hb
 | .os n off len,v,hb,h=>by simp[ZaH] at hb
 | .mp n,v,hb,h=>by simp[ZaH] at hb
 | .fn f a b,v,hb,h=>by
  simp only[ARep,ZaH] at *
  obtain⟨x,y,e,h1,h2⟩:=h
  exact⟨x,y,e,Zdp hf _ _ hb.1 h1,Zdp hf _ _ hb.2 h2⟩
 | .ifc t x,v,hb,h=>by
  simp only[ARep,ZaH] at *
  obtain⟨y,e,h1⟩:=h
  exact⟨y,e,Zew hf _ _ hb h1⟩
theorem Zdp {g g':G} {H H':Heap} {k k':Nat} (hf:g'.fz=g.fz):∀(x:List AV) (v:List Value),ZaC 0 x→ARepL g H k x v→ARepL g' H' k' x v
 | [],_,_,h=>by simp only[ARepL] at *;exact h
 | x :: xs,v,hb,h=>by
  simp only[ARepL,ZaC] at *
  obtain⟨a,r,e,h1,h2⟩:=h
  exact⟨a,r,e,Zew hf x a hb.1 h1,Zdp hf xs r hb.2 h2⟩
end
theorem SimH.nil {g:G} {w:World} {H:Heap} {k:Nat} (hs:SimH g w H k) (k':Nat):SimH g w [] k' :=
 ⟨fun n o h=>by simp[Heap.get] at h,fun n m b h=>by simp[Heap.get] at h,hs.fz⟩
theorem call_nil {g g1:G} {w w':World} {H:Heap} {k:Nat} (hs:SimH g w H k) (hframe:∀b,b<w.heap.size→w'.heap[b]? =w.heap[b]?) (hρ:g1.ρ=g.ρ) (hfz:∀b o,g.fz b=some o→g1.fz b=some o)
    (hnew:∀b o,g1.fz b=some o→g.fz b=some o∨w.heap.size≤b) (hw:∀b o,g1.fz b=some o→w'.heap[b]? =some o) (h1:w'.os=w.os) (h2:w'.tape=w.tape) (h3:w'.output=w.output) (h4:w.heap.size≤w'.heap.size) :
    SimH g1 w' H k∧Evo g w H k g1 w' H k:=by
  have hk:Keeps g H k g1 H k:=⟨Nat.le_refl _,hfz,fun n o' hn ho=>⟨o',ho,by rw[hρ];exact Compat.refl _ _⟩⟩
  refine⟨⟨fun n o h=>?_,fun n m b h1 h2 h3 h4=>?_,hw⟩,?_⟩
  · obtain⟨q1,q2,q3⟩:=hs.obj n o h
    refine⟨q1,ORep.keeps hk (by rw[hρ]) (fun b hb=>hframe b (q3 b hb).2) q2,fun b hb=>?_⟩
    rw[hρ] at hb
    refine⟨?_,Nat.lt_of_lt_of_le (q3 b hb).2 h4⟩
    cases e:g1.fz b with
    | none=>rfl
    | some o' =>
      rcases hnew b o' e with h5 | h5
      · rw[(q3 b hb).1] at h5;cases h5
      · have:=(q3 b hb).2;omega
  · rw[hρ] at h3 h4
    exact hs.inj n m b h1 h2 h3 h4
  · exact { kle:=Nat.le_refl _,os:=h1,tape:=h2,output:=h3,size:=h4,fz:=hfz
            fzNew:=fun b o h=>(hnew b o h).imp id .inr
            frame:=fun b hb _=>hframe b hb
            names:=fun n _ _=>by rw[hρ]
            dom:=fun n _ h=>h
            compat:=fun n o o' hn h h'=>by rw[h] at h';cases h';rw[hρ];exact Compat.refl _ _
            blks:=fun n b h h'=> .inl ⟨n,h,by rw[←hρ];exact h'⟩}
theorem Zar {f:FuncId} {xs:List AV} {r:AV} {avs:List AV} {H:Heap} {k:Nat} {K:AV→Heap→Nat→Prop} (hc:APure P f xs r) (hx:avs=xs) (hxs:ZaC 0 xs) (hr:ZaH 0 r) (hK:K r H k):ACalls P f avs H k K:=by
  subst hx
  intro g w args hs ha
  refine (hc g w args (hs.nil 0) (Zdp rfl _ _ hxs ha)).mono ?_
  rintro e w' ⟨v,r',g',H',k',rfl,⟨rfl,rfl,rfl⟩,h1,h2,h3⟩
  have hfr:∀b,b<w.heap.size→w'.heap[b]? =w.heap[b]? :=fun b hb=>h3.frame b hb (fun n h=>absurd rfl h)
  obtain⟨h4,h5⟩:=call_nil (g1:=⟨g.ρ,g'.fz⟩) hs hfr rfl h3.fz (fun b o h=>by
    rcases h3.fzNew b o h with h | ⟨n,h1,_⟩ | h
    · exact .inl h
    · exact absurd rfl h1
    · exact .inr h) h2.fz h3.os h3.tape h3.output h3.size
  exact⟨v,r',⟨g.ρ,g'.fz⟩,H,k,rfl,hK,Zew (g:=g') (g':=⟨g.ρ,g'.fz⟩) rfl _ _ hr h1,h4,h5⟩
mutual
def scalarP:PV→Bool
 | .c _=>true
 | .agg cs=>scalarPs cs
 | _=>false
def scalarPs:List PV→Bool
 | []=>true
 | x :: xs=>scalarP x && scalarPs xs
end
def scalarA:AV→Bool
 | .p x=>scalarP x
 | .tup l=>l.all fun | .p x=>scalarP x | _=>false
 | _=>false
mutual
theorem ZfP {fz fz':Nat→Option Obj}:∀(x:PV) (v:Value),scalarP x=true→PRep fz x v→PRep fz' x v
 | .c _,_,_,h=>by simp only[PRep] at *;exact h
 | .agg cs,v,hs,h=>by
  simp only[PRep,scalarP] at *
  obtain⟨vs,e,hl⟩:=h
  exact⟨vs,e,Zgy cs _ hs hl⟩
 | .sl _,_,hs,_=>by simp[scalarP] at hs
 | .ptr _,_,hs,_=>by simp[scalarP] at hs
 | .mp _,_,hs,_=>by simp[scalarP] at hs
theorem Zgy {fz fz':Nat→Option Obj}:∀(x:List PV) (v:List Value),scalarPs x=true→PRepL fz x v→PRepL fz' x v
 | [],_,_,h=>by simp only[PRepL] at *;exact h
 | x :: xs,v,hs,h=>by
  simp only[PRepL,scalarPs,Bool.and_eq_true] at *
  obtain⟨a,r,e,h1,h2⟩:=h
  exact⟨a,r,e,ZfP x a hs.1 h1,Zgy xs r hs.2 h2⟩
end
theorem scalarA_rep {g g':G} {H H':Heap} {k k':Nat}:∀ {x:AV} {v:Value},scalarA x=true→ARep g H k x v→ARep g' H' k' x v:=by
 have hl:∀(l:List AV) (vs:List Value),(l.all fun | .p x=>scalarP x | _=>false)=true→ARepL g H k l vs→ARepL g' H' k' l vs:=by
  intro l
  induction l with
  | nil=>intro vs _ h;simp only[ARepL] at *;exact h
  | cons y l ih =>
   intro vs hp h
   simp only[List.all_cons,Bool.and_eq_true] at hp
   simp only[ARepL] at *
   obtain⟨v,r,e,h1,h2⟩:=h
   refine⟨v,r,e,?_,ih r hp.2 h2⟩
   cases y<;>simp only[Bool.false_eq_true,false_and] at hp
   simp only[ARep] at *
   exact ZfP _ _ hp.1 h1
 intro x v hp h
 cases x<;>simp only[scalarA,Bool.false_eq_true] at hp
 ·simp only[ARep] at *;exact ZfP _ _ hp h
 ·simp only[ARep] at *
  obtain⟨vs,e,h1⟩:=h
  exact⟨vs,e,hl _ _ hp h1⟩
def frzN:Nat→Heap→AV→AV
 | 0,_,x=>x
 | n+1,H,x=>frzN n (H.frz (fun _=>true) H) (x.frz (fun _=>true) H)
def frzNL:Nat→Heap→List AV→List AV
 | 0,_,x=>x
 | n+1,H,x=>frzNL n (H.frz (fun _=>true) H) (frzL (fun _=>true) H x)
theorem lend {g:G} {w:World} {k:Nat} {avs:List AV} {vs:List Value}:∀(n:Nat) {H:Heap},SimH g w H k→ARepL g H k avs vs→ZaC 0 (frzNL n H avs) →
  ∃g1,SimH g1 w [] 0∧ARepL g1 [] 0 (frzNL n H avs) vs∧g1.ρ=g.ρ∧(∀b o,g.fz b=some o→g1.fz b=some o)∧∀b o,g1.fz b=some o→g.fz b=some o∨∃n,H.get n≠none∧(g.ρ n).has b:=by
 intro n
 induction n generalizing g avs with
 | zero =>
  intro H hs ha hb
  exact⟨g,hs.nil 0,Zdp rfl _ _ hb ha,rfl,fun _ _ h=>h,fun _ _ h=> .inl h⟩
 | succ n ih =>
  intro H hs ha hb
  obtain⟨g1,h1,h2,h3,h4,h5⟩:=ih (g:=shutG (fun _=>true) g w H) hs.frz (Zeu hs _ _ ha) hb
  refine⟨g1,h1,h2,h3,fun b o h=>h4 b o (Zfi hs _ _ h),fun b o h=>?_⟩
  rcases h5 b o h with h | ⟨m,hm,hb⟩
  ·simp only[shutG] at h
   split at h
   ·rename_i hc
    obtain⟨m,o1,hm,_,hbm⟩:=hc
    exact .inr ⟨m,by rw[hm];simp,hbm⟩
   ·exact .inl h
  ·exact .inr ⟨m,fun e=>hm (by rw[Zd2,e]),hb⟩
open Classical in
theorem Zcd {f:FuncId} {xs:List AV} {r:AV} {avs:List AV} {H:Heap} {k:Nat} {K:AV→Heap→Nat→Prop} (hc:APure P f xs r) (n:Nat) (hx:frzNL n H avs=xs) (hxs:ZaC 0 xs) (hr:scalarA r=true) (hK:K r H k):ACalls P f avs H k K:=by
  subst hx
  intro g w args hs ha
  obtain⟨g1,s1,s2,s3,s4,s5⟩:=lend n hs ha hxs
  refine (hc g1 w args s1 s2).mono ?_
  rintro e w' ⟨v,r',g',H',k',rfl,⟨rfl,rfl,rfl⟩,h1,h2,h3⟩
  have hfr:∀b,b<w.heap.size→w'.heap[b]? =w.heap[b]? :=fun b hb=>h3.frame b hb (fun n h=>absurd rfl h)
  let g2:G:=⟨g.ρ,fun b=>if ∃n,H.get n≠none∧(g.ρ n).has b then g.fz b else g'.fz b⟩
  have hown:∀b o,g.fz b=some o→¬ ∃n,H.get n≠none∧(g.ρ n).has b:=by
    rintro b o h ⟨n,hn,hb⟩
    cases e:H.get n with
    | none=>exact hn e
    | some o1=>rw[((hs.obj n _ e).2.2 b hb).1] at h;cases h
  obtain⟨h4,h5⟩:=call_nil (g1:=g2) hs hfr rfl (fun b o h=>by
      show (if ∃n,H.get n≠none∧(g.ρ n).has b then g.fz b else g'.fz b)=some o
      rw[if_neg (hown b o h)]
      exact h3.fz _ _ (s4 b o h)) (fun b o h=>by
      have h:(if ∃n,H.get n≠none∧(g.ρ n).has b then g.fz b else g'.fz b)=some o:=h
      split at h
      · exact .inl h
      · rename_i hno
        rcases h3.fzNew b o h with h | ⟨n,h1,_⟩ | h
        · rcases s5 b o h with h | h
          · exact .inl h
          · exact absurd h hno
        · exact absurd rfl h1
        · exact .inr h) (fun b o h=>by
      have h:(if ∃n,H.get n≠none∧(g.ρ n).has b then g.fz b else g'.fz b)=some o:=h
      split at h
      · exact h2.fz b o (h3.fz _ _ (s4 b o h))
      · exact h2.fz b o h) h3.os h3.tape h3.output h3.size
  exact⟨v,r',g2,H,k,rfl,hK,scalarA_rep hr h1,h4,h5⟩
def FinP (n:Nat) (rs:List RRes) (s:St) (r:AV):Prop :=
 match resv rs s with
 | some r'=>frzN n s.H r'=r∧ZaH 0 r
 | none=>False
theorem frzN_upd (k0:Nat):∀(n:Nat) {r:AV} {H:Heap} {k:Nat},ZaH 0 (frzN n H r)→RUpd k0 r H k (frzN n H r) [] k0:=by
 intro n
 induction n with
 | zero =>
  intro r H k hb g w v hs hv
  exact⟨g,hs.nil k0,Zew rfl _ _ hb hv,fun g0 w0 H0 e=>e.sub (fun n o h=>by simp[Heap.get] at h) (Nat.le_refl _)⟩
 | succ n ih =>
  intro r H k hb g w v hs hv
  obtain⟨g',h1,h2,h3⟩:=ih hb (shutG (fun _=>true) g w H) w v (hs.frz) (frz_rep hs _ _ hv)
  exact⟨g',h1,h2,fun g0 w0 H0 e=>h3 g0 w0 H0 (e.frz hs)⟩
theorem aw_loopS {ι:Type} {nt:Nat} {x:RCode} {Q:RExit→St→Prop} {st:St} (S:ι→St) (μ:ι→Nat) (inv:ι→Prop) (i0:ι) (hi:inv i0) (h0:Upd st.k st (S i0))
  (h:∀i,inv i→AWr P nt x (fun e s=>match e with | .normal=>∃j,inv j∧μ j<μ i∧Upd (S i).k s (S j) | e=>Q e s) (S i)):AWr P nt (.loop x) Q st:=by
 refine aw_upd h0 (aw_loop (fun n s=>∃i,inv i∧n=μ i∧s=S i) (μ i0) ⟨i0,hi,rfl,rfl⟩ ?_)
 rintro n s ⟨i,h1,rfl,rfl⟩
 refine Zd5 (h i h1) ?_
 intro e s hs
 cases e with
 | normal =>
  obtain⟨j,h2,h3,h4⟩:=hs
  exact⟨S j,μ j,h4,h3,j,h2,rfl,rfl⟩
 | exit id=>exact hs
 | ret=>exact hs
abbrev vi (n:Int):PV:= .c (.int .i64 n)
abbrev vb (b:Bool):PV:= .c (.bool b)
abbrev vs (s:ByteArray):PV:= .c (.string s)
theorem wrap64 {n:Int} (h1: -9223372036854775808≤n) (h2:n≤9223372036854775807):IntKind.i64.wrap n=n:=by
 rw[IntKind.wrap_i64];omega
end Go.Abs
namespace Go.Abs
open Go
variable {P:Program}
theorem fillA_congr {ev ev':RX→AV}:∀(l:List (Nat × Nat × RX)) (cs:List AV),(∀x∈l.map (·.2.2),ev x=ev' x)→fillA ev l cs=fillA ev' l cs
 | [],_,_=>rfl
 | (off,n,x) :: r,cs,h=>by
  have h1:=h x (by simp)
  have h2:=fun cs=>fillA_congr r cs (fun y hy=>h y (List.mem_cons_of_mem _ hy))
  simp only[fillA,h1,h2]
theorem ZfE {ev ev':RX→AV} (w:Nat):∀(l:List (Nat × RX)) (cs:List (List PV)),(∀x∈l.map (·.2),ev x=ev' x)→fillRows ev w l cs=fillRows ev' w l cs
 | [],_,_=>rfl
 | (i,x) :: r,cs,h=>by
  have h1:=h x (by simp)
  have h2:=fun cs=>ZfE w r cs (fun y hy=>h y (List.mem_cons_of_mem _ hy))
  simp only[fillRows,h1,h2]
theorem ZfK {α β:Type} {f f':α→Option β}:∀(l:List α),(∀x∈l,f x=f' x)→l.mapM f=l.mapM f'
 | [],_=>rfl
 | x :: l,h=>by
  rw[List.mapM_cons,List.mapM_cons,h x (by simp),ZfK l fun y hy=>h y (List.mem_cons_of_mem _ hy)]
theorem Zgc {ev ev':RX→AV} (op:ROp) (H:Heap) (k:Nat) (h:∀x∈op.xs,ev x=ev' x):aop op ev H k=aop op ev' H k:=by
 cases op
 case build zero parts=>simp only[aop,fillA_congr parts _ h]
 case bslice w zero len parts=>simp only[aop,ZfE w parts _ h]
 case min l=>simp only[aop,ZfK l (fun x hx=>show aint64 (ev x)=aint64 (ev' x) by rw[h x hx])]
 case max l=>simp only[aop,ZfK l (fun x hx=>show aint64 (ev x)=aint64 (ev' x) by rw[h x hx])]
 case mkf f a b =>
  have h1:a.map ev=a.map ev':=List.map_congr_left fun x hx=>h x (List.mem_append_left _ hx)
  have h2:b.map ev=b.map ev':=List.map_congr_left fun x hx=>h x (List.mem_append_right _ hx)
  simp only[aop,h1,h2]
 case ssl x lo hi=>cases lo<;>cases hi<;>simp[ROp.xs] at h<;>simp only[aop,bnd,h]
 case lsl w x lo hi=>cases lo<;>cases hi<;>simp[ROp.xs] at h<;>simp only[aop,bnd,h]
 all_goals
  simp only[ROp.xs,List.mem_cons,List.not_mem_nil,or_false,forall_eq_or_imp,forall_eq,false_implies,implies_true] at h
  first
   | (simp only[aop,h];done)
   | (simp only[aop];done)
theorem aop_quiet {ev:RX→AV} {op:ROp} (hq:op.quiet=true) {H H':Heap} {k k':Nat} {v:AV} (h:aop op ev H k=some (v,H',k')):H'=H∧k'=k∧∀H2 k2,aop op ev H2 k2=some (v,H2,k2):=by
 cases op<;>simp only[ROp.quiet,Bool.false_eq_true] at hq
 case eqv neg ks x y =>
  simp only[aop] at h ⊢
  split at h
  ·rename_i a b _ _
   cases he:cellsEq ks a b<;>simp_all
  ·cases h
 all_goals
  simp only[aop] at h ⊢
  (repeat' split at h)<;>simp_all [Option.map_eq_some_iff]
 all_goals
  (try obtain⟨z,h1,h2⟩:=h)
  simp_all
theorem aop_still {ev:RX→AV} {op:ROp} (hq:op.moves=false) {H H':Heap} {k k':Nat} {v:AV} (h:aop op ev H k=some (v,H',k')):H'=H∧k'=k:=by
 cases op<;>simp only[ROp.moves,Bool.true_eq_false] at hq
 case eqv neg ks x y =>
  simp only[aop] at h
  split at h
  ·rename_i a b _ _
   cases he:cellsEq ks a b<;>simp_all
  ·cases h
 all_goals
  simp only[aop] at h
  (repeat' split at h)<;>simp_all [Option.map_eq_some_iff]
 all_goals
  (try obtain⟨z,h1,h2⟩:=h)
  simp_all
def stepS (P:Program) (o:LOp) (st:St) (v:AV) (H:Heap) (k:Nat):Prop :=
 (o.op.moves=false→H=st.H∧k=st.k) ∧
 match o.g with
 | none=>vOp P o.op st (fun v' H' k'=>v'=v∧H'=H∧k'=k)
 | some (d,b)=>match st.env.get d with
  | .p (.c (.bool x))=>(x=b→vOp P o.op st (fun v' H' k'=>v'=v∧H'=H∧k'=k))∧(x≠b→v= .tup []∧H=st.H∧k=st.k)
  | .tup _=>v= .tup []∧H=st.H∧k=st.k
  | _=>False
def vS (P:Program):List LOp→St→(St→Prop)→Prop
 | [],st,Q=>Q st
 | o :: r,st,Q=>∃v H k,stepS P o st v H k∧vS P r (St.put ⟨st.env,H,k⟩ o.dst v) Q
structure St.Same (s s':St):Prop where
 env:∀t,s.env.get t=s'.env.get t
 H:s.H=s'.H
 k:s.k=s'.k
theorem St.put_H (s:St) (d:Option Nat) (v:AV):(s.put d v).H=s.H:=by cases d<;>rfl
theorem St.put_k (s:St) (d:Option Nat) (v:AV):(s.put d v).k=s.k:=by cases d<;>rfl
theorem St.put_get (s:St) (d:Option Nat) (v:AV) (t:Nat):(s.put d v).env.get t=if d=some t then v else s.env.get t:=by
 cases d with
 | none=>simp[St.put]
 | some d=>simp[St.put,Env.get]
theorem ev_of_get {s s':St} {x:RX} (h:∀t,x= .t t→s.env.get t=s'.env.get t):s.ev x=s'.ev x:=by
 cases x with
 | t n=>exact h n rfl
 | k x=>rfl
 | f fn=>rfl
theorem vOp_congr {op:ROp} {s s':St} {K:AV→Heap→Nat→Prop} (he:∀x∈op.xs,s.ev x=s'.ev x) (hH:s.H=s'.H) (hk:s.k=s'.k) (h:vOp P op s K):vOp P op s' K:=by
 have key:aop op s.ev s.H s.k=aop op s'.ev s'.H s'.k:=by rw[hH,hk];exact Zgc op _ _ he
 cases op
 case call f args =>
  have:args.map s.ev=args.map s'.ev:=List.map_congr_left he
  simp only[vOp,this,hH,hk] at h ⊢;exact h
 case callv x args =>
  have h1:args.map s.ev=args.map s'.ev:=List.map_congr_left fun y hy=>he y (List.mem_cons_of_mem _ hy)
  have h2:s.ev x=s'.ev x:=he x (List.mem_cons_self ..)
  simp only[vOp,h1,h2,hH,hk] at h ⊢;exact h
 case snil neg x =>
  have h2:s.ev x=s'.ev x:=he x (List.mem_cons_self ..)
  simp only[vOp,h2,hH,hk] at h ⊢;exact h
 all_goals
  simp only[vOp,key] at h ⊢
  exact h
theorem vOp_quiet {op:ROp} (hq:op.quiet=true) {s s':St} {v:AV} {H:Heap} {k:Nat} (he:∀x∈op.xs,s.ev x=s'.ev x) (h:vOp P op s (fun v' H' k'=>v'=v∧H'=H∧k'=k)) :
  vOp P op s' (fun v' H' k'=>v'=v∧H'=s'.H∧k'=s'.k):=by
 have key:∀v H k,aop op s.ev s.H s.k=some (v,H,k)→aop op s'.ev s'.H s'.k=some (v,s'.H,s'.k):=fun v H k h=>by
  rw[←Zgc op _ _ he];exact (aop_quiet hq h).2.2 _ _
 cases op<;>simp only[ROp.quiet,Bool.false_eq_true] at hq
 all_goals
  simp only[vOp] at h ⊢
  split at h
  ·rename_i v1 H1 k1 e
   rw[key _ _ _ e]
   exact⟨h.1,rfl,rfl⟩
  ·exact h.elim
theorem quiet_still {op:ROp} (h:op.quiet=true):op.moves=false:=by cases op<;>simp_all [ROp.quiet,ROp.moves]
theorem ZdC {o:LOp} {s s':St} (h:∀t∈o.looks,s.env.get t=s'.env.get t):∀x∈o.op.xs,s.ev x=s'.ev x:=fun x hx =>
 ev_of_get fun t ht=>h t (List.mem_append_left _ (List.mem_filterMap.2 ⟨x,hx,by rw[ht]⟩))
theorem Zb0 {o:LOp} {s s':St} {v:AV} {H:Heap} {k:Nat} (he:∀t∈o.looks,s.env.get t=s'.env.get t) (hH:s.H=s'.H) (hk:s.k=s'.k) (h:stepS P o s v H k):stepS P o s' v H k:=by
 obtain⟨h0,h1⟩:=h
 refine⟨fun hm=>by rw[←hH,←hk];exact h0 hm,?_⟩
 cases hg:o.g with
 | none=>rw[hg] at h1;exact vOp_congr (ZdC he) hH hk h1
 | some db =>
  obtain⟨d,b⟩:=db
  rw[hg] at h1
  have hd:s.env.get d=s'.env.get d:=he d (List.mem_append_right _ (by simp[hg]))
  simp only[←hd,←hH,←hk] at h1 ⊢
  split at h1
  ·exact⟨fun e=>vOp_congr (ZdC he) hH hk (h1.1 e),h1.2⟩
  ·exact h1
  ·exact h1.elim
theorem ZeY {o:LOp} (hq:o.op.quiet=true) {s s':St} {v:AV} {H:Heap} {k:Nat} (he:∀t∈o.looks,s.env.get t=s'.env.get t) (h:stepS P o s v H k):stepS P o s' v s'.H s'.k:=by
 obtain⟨h0,h1⟩:=h
 refine⟨fun _=>⟨rfl,rfl⟩,?_⟩
 cases hg:o.g with
 | none=>rw[hg] at h1;exact vOp_quiet hq (ZdC he) h1
 | some db =>
  obtain⟨d,b⟩:=db
  rw[hg] at h1
  have hd:s.env.get d=s'.env.get d:=he d (List.mem_append_right _ (by simp[hg]))
  simp only[←hd] at h1 ⊢
  split at h1
  ·exact⟨fun e=>vOp_quiet hq (ZdC he) (h1.1 e),fun e=>by simp[(h1.2 e).1]⟩
  ·simp[h1.1]
  ·exact h1.elim
theorem vS_congr {Q:St→Prop} (hQ:∀s s',St.Same s s'→Q s→Q s'):∀ {l:List LOp} {s s':St},St.Same s s'→vS P l s Q→vS P l s' Q
 | [],_,_,hs,h=>hQ _ _ hs h
 | o :: r,s,s',hs,⟨v,H,k,h1,h2⟩=>⟨v,H,k,Zb0 (fun t _=>hs.env t) hs.H hs.k h1,vS_congr hQ (s:=St.put ⟨s.env,H,k⟩ o.dst v) ⟨fun t=>by simp only[St.put_get,hs.env t],by simp only[St.put_H],by simp only[St.put_k]⟩ h2⟩
theorem vS_mono {Q Q':St→Prop} (hq:∀s,Q s→Q' s):∀ {l:List LOp} {st:St},vS P l st Q→vS P l st Q'
 | [],_,h=>hq _ h
 | _ :: _,_,⟨v,H,k,h1,h2⟩=>⟨v,H,k,h1,vS_mono hq h2⟩
theorem vS_swap {a b:LOp} {l:List LOp} {s:St} {Q:St→Prop} (hQ:∀s s',St.Same s s'→Q s→Q s') (hab:a.apart b=true) (h:vS P (a :: b :: l) s Q):vS P (b :: a :: l) s Q:=by
  obtain⟨va,Ha,ka,s1,vb,Hb,kb,s2,h2⟩:=h
  simp only[LOp.apart,Bool.and_eq_true,Bool.or_eq_true,Bool.not_eq_true'] at hab
  obtain⟨⟨⟨d1,d2⟩,m1⟩,m2⟩:=hab
  have e1:∀t∈b.looks,(St.put ⟨s.env,Ha,ka⟩ a.dst va).env.get t=s.env.get t:=fun t ht=>by
    rw[St.put_get,if_neg]
    intro e
    rw[e] at d1
    simp only[Bool.and_eq_true,Bool.not_eq_true',List.contains_eq_mem,decide_eq_false_iff_not] at d1
    exact d1.1 ht
  have e2:∀(H:Heap) (k:Nat),∀t∈a.looks,s.env.get t=(St.put ⟨s.env,H,k⟩ b.dst vb).env.get t:=fun H k t ht=>by
    rw[St.put_get,if_neg]
    intro e
    rw[e] at d2
    simp only[Bool.not_eq_true',List.contains_eq_mem,decide_eq_false_iff_not] at d2
    exact d2 ht
  have hne:∀t,a.dst=some t→b.dst≠some t:=fun t e e'=>by
    rw[e] at d1
    simp[e'] at d1
  have fin:∀(H1 H2 H:Heap) (k1 k2 k:Nat),St.Same (St.put ⟨(St.put ⟨s.env,H1,k1⟩ a.dst va).env,H,k⟩ b.dst vb) (St.put ⟨(St.put ⟨s.env,H2,k2⟩ b.dst vb).env,H,k⟩ a.dst va):=fun H1 H2 H k1 k2 k =>
    ⟨fun t=>by
      simp only[St.put_get]
      by_cases ea:a.dst=some t
      · simp[ea,hne t ea]
      · simp[ea],by simp only[St.put_H],by simp only[St.put_k]⟩
  by_cases qa:a.op.moves=true
  · have qb:b.op.quiet=true:=by simpa [qa] using m1
    have hb:=s2.1 (quiet_still qb)
    rw[St.put_H,St.put_k] at hb
    refine⟨vb,s.H,s.k,ZeY qb e1 s2,va,Hb,kb,?_,vS_congr hQ (fin _ _ _ _ _ _) h2⟩
    rw[hb.1,hb.2]
    exact Zb0 (e2 _ _) (by rw[St.put_H]) (by rw[St.put_k]) s1
  · have ha:=s1.1 (by simpa using qa)
    have sb:stepS P b s vb Hb kb:=Zb0 e1 (by rw[St.put_H,ha.1]) (by rw[St.put_k,ha.2]) s2
    refine⟨vb,Hb,kb,sb,va,Hb,kb,?_,vS_congr hQ (fin _ _ _ _ _ _) h2⟩
    by_cases qb:b.op.moves=true
    · have qa':a.op.quiet=true:=by simpa [qb] using m2
      have:=ZeY qa' (e2 Hb kb) s1
      rwa [St.put_H,St.put_k] at this
    · have hb:=s2.1 (by simpa using qb)
      rw[St.put_H,St.put_k] at hb
      have:=Zb0 (e2 Hb kb) (by rw[St.put_H,hb.1,ha.1]) (by rw[St.put_k,hb.2,ha.2]) s1
      rw[show Hb=Ha from hb.1,show kb=ka from hb.2] at this ⊢
      exact this
theorem vS_front {Q:St→Prop} (hQ:∀s s',St.Same s s'→Q s→Q s') {b:LOp} {l2:List LOp}:∀ {l1:List LOp} {s:St},(∀a∈l1,a.apart b=true)→vS P (l1++b :: l2) s Q→vS P (b :: (l1++l2)) s Q
 | [],_,_,h=>h
 | a :: l1,s,hl,⟨v,H,k,h1,h2⟩=>by
  refine vS_swap hQ (hl a (by simp)) ?_
  exact⟨v,H,k,h1,vS_front hQ (fun x hx=>hl x (List.mem_cons_of_mem _ hx)) h2⟩
theorem fold_mask (acc:Array Nat) (j:Nat):∀(es:List Edge) (m:Nat),(es.foldl (fun m e=>if Region.binds .any e then m ||| 2 ^ e.on ||| acc.getD e.on 0 else m) m).testBit j=true →
  m.testBit j=true∨∃e∈es,Region.binds .any e=true∧(e.on=j∨(acc.getD e.on 0).testBit j=true)
 | [],m,h=> .inl h
 | e :: es,m,h=>by
  rw[List.foldl_cons] at h
  rcases fold_mask acc j es _ h with h | ⟨e',h1,h2⟩
  ·split at h
   ·rename_i hb
    simp only[Nat.testBit_or,Bool.or_eq_true,Nat.testBit_two_pow,decide_eq_true_eq] at h
    rcases h with (h | h) | h
    ·exact .inl h
    ·exact .inr ⟨e,by simp,hb,.inl h⟩
    ·exact .inr ⟨e,by simp,hb,.inr h⟩
   ·exact .inl h
  ·exact .inr ⟨e',List.mem_cons_of_mem _ h1,h2⟩
theorem masks_ok:∀(l:List Oper) (acc:Array Nat),(∀i,i<acc.size→(masks l acc).getD i 0=acc.getD i 0) ∧
  ∀i o,l[i]? =some o→∀j,((masks l acc).getD (acc.size+i) 0).testBit j=true→∃e∈o.after,Region.binds .any e=true∧(e.on=j∨((masks l acc).getD e.on 0).testBit j=true)
 | [],acc=>⟨fun _ _=>rfl,fun i o h=>by simp at h⟩
 | o :: l,acc=>by
  have ih:=masks_ok l (acc.push (o.after.foldl (fun m e=>if Region.binds .any e then m ||| 2 ^ e.on ||| acc.getD e.on 0 else m) 0))
  have e0:masks (o :: l) acc=masks l (acc.push (o.after.foldl (fun m e=>if Region.binds .any e then m ||| 2 ^ e.on ||| acc.getD e.on 0 else m) 0)):=rfl
  rw[←e0] at ih
  have low:∀i,i<acc.size→(masks (o :: l) acc).getD i 0=acc.getD i 0:=fun i hi=>by
   rw[ih.1 i (by simp;omega)]
   simp[Array.getD_eq_getD_getElem?,Array.getElem?_push,Nat.ne_of_lt hi]
  refine⟨low,fun i o' ho j hj=>?_⟩
  cases i with
  | zero =>
   simp only[List.getElem?_cons_zero,Option.some.injEq] at ho
   subst ho
   rw[Nat.add_zero,ih.1 _ (by simp)] at hj
   simp only[Array.getD_eq_getD_getElem?,Array.getElem?_push_size,Option.getD_some] at hj
   rw[←Array.foldl_toList] at hj
   have hj':(o.after.toList.foldl (fun m e=>if Region.binds .any e then m ||| 2 ^ e.on ||| acc.getD e.on 0 else m) 0).testBit j=true:=by
    simpa [Array.getD_eq_getD_getElem?] using hj
   rcases fold_mask acc j _ _ hj' with h | ⟨e,h1,h2,h3⟩
   ·simp at h
   ·refine⟨e,by simpa using h1,h2,h3.imp id fun h=>?_⟩
    have hlt:e.on<acc.size:=by
     rcases Nat.lt_or_ge e.on acc.size with h' | h'
     ·exact h'
     ·rw[Array.getD_eq_getD_getElem?,Array.getElem?_eq_none h'] at h;simp at h
    rw[low _ hlt];exact h
  | succ i =>
   have:=ih.2 i o' (by simpa using ho) j (by simpa [Nat.add_assoc,Nat.add_comm 1] using hj)
   exact this
end Go.Abs
namespace Go.Abs
open Go
def rdN (ev:RX→AV):ROp→Option (List Nat)
 | .load _ _ a=>match ev a with | .bp n _=>some [n] | .ep n _ _ _=>some [n] | .p _=>some [] | _=>none
 | .faddr _ x=>match ev x with | .bp n _=>some [n] | .ep n _ _ _=>some [n] | .p _=>some [] | _=>none
 | .iaddr _ x _=>match ev x with | .os n _ _=>some [n] | .p _=>some [] | _=>none
 | .lsl _ x _ _=>match ev x with | .os n _ _=>some [n] | .p _=>some [] | _=>none
 | .look _ _ _ m _=>match ev m with | .mp n=>some [n] | .p (.mp _)=>some [] | _=>none
 | _=>none
theorem rd_ok {ev:RX→AV} {op:ROp} {ns:List Nat} (hn:rdN ev op=some ns) {H H' H1:Heap} {k k' k1:Nat} {v:AV} (hh:∀n∈ns,H'.get n=H.get n) (h:aop op ev H k=some (v,H1,k1)):aop op ev H' k'=some (v,H',k'):=by
 cases op<;>simp only[rdN,reduceCtorEq] at hn
 case load m agg a =>
  simp only[aop] at h ⊢
  split at hn<;>simp only[Option.some.injEq,reduceCtorEq] at hn
  ·subst hn;rename_i n off e
   rw[e] at h ⊢;simp only at h ⊢
   rw[hh n (by simp)]
   split at h
   ·simp only[Option.map_eq_some_iff,Prod.mk.injEq] at h ⊢
    obtain⟨x,h1,rfl,_,_⟩:=h
    exact⟨x,h1,rfl,trivial⟩
   ·cases h
  ·subst hn;rename_i n i j len e
   rw[e] at h ⊢;simp only at h ⊢
   rw[hh n (by simp)]
   split at h
   ·split at h
    ·rename_i hl
     rw[if_pos hl]
     split at h
     ·simp only[Option.map_eq_some_iff,Prod.mk.injEq] at h ⊢
      obtain⟨x,h1,rfl,_,_⟩:=h
      exact⟨x,h1,rfl,trivial⟩
     ·cases h
    ·cases h
   ·cases h
  ·rename_i p e
   rw[e] at h ⊢
   cases p<;>simp only[reduceCtorEq] at h ⊢
   simp only[Option.map_eq_some_iff,Prod.mk.injEq] at h ⊢
   obtain⟨x,h1,rfl,_,_⟩:=h
   exact⟨x,h1,rfl,trivial⟩
 case faddr off x =>
  simp only[aop] at h ⊢
  have hl:live H' (ev x)=live H (ev x):=by
   split at hn<;>simp only[Option.some.injEq,reduceCtorEq] at hn
   ·subst hn;rename_i n o e;rw[e];simp only[live,hh n (by simp)]
   ·subst hn;rename_i n i j len e;rw[e];simp only[live,hh n (by simp)]
   ·rename_i p e;rw[e];cases p<;>simp only[live]
  rw[hl]
  split at h
  ·rename_i hc;rw[if_pos hc]
   simp only[Option.some.injEq,Prod.mk.injEq] at h ⊢
   exact⟨h.1,trivial⟩
  ·cases h
 case iaddr w x i =>
  simp only[aop] at h ⊢
  split at h
  ·split at h
   ·rename_i z hz hz0
    rw[if_pos hz0]
    split at hn<;>simp only[Option.some.injEq,reduceCtorEq] at hn
    ·subst hn;rename_i n off len e
     rw[e] at h ⊢;simp only at h ⊢
     rw[hh n (by simp)]
     split at h
     ·split at h
      ·rename_i hc
       rw[if_pos hc]
       split at h
       ·split at h
        ·rename_i hr;rw[if_pos hr]
         simp only[Option.some.injEq,Prod.mk.injEq] at h ⊢
         exact⟨h.1,trivial⟩
        ·cases h
       ·cases h
      ·cases h
     ·cases h
    ·rename_i p e
     rw[e] at h ⊢
     cases p<;>simp only[reduceCtorEq] at h ⊢
     split at h
     ·split at h
      ·rename_i hr;rw[if_pos hr]
       simp only[Option.some.injEq,Prod.mk.injEq] at h ⊢
       exact⟨h.1,trivial⟩
      ·cases h
     ·cases h
   ·cases h
  ·cases h
 case lsl w x lo hi =>
  simp only[aop] at h ⊢
  split at hn<;>simp only[Option.some.injEq,reduceCtorEq] at hn
  ·subst hn;rename_i n off len e
   rw[e] at h ⊢;simp only at h ⊢
   rw[hh n (by simp)]
   split at h
   ·split at h
    ·split at h
     ·rename_i hr;rw[if_pos hr]
      simp only[Option.some.injEq,Prod.mk.injEq] at h ⊢
      exact⟨h.1,trivial⟩
     ·cases h
    ·cases h
   ·cases h
  ·rename_i p e
   rw[e] at h ⊢
   cases p<;>simp only[reduceCtorEq] at h ⊢
   split at h
   ·split at h
    ·rename_i hr;rw[if_pos hr]
     simp only[Option.some.injEq,Prod.mk.injEq] at h ⊢
     exact⟨h.1,trivial⟩
    ·cases h
   ·cases h
 case look q zero ok m key =>
  simp only[aop] at h ⊢
  split at hn<;>simp only[Option.some.injEq,reduceCtorEq] at hn
  ·subst hn;rename_i n e
   rw[e] at h ⊢;simp only at h ⊢
   rw[hh n (by simp)]
   cases hkey:ev key<;>simp only[hkey,reduceCtorEq] at h ⊢
   rename_i kx
   by_cases hq:keyOk q kx=true
   ·rw[if_pos hq] at h ⊢
    cases hes:H.get n with
    | none=>simp only[hes,reduceCtorEq] at h
    | some o =>
     cases o<;>simp only[hes,reduceCtorEq] at h ⊢
     rename_i es
     cases hf:mfind q kx es<;>simp only[hf,reduceCtorEq,Option.some.injEq,Prod.mk.injEq] at h ⊢
     exact⟨h.1,trivial⟩
   ·rw[if_neg hq] at h;cases h
  ·rename_i es e
   rw[e] at h ⊢;simp only at h ⊢
   cases hkey:ev key<;>simp only[hkey,reduceCtorEq] at h ⊢
   rename_i kx
   by_cases hq:keyOk q kx=true
   ·rw[if_pos hq] at h ⊢
    cases hf:mfind q kx es<;>simp only[hf,reduceCtorEq,Option.some.injEq,Prod.mk.injEq] at h ⊢
    exact⟨h.1,trivial⟩
   ·rw[if_neg hq] at h;cases h
def wrN (ev:RX→AV):ROp→Option (List Nat)
 | .store _ a _=>match ev a with | .bp n _=>some [n] | .ep n _ _ _=>some [n] | _=>none
 | .alloc _ | .box _ _ | .bslice _ _ _ _ | .mslice _ _ _ _ _ | .mmap=>some []
 | .app _ _ _ s _=>match ev s with | .os n _ _=>some [n] | .p _=>some [] | _=>none
 | .mupd _ m _ _=>match ev m with | .mp n=>some [n] | _=>none
 | _=>none
theorem Zfy {n k:Nat} {o:AObj} {H:Heap} (h:n≠k):Heap.get ((k,o) :: H) n=H.get n:=by
 simp only[Heap.get];rw[if_neg (Ne.symm h)]
theorem get_set' {n m:Nat} {o:AObj} {H:Heap} (h:n≠m):(H.set m o).get n=H.get n:=by
 rw[Heap.get_set,if_neg (fun e=>h e.1.symm)]
theorem wr_ok {ev:RX→AV} {op:ROp} {ns:List Nat} (hn:wrN ev op=some ns) {H H1:Heap} {k k1:Nat} {v:AV} (h:aop op ev H k=some (v,H1,k1)):∀n,n ∉ ns→n≠k→H1.get n=H.get n:=by
 intro n hnn hk
 cases op<;>simp only[wrN,reduceCtorEq] at hn
 case store m a x =>
  simp only[aop] at h
  split at h
  ·split at h
   ·split at hn<;>simp only[Option.some.injEq,reduceCtorEq] at hn
    ·subst hn;rename_i e
     rw[e] at h;simp only at h
     split at h
     ·split at h
      ·simp only[Option.some.injEq,Prod.mk.injEq] at h
       rw[←h.2.1];exact get_set' (by simpa using hnn)
      ·cases h
     ·cases h
    ·subst hn;rename_i e
     rw[e] at h;simp only at h
     split at h
     ·split at h
      ·split at h
       ·split at h
        ·simp only[Option.some.injEq,Prod.mk.injEq] at h
         rw[←h.2.1];exact get_set' (by simpa using hnn)
        ·cases h
       ·cases h
      ·cases h
     ·cases h
   ·cases h
  ·cases h
 case alloc z =>
  simp only[aop,Option.some.injEq,Prod.mk.injEq] at h
  rw[←h.2.1];exact Zfy hk
 case mmap =>
  simp only[aop,Option.some.injEq,Prod.mk.injEq] at h
  rw[←h.2.1];exact Zfy hk
 case box m x =>
  simp only[aop] at h
  split at h
  ·split at h
   ·simp only[Option.some.injEq,Prod.mk.injEq] at h
    rw[←h.2.1];exact Zfy hk
   ·cases h
  ·cases h
 case bslice w z len ps =>
  simp only[aop] at h
  split at h
  ·simp only[Option.map_eq_some_iff,Prod.mk.injEq] at h
   obtain⟨_,_,_,h,_⟩:=h
   rw[←h];exact Zfy hk
  ·cases h
 case mslice w b z len cap =>
  simp only[aop] at h
  split at h
  ·split at h
   ·simp only[Option.some.injEq,Prod.mk.injEq] at h
    rw[←h.2.1];exact Zfy hk
   ·cases h
  ·cases h
 case mupd q m key x =>
  split at hn<;>simp only[Option.some.injEq,reduceCtorEq] at hn
  subst hn;rename_i e
  simp only[aop,e] at h
  split at h
  ·rename_i h4 _ _
   cases h4
   split at h
   ·split at h
    ·simp only[Option.map_eq_some_iff,Prod.mk.injEq] at h
     obtain⟨_,_,_,h,_⟩:=h
     rw[←h];exact get_set' (by simpa using hnn)
    ·cases h
   ·cases h
  ·cases h
 case app w b z s x =>
  simp only[aop] at h
  split at h
  ·split at h
   ·split at hn<;>simp only[Option.some.injEq,reduceCtorEq] at hn
    ·subst hn;rename_i e
     rw[e] at h;simp only at h
     split at h
     ·split at h
      ·simp only[Option.some.injEq,Prod.mk.injEq] at h
       rw[←h.2.1];exact get_set' (by simpa using hnn)
      ·cases h
     ·cases h
    ·rename_i p e
     rw[e] at h
     split at h
     ·split at h
      ·simp only[Option.some.injEq,Prod.mk.injEq] at h
       rw[←h.2.1];exact Zfy hk
      ·cases h
     ·rename_i e';cases e'
     ·cases h
   ·cases h
  ·cases h
theorem wr_mono {ev:RX→AV} {op:ROp} {ns:List Nat} (hn:wrN ev op=some ns) {H H1:Heap} {k k1:Nat} {v:AV} (h:aop op ev H k=some (v,H1,k1)):k≤k1:=by
 cases op<;>simp only[wrN,reduceCtorEq] at hn
 all_goals
  simp only[aop] at h
  (repeat' split at h)<;>first
   | (cases h;done)
   | (simp only[Option.some.injEq,Prod.mk.injEq] at h;have:=h.2.2;omega)
   | (simp only[Option.map_eq_some_iff,Prod.mk.injEq] at h;obtain⟨_,_,_,_,h⟩:=h;omega)
variable {P:Program}
theorem Zgf {ev ev':RX→AV} (op:ROp) (h:∀x∈op.xs,ev x=ev' x):rdN ev op=rdN ev' op:=by
 cases op<;>simp only[rdN]<;>(rw[h _ (by simp[ROp.xs])])
theorem wrN_congr {ev ev':RX→AV} (op:ROp) (h:∀x∈op.xs,ev x=ev' x):wrN ev op=wrN ev' op:=by
 cases op<;>simp only[wrN]<;>(rw[h _ (by simp[ROp.xs])])
theorem rd_moves {ev:RX→AV} {op:ROp} {ns:List Nat} (h:rdN ev op=some ns):op.moves=false:=by
 cases op<;>simp only[rdN,reduceCtorEq] at h<;>rfl
theorem rd_step {o:LOp} {st:St} {ns:List Nat} (hn:rdN st.ev o.op=some ns) (hg:o.g=none) {v:AV} {H:Heap} {k:Nat}:stepS P o st v H k↔aop o.op st.ev st.H st.k=some (v,H,k)∧H=st.H∧k=st.k:=by
 have hm:=rd_moves hn
 unfold stepS
 rw[hg]
 obtain⟨dst,g,op⟩:=o
 simp only at hn hm ⊢
 cases op<;>simp only[rdN,reduceCtorEq] at hn
 all_goals
  simp only[vOp,hm,true_implies]
  constructor
  ·rintro⟨h1,h2⟩
   split at h2
   ·rename_i e;rw[e];obtain⟨rfl,rfl,rfl⟩:=h2;exact⟨rfl,h1⟩
   ·exact h2.elim
  ·rintro⟨h1,h2⟩
   rw[h1];exact⟨h2,rfl,rfl,rfl⟩
theorem wr_step {o:LOp} {st:St} {ns:List Nat} (hn:wrN st.ev o.op=some ns) (hg:o.g=none) {v:AV} {H:Heap} {k:Nat} (h:stepS P o st v H k):aop o.op st.ev st.H st.k=some (v,H,k):=by
 unfold stepS at h
 rw[hg] at h
 obtain⟨dst,g,op⟩:=o
 simp only at hn h ⊢
 cases op<;>simp only[wrN,reduceCtorEq] at hn
 all_goals
  simp only[vOp] at h
  obtain⟨_,h2⟩:=h
  split at h2
  ·rename_i e;rw[e];obtain⟨rfl,rfl,rfl⟩:=h2;rfl
  ·exact h2.elim
def SoftRW (e:RX→AV) (k0:Nat) (a b:LOp):Prop :=
 ∃ns ms,(rdN e a.op=some ns∧wrN e b.op=some ms∨rdN e b.op=some ns∧wrN e a.op=some ms)∧∀n∈ns,n<k0∧n ∉ ms
def CallOK (P:Program) (e:RX→AV) (o:LOp):Prop :=
 ∃f args r,o.op= .call f args∧(∀H k,ACalls P f (args.map e) H k (fun v' H' k'=>v'=r∧H'=H∧k'=k))∧∀d,o.dst=some d→e (.t d)=r
def SoftOK (P:Program) (e:RX→AV) (k0:Nat) (a b:LOp):Prop :=
 SoftRW e k0 a b∨CallOK P e a∧b.op.moves=true∨CallOK P e b∧a.op.moves=true
def vSE (P:Program) (sf:St) (k0:Nat):List LOp→St→(St→Prop)→Prop
 | [],st,Q=>k0≤st.k∧Q st
 | o :: r,st,Q=>(o.op.fixed=true→∀t∈o.looks,st.env.get t=sf.env.get t)∧k0≤st.k∧∃v H k,stepS P o st v H k∧(o.op.isCall=true→∀d,o.dst=some d→v=sf.env.get d)∧vSE P sf k0 r (St.put ⟨st.env,H,k⟩ o.dst v) Q
theorem Zed {sf:St} {k0:Nat} {Q:St→Prop} (hQ:∀s s',St.Same s s'→Q s→Q s'):∀ {l:List LOp} {s s':St},St.Same s s'→vSE P sf k0 l s Q→vSE P sf k0 l s' Q
 | [],_,_,hs,h=>⟨by rw[←hs.k];exact h.1,hQ _ _ hs h.2⟩
 | o :: r,s,s',hs,⟨q1,q2,v,H,k,h1,h3,h2⟩=>⟨fun hc t ht=>by rw[←hs.env t];exact q1 hc t ht,by rw[←hs.k];exact q2,v,H,k,Zb0 (fun t _=>hs.env t) hs.H hs.k h1,h3,Zed hQ (s:=St.put ⟨s.env,H,k⟩ o.dst v) ⟨fun t=>by simp only[St.put_get,hs.env t],by simp only[St.put_H],by simp only[St.put_k]⟩ h2⟩
theorem vSE_mono {sf:St} {k0:Nat} {Q Q':St→Prop} (hq:∀s,Q s→Q' s):∀ {l:List LOp} {st:St},vSE P sf k0 l st Q→vSE P sf k0 l st Q'
 | [],_,h=>⟨h.1,hq _ h.2⟩
 | _ :: _,_,⟨q1,q2,v,H,k,h1,h3,h2⟩=>⟨q1,q2,v,H,k,h1,h3,vSE_mono hq h2⟩
theorem vSE_k {sf:St} {k0:Nat} {Q:St→Prop}:∀ {l:List LOp} {st:St},vSE P sf k0 l st Q→k0≤st.k
 | [],_,h=>h.1
 | _ :: _,_,h=>h.2.1
theorem rd_reads {ev:RX→AV} {op:ROp} {ns:List Nat} (h:rdN ev op=some ns):op.reads=true:=by
 cases op<;>simp only[rdN,reduceCtorEq] at h<;>rfl
theorem wr_moves {ev:RX→AV} {op:ROp} {ns:List Nat} (h:wrN ev op=some ns):op.moves=true:=by
 cases op<;>simp only[wrN,reduceCtorEq] at h<;>rfl
theorem vSE_soft {sf:St} {k0:Nat} {a b:LOp} {l:List LOp} {s:St} {Q:St→Prop} (hQ:∀s s',St.Same s s'→Q s→Q s') (hab:a.envApart b=true) (ga:a.g=none) (gb:b.g=none) (hso:SoftOK P sf.ev k0 a b)
    (h:vSE P sf k0 (a :: b :: l) s Q):vSE P sf k0 (b :: a :: l) s Q:=by
  obtain⟨la,hk0,va,Ha,ka,s1,ra,lb,hk1,vb,Hb,kb,s2,rb,h2⟩:=h
  have hk2:=vSE_k h2
  rw[St.put_k] at hk2
  have hcab:a.op.fixed=true∧b.op.fixed=true:=by
    unfold ROp.fixed
    rcases hso with ⟨ns,ms,hcase,_⟩ | ⟨⟨f,args,r,e,_⟩,hm⟩ | ⟨⟨f,args,r,e,_⟩,hm⟩
    · rcases hcase with ⟨hr,hw⟩ | ⟨hr,hw⟩
      · rw[rd_reads hr,wr_moves hw];simp
      · rw[rd_reads hr,wr_moves hw];simp
    · rw[hm,e];simp[ROp.isCall]
    · rw[hm,e];simp[ROp.isCall]
  obtain⟨hca,hcb⟩:=hcab
  have la:=la hca
  have lb:=lb hcb
  simp only[LOp.envApart,Bool.and_eq_true] at hab
  obtain⟨d1,d2⟩:=hab
  have e1:∀t∈b.looks,(St.put ⟨s.env,Ha,ka⟩ a.dst va).env.get t=s.env.get t:=fun t ht=>by
    rw[St.put_get,if_neg]
    intro e
    rw[e] at d1
    simp only[Bool.and_eq_true,Bool.not_eq_true',List.contains_eq_mem,decide_eq_false_iff_not] at d1
    exact d1.1 ht
  have e2':∀(vb:AV) (H:Heap) (k:Nat),∀t∈a.looks,s.env.get t=(St.put ⟨s.env,H,k⟩ b.dst vb).env.get t:=fun vb H k t ht=>by
    rw[St.put_get,if_neg]
    intro e
    rw[e] at d2
    simp only[Bool.not_eq_true',List.contains_eq_mem,decide_eq_false_iff_not] at d2
    exact d2 ht
  have e2:=e2' vb
  have hne:∀t,a.dst=some t→b.dst≠some t:=fun t e e'=>by
    rw[e] at d1
    simp[e'] at d1
  have fin':∀(va vb:AV) (H1 H2 H:Heap) (k1 k2 k:Nat),St.Same (St.put ⟨(St.put ⟨s.env,H1,k1⟩ a.dst va).env,H,k⟩ b.dst vb) (St.put ⟨(St.put ⟨s.env,H2,k2⟩ b.dst vb).env,H,k⟩ a.dst va):=fun va vb H1 H2 H k1 k2 k =>
    ⟨fun t=>by
      simp only[St.put_get]
      by_cases ea:a.dst=some t
      · simp[ea,hne t ea]
      · simp[ea],by simp only[St.put_H],by simp only[St.put_k]⟩
  have fin:=fin' va vb
  have lb':∀t∈b.looks,s.env.get t=sf.env.get t:=fun t ht=>by rw[←e1 t ht];exact lb t ht
  have ca:∀x∈a.op.xs,s.ev x=sf.ev x:=ZdC la
  have cb:∀x∈b.op.xs,s.ev x=sf.ev x:=ZdC lb'
  rcases hso with ⟨ns,ms,hcase,hdis⟩ | ⟨⟨f,args,r,e,hcall,hd⟩,hm⟩ | ⟨⟨f,args,r,e,hcall,hd⟩,hm⟩
  rotate_left
  ·
    have hia:a.op.isCall=true:=by rw[e];rfl
    obtain⟨e3,e4⟩:=s1.1 (by rw[e];rfl)
    subst e3 e4
    have hva:∀x:St,St.put x a.dst va=St.put x a.dst r:=fun x=>by
      cases hq:a.dst with
      | none=>rfl
      | some d=>rw[ra hia d hq];rw[show r=sf.env.get d from (hd d hq).symm]
    have sb:stepS P b s vb Hb kb:=Zb0 e1 (by rw[St.put_H]) (by rw[St.put_k]) s2
    have ea:∀x∈a.op.xs,(St.put ⟨s.env,Hb,kb⟩ b.dst vb).ev x=sf.ev x:=ZdC fun t ht=>by rw[←e2 Hb kb t ht];exact la t ht
    refine⟨fun _=>lb',hk0,vb,Hb,kb,sb,rb,fun _ t ht=>by rw[←e2 Hb kb t ht];exact la t ht,by rw[St.put_k];exact hk2,r,Hb,kb,⟨fun _=>⟨by rw[St.put_H],by rw[St.put_k]⟩,?_⟩,fun _ d hq=>(hd d hq).symm,Zed hQ (fin' r vb s.H Hb Hb s.k kb kb) ?_⟩
    · rw[ga]
      show vOp P a.op _ _
      rw[e]
      show ACalls P f (args.map _) _ _ _
      rw[show args.map (St.put ⟨s.env,Hb,kb⟩ b.dst vb).ev=args.map sf.ev from List.map_congr_left fun x hx=>ea x (by rw[e];exact hx),St.put_H,St.put_k]
      exact hcall Hb kb
    · rw[←hva];exact h2
  ·
    have hib:b.op.isCall=true:=by rw[e];rfl
    obtain⟨e3,e4⟩:=s2.1 (by rw[e];rfl)
    rw[St.put_H] at e3;rw[St.put_k] at e4
    subst e3 e4
    have hvb:∀x:St,St.put x b.dst vb=St.put x b.dst r:=fun x=>by
      cases hq:b.dst with
      | none=>rfl
      | some d=>rw[rb hib d hq];rw[show r=sf.env.get d from (hd d hq).symm]
    refine⟨fun _=>lb',hk0,r,s.H,s.k,⟨fun _=>⟨rfl,rfl⟩,?_⟩,fun _ d hq=>(hd d hq).symm,fun _ t ht=>by rw[←e2' r s.H s.k t ht];exact la t ht,by rw[St.put_k];exact hk0,va,Hb,kb,Zb0 (e2' r _ _) (by rw[St.put_H]) (by rw[St.put_k]) s1,ra,Zed hQ (fin' va r Hb s.H Hb kb s.k kb) ?_⟩
    · rw[gb]
      show vOp P b.op _ _
      rw[e]
      show ACalls P f (args.map _) _ _ _
      rw[show args.map s.ev=args.map sf.ev from List.map_congr_left fun x hx=>cb x (by rw[e];exact hx)]
      exact hcall s.H s.k
    · rw[←hvb];exact h2
  rcases hcase with ⟨hr,hw⟩ | ⟨hr,hw⟩
  · rw[←Zgf _ ca] at hr
    rw[←wrN_congr _ cb] at hw
    obtain⟨qa,rfl,rfl⟩:=(rd_step hr ga).1 s1
    have sb:stepS P b s vb Hb kb:=Zb0 e1 (by rw[St.put_H]) (by rw[St.put_k]) s2
    have qb:=wr_step hw gb sb
    refine⟨fun _=>lb',hk0,vb,Hb,kb,sb,rb,fun _ t ht=>by rw[←e2 Hb kb t ht];exact la t ht,?_,va,Hb,kb,?_,ra,Zed hQ (fin _ _ _ _ _ _) h2⟩
    · rw[St.put_k];exact Nat.le_trans hk0 (wr_mono hw qb)
    · have hr':rdN (St.put ⟨s.env,Hb,kb⟩ b.dst vb).ev a.op=some ns:=by rw[←Zgf _ (ZdC (e2 Hb kb))];exact hr
      refine (rd_step hr' ga).2 ⟨?_,by rw[St.put_H],by rw[St.put_k]⟩
      rw[←Zgc a.op _ _ (ZdC (e2 Hb kb)),St.put_H,St.put_k]
      exact rd_ok hr (fun n hn=>wr_ok hw qb n (hdis n hn).2 (by have:=(hdis n hn).1;omega)) qa
  · have hr1:rdN (St.put ⟨s.env,Ha,ka⟩ a.dst va).ev b.op=some ns:=by rw[Zgf _ (ZdC lb)];exact hr
    obtain⟨qb,e3,e4⟩:=(rd_step hr1 gb).1 s2
    rw[St.put_H] at e3;rw[St.put_k] at e4
    subst e3 e4
    rw[←Zgf _ cb] at hr
    rw[←wrN_congr _ ca] at hw
    have qa:=wr_step hw ga s1
    have qb':aop b.op s.ev s.H s.k=some (vb,s.H,s.k):=by
      rw[Zgc b.op _ _ (ZdC e1),St.put_H,St.put_k] at qb
      exact rd_ok hr (fun n hn=>(wr_ok hw qa n (hdis n hn).2 (by have:=(hdis n hn).1;omega)).symm) qb
    refine⟨fun _=>lb',hk0,vb,s.H,s.k,(rd_step hr gb).2 ⟨qb',rfl,rfl⟩,rb,fun _ t ht=>by rw[←e2 s.H s.k t ht];exact la t ht,by rw[St.put_k];exact hk0,va,Hb,kb,Zb0 (e2 _ _) (by rw[St.put_H]) (by rw[St.put_k]) s1,ra,Zed hQ (fin _ _ _ _ _ _) h2⟩
theorem vSE_apart {sf:St} {k0:Nat} {a b:LOp} {l:List LOp} {s:St} {Q:St→Prop} (hQ:∀s s',St.Same s s'→Q s→Q s') (hab:a.apart b=true) (h:vSE P sf k0 (a :: b :: l) s Q):vSE P sf k0 (b :: a :: l) s Q:=by
  obtain⟨la,hk0,va,Ha,ka,s1,ra,lb,hk1,vb,Hb,kb,s2,rb,h2⟩:=h
  have hk2:=vSE_k h2
  rw[St.put_k] at hk1 hk2
  simp only at hk1 hk2
  simp only[LOp.apart,Bool.and_eq_true,Bool.or_eq_true,Bool.not_eq_true'] at hab
  obtain⟨⟨⟨d1,d2⟩,m1⟩,m2⟩:=hab
  have e1:∀t∈b.looks,(St.put ⟨s.env,Ha,ka⟩ a.dst va).env.get t=s.env.get t:=fun t ht=>by
    rw[St.put_get,if_neg]
    intro e
    rw[e] at d1
    simp only[Bool.and_eq_true,Bool.not_eq_true',List.contains_eq_mem,decide_eq_false_iff_not] at d1
    exact d1.1 ht
  have e2:∀(H:Heap) (k:Nat),∀t∈a.looks,s.env.get t=(St.put ⟨s.env,H,k⟩ b.dst vb).env.get t:=fun H k t ht=>by
    rw[St.put_get,if_neg]
    intro e
    rw[e] at d2
    simp only[Bool.not_eq_true',List.contains_eq_mem,decide_eq_false_iff_not] at d2
    exact d2 ht
  have hne:∀t,a.dst=some t→b.dst≠some t:=fun t e e'=>by
    rw[e] at d1
    simp[e'] at d1
  have fin:∀(H1 H2 H:Heap) (k1 k2 k:Nat),St.Same (St.put ⟨(St.put ⟨s.env,H1,k1⟩ a.dst va).env,H,k⟩ b.dst vb) (St.put ⟨(St.put ⟨s.env,H2,k2⟩ b.dst vb).env,H,k⟩ a.dst va):=fun H1 H2 H k1 k2 k =>
    ⟨fun t=>by
      simp only[St.put_get]
      by_cases ea:a.dst=some t
      · simp[ea,hne t ea]
      · simp[ea],by simp only[St.put_H],by simp only[St.put_k]⟩
  have lb':b.op.fixed=true→∀t∈b.looks,s.env.get t=sf.env.get t:=fun hc t ht=>by rw[←e1 t ht];exact lb hc t ht
  have la':∀(H:Heap) (k:Nat),a.op.fixed=true→∀t∈a.looks,(St.put ⟨s.env,H,k⟩ b.dst vb).env.get t=sf.env.get t:=fun H k hc t ht=>by rw[←e2 H k t ht];exact la hc t ht
  by_cases qa:a.op.moves=true
  · have qb:b.op.quiet=true:=by simpa [qa] using m1
    have hb:=s2.1 (quiet_still qb)
    rw[St.put_H,St.put_k] at hb
    refine⟨lb',hk0,vb,s.H,s.k,ZeY qb e1 s2,rb,la' _ _,by rw[St.put_k];exact hk0,va,Hb,kb,?_,ra,Zed hQ (fin _ _ _ _ _ _) h2⟩
    rw[hb.1,hb.2]
    exact Zb0 (e2 _ _) (by rw[St.put_H]) (by rw[St.put_k]) s1
  · have ha:=s1.1 (by simpa using qa)
    have sb:stepS P b s vb Hb kb:=Zb0 e1 (by rw[St.put_H,ha.1]) (by rw[St.put_k,ha.2]) s2
    refine⟨lb',hk0,vb,Hb,kb,sb,rb,la' _ _,by rw[St.put_k];exact hk2,va,Hb,kb,?_,ra,Zed hQ (fin _ _ _ _ _ _) h2⟩
    by_cases qb:b.op.moves=true
    · have qa':a.op.quiet=true:=by simpa [qb] using m2
      have:=ZeY qa' (e2 Hb kb) s1
      rwa [St.put_H,St.put_k] at this
    · have hb:=s2.1 (by simpa using qb)
      rw[St.put_H,St.put_k] at hb
      have:=Zb0 (e2 Hb kb) (by rw[St.put_H,hb.1,ha.1]) (by rw[St.put_k,hb.2,ha.2]) s1
      rw[show Hb=Ha from hb.1,show kb=ka from hb.2] at this ⊢
      exact this
def Comm (P:Program) (sf:St) (k0:Nat) (a b:LOp):Prop:=a.apart b=true∨a.envApart b=true∧a.g=none∧b.g=none∧SoftOK P sf.ev k0 a b
theorem vSE_front {sf:St} {k0:Nat} {Q:St→Prop} (hQ:∀s s',St.Same s s'→Q s→Q s') {b:LOp} {l2:List LOp}:∀ {l1:List LOp} {s:St},(∀a∈l1,Comm P sf k0 a b)→vSE P sf k0 (l1++b :: l2) s Q→vSE P sf k0 (b :: (l1++l2)) s Q
 | [],_,_,h=>h
 | a :: l1,s,hl,⟨q1,q2,v,H,k,h1,h3,h2⟩=>by
  have hc:=hl a (by simp)
  have h:vSE P sf k0 (a :: b :: (l1++l2)) s Q:=⟨q1,q2,v,H,k,h1,h3,vSE_front hQ (fun x hx=>hl x (List.mem_cons_of_mem _ hx)) h2⟩
  rcases hc with hc | ⟨c1,c2,c3,c4⟩
  ·exact vSE_apart hQ hc h
  ·exact vSE_soft hQ c1 c2 c3 c4 h
theorem aop_mono {ev:RX→AV} {op:ROp} {H H1:Heap} {k k1:Nat} {v:AV} (h:aop op ev H k=some (v,H1,k1)):k≤k1:=by
 by_cases hm:op.moves=false
 ·rw[(aop_still hm h).2];exact Nat.le_refl _
 ·cases op<;>simp only[ROp.moves,not_true_eq_false] at hm
  all_goals
   simp only[aop] at h
   (repeat' split at h)<;>first
    | (cases h;done)
    | (simp only[Option.some.injEq,Prod.mk.injEq] at h;have:=h.2.2;omega)
    | (simp only[Option.map_eq_some_iff,Prod.mk.injEq] at h;obtain⟨_,_,_,_,h⟩:=h;omega)
theorem vOp_up {op:ROp} (hm:op.moves=true) {st:St} {v:AV} {H:Heap} {k:Nat} (h:vOp P op st (fun v' H' k'=>v'=v∧H'=H∧k'=k)):st.k≤k:=by
 cases op<;>simp only[ROp.moves,Bool.false_eq_true] at hm
 all_goals
  simp only[vOp] at h
  split at h
  ·rename_i e;have:=aop_mono e;obtain⟨_,_,rfl⟩:=h;exact this
  ·exact h.elim
theorem stepS_mono {o:LOp} {st:St} {v:AV} {H:Heap} {k:Nat} (h:stepS P o st v H k):st.k≤k:=by
 obtain⟨h0,h1⟩:=h
 by_cases hm:o.op.moves=true
 ·split at h1
  ·exact vOp_up hm h1
  ·split at h1
   ·rename_i b _ _ x _
    by_cases e:x=b
    ·exact vOp_up hm (h1.1 e)
    ·rw[(h1.2 e).2.2];exact Nat.le_refl _
   ·rw[h1.2.2];exact Nat.le_refl _
   ·exact h1.elim
 ·rw[(h0 (by simpa using hm)).2];exact Nat.le_refl _
theorem vS_E {k0:Nat} {Q:St→Prop}:∀ {l:List LOp} {st:St},stable l=true→k0≤st.k→vS P l st Q→∃sf,Q sf∧(∀t,(∀p∈l,p.dst≠some t)→st.env.get t=sf.env.get t)∧vSE P sf k0 l st Q
 | [],st,_,hk,h=>⟨st,h,fun _ _=>rfl,hk,h⟩
 | o :: r,st,hs,hk,⟨v,H,k,h1,h2⟩=>by
  simp only[stable,Bool.and_eq_true,Bool.or_eq_true,Bool.not_eq_true',List.all_eq_true] at hs
  obtain⟨sf,q1,q2,q3⟩:=vS_E (k0:=k0) hs.2 (by rw[St.put_k];exact Nat.le_trans hk (stepS_mono h1)) h2
  have hu:∀t,(∀p∈o :: r,p.dst≠some t)→st.env.get t=sf.env.get t:=fun t ht=>by
   rw[←q2 t (fun p hp=>ht p (List.mem_cons_of_mem _ hp)),St.put_get,if_neg (ht o (by simp))]
  refine⟨sf,q1,hu,fun hc t ht=>hu t fun p hp=>?_,hk,v,H,k,h1,fun hc d hd=>?_,q3⟩
  ·rcases hs.1.1 with h5 | h5
   ·rw[h5] at hc;cases hc
   ·simpa using h5 t ht p hp
  ·rcases hs.1.2 with h5 | h5
   ·rw[h5] at hc;cases hc
   ·have:=q2 d fun p hp e=>by
     have:=h5 p hp
     rw[e,hd] at this
     simp at this
    rw[←this,St.put_get,if_pos hd]
end Go.Abs
