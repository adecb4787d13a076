/-
  Abs,part 1:abstract values,what they stand for in a world,states,and how worlds go on. No program is in sight here. Abs,part 2:what stands for a value goes on standing for it. Abs,part 3:operations with their numbers resolved;how code is brought into this form;what an operation does to an abstract state. (and more of this kind).
-/
import Derived.Below
import Derived.Calls
import Derived.Laws.Sem
import Derived.Laws.CopyRow
import Derived.Laws.Cells
import Derived.Laws.StructEq
import Derived.Laws.Append
import Derived.Laws.MakeOwn
namespace Go.Abs
open Go
inductive PV where
 | c (v:Value)
 | agg (cs:List PV)
 | sl (rows:List (List PV))
 | ptr (cells:List PV)
 | mp (es:List (PV × PV))
inductive AV where
 | p (x:PV)
 | agg (cs:List AV)
 | tup (cs:List AV)
 | bp (n off:Nat)
 | ep (n i j len:Nat)
 | os (n off len:Nat)
 | mp (n:Nat)
 | fn (f:Fn) (first cap:List AV)
 | ifc (t:TypeId) (x:AV)
 | junk
inductive AObj where
 | cells (cs:List AV)
 | slice (rows:List (List PV))
 | map (es:List (PV × PV))
abbrev Heap:=List (Nat × AObj)
def Heap.get:Heap→Nat→Option AObj
 | [],_=>none
 | (k,o) :: H,n=>if k=n then some o else Heap.get H n
def Heap.set:Heap→Nat→AObj→Heap
 | [],_,_=> []
 | (k,o) :: H,n,x=>if k=n then (k,x) :: H else (k,o) :: Heap.set H n x
def Heap.del:Heap→Nat→Heap
 | [],_=> []
 | (k,o) :: H,n=>if k=n then Heap.del H n else (k,o) :: Heap.del H n
abbrev Env:=List (Nat × AV)
def Env.get:Env→Nat→AV
 | [],_=> .junk
 | (k,x) :: E,n=>if k=n then x else Env.get E n
structure Loc where
 blk:Option Nat
 base:Nat
 drop:Nat
 cap:Nat
 w:Nat
 sub:List Nat
def Loc.has (l:Loc) (b:Nat):Prop:=l.blk=some b∨b∈l.sub
structure G where
 ρ:Nat→Loc
 fz:Nat→Option Obj
def lim:Nat:=140737488355328
def top:Nat:=9223372036854775807
def RowsAt (cs:Array Value) (off w:Nat) (vals:List (List Value)):Prop :=
 ∀i r,vals[i]? =some r→r.length=w∧∀j x,r[j]? =some x→cs[off+i*w+j]? =some x
def CellsAt (cs:Array Value) (off:Nat) (vals:List Value):Prop:=∀j x,vals[j]? =some x→cs[off+j]? =some x
mutual
def PRep (fz:Nat→Option Obj):PV→Value→Prop
  | .c x,v=>v=x
  | .agg cs,v=>∃vs:Array Value,v= .agg vs∧PRepL fz cs vs.toList
  | .sl rows,v=>rows.length≤top ∧
      ((rows= []∧∃ba,v= .slice ba 0 0) ∨
       ∃b off cap w cs t fr vals,v= .slice (some ⟨b,off,none⟩) rows.length cap∧rows.length≤cap∧fz b=some (.cells cs t fr)∧PRepLL fz rows vals∧RowsAt cs off w vals)
  | .ptr cells,v=>∃b off cs t fr vals,v= .pointer (some ⟨b,off,none⟩)∧fz b=some (.cells cs t fr)∧PRepL fz cells vals∧CellsAt cs off vals
  | .mp es,v=>∃b ms clock,v= .map (some b)∧fz b=some (.map ms clock)∧PRepM fz es (ms.toList.map fun m=>(m.key,m.val))
def PRepL (fz:Nat→Option Obj):List PV→List Value→Prop
 | [],vs=>vs= []
 | x :: xs,vs=>∃v r,vs=v :: r∧PRep fz x v∧PRepL fz xs r
def PRepLL (fz:Nat→Option Obj):List (List PV)→List (List Value)→Prop
 | [],vs=>vs= []
 | x :: xs,vs=>∃v r,vs=v :: r∧PRepL fz x v∧PRepLL fz xs r
def PRepM (fz:Nat→Option Obj):List (PV × PV)→List (Value × Value)→Prop
 | [],vs=>vs= []
 | (x,y) :: xs,vs=>∃a b r,vs=(a,b) :: r∧PRep fz x a∧PRep fz y b∧PRepM fz xs r
end
def OsRep (l:Loc) (off len:Nat) (v:Value):Prop :=
 ∃a cap,v= .slice a len cap∧len≤cap∧(cap=0∨(∃b,l.blk=some b∧l.drop≤off∧off+cap=l.cap∧a=some ⟨b,l.base+(off - l.drop)*l.w,none⟩))
mutual
def ARep (g:G) (H:Heap) (k:Nat):AV→Value→Prop
 | .p x,v=>PRep g.fz x v
 | .agg cs,v=>∃vs:Array Value,v= .agg vs∧ARepL g H k cs vs.toList
 | .tup cs,v=>∃vs:Array Value,v= .tuple vs∧ARepL g H k cs vs.toList
 | .bp n off,v=>n<k∧v.oneCell'=true∧∀cs,Heap.get H n=some (.cells cs)→∃b,(g.ρ n).blk=some b∧v= .pointer (some ⟨b,off,none⟩)
 | .ep n i j len,v=>n<k∧v.oneCell'=true∧∀rows,Heap.get H n=some (.slice rows)→len≤rows.length∧(len=rows.length→i<len∧(g.ρ n).drop≤i∧∃b,(g.ρ n).blk=some b∧v= .pointer (some ⟨b,(g.ρ n).base+(i - (g.ρ n).drop)*(g.ρ n).w+j,none⟩))
 | .os n off len,v=>n<k∧v.oneCell'=true∧∀rows,Heap.get H n=some (.slice rows)→off+len≤rows.length∧(off+len=rows.length→OsRep (g.ρ n) off len v)
 | .mp n,v=>n<k∧v.oneCell'=true∧∀es,Heap.get H n=some (.map es)→∃b,(g.ρ n).blk=some b∧v= .map (some b)
 | .fn f first cap,v=>∃a b:Array Value,v= .func f a b∧ARepL g H k first a.toList∧ARepL g H k cap b.toList
 | .ifc t x,v=>∃y,v= .iface t y∧ARep g H k x y
 | .junk,_=>True
def ARepL (g:G) (H:Heap) (k:Nat):List AV→List Value→Prop
 | [],vs=>vs= []
 | x :: xs,vs=>∃v r,vs=v :: r∧ARep g H k x v∧ARepL g H k xs r
end
def MRep (fz:Nat→Option Obj) (clock:Nat):List (PV × PV)→List MapEntry→Prop
 | [],ms=>ms= []
 | e :: es,ms=>∃m r,ms=m :: r∧PRep fz e.1 m.key∧PRep fz e.2 m.val∧m.born<clock∧MRep fz clock es r
def ORep (g:G) (H:Heap) (k:Nat) (n:Nat) (w:World):AObj→Prop
  | .cells cs=>∃b vs t,(g.ρ n).blk=some b∧w.heap[b]? =some (.cells vs t (0,0))∧ARepL g H k cs vs.toList
  | .slice rows=>rows.length≤lim∧(g.ρ n).drop≤rows.length∧((g.ρ n).drop<rows.length→(g.ρ n).blk≠none)∧(∀r∈rows,r.length=(g.ρ n).w)∧(rows= []→(g.ρ n).blk=none)∧(∀b,(g.ρ n).blk=some b →
      ∃cs t vals,w.heap[b]? =some (.cells cs t (0,0))∧(rows.length≤(g.ρ n).cap∧(g.ρ n).cap - (g.ρ n).drop≤top)∧PRepLL g.fz (rows.drop (g.ρ n).drop) vals∧RowsAt cs (g.ρ n).base (g.ρ n).w vals ∧
        (g.ρ n).base+((g.ρ n).cap - (g.ρ n).drop)*(g.ρ n).w≤cs.size)
  | .map es=>∃b ms clock,(g.ρ n).blk=some b∧w.heap[b]? =some (.map ms clock) ∧
      MRep g.fz clock es ms.toList∧(ms.toList.map (·.born)).Nodup
structure St where
 env:Env
 H:Heap
 k:Nat
structure SimH (g:G) (w:World) (H:Heap) (k:Nat):Prop where
 obj:∀n o,H.get n=some o→n<k∧ORep g H k n w o∧∀b,(g.ρ n).has b→g.fz b=none∧b<w.heap.size
 inj:∀n m b,H.get n≠none→H.get m≠none→(g.ρ n).has b→(g.ρ m).has b→n=m
 fz:∀b o,g.fz b=some o→w.heap[b]? =some o
structure Sim (g:G) (w:World) (st:St) (tm:Array Value):Prop where
 env:∀t,ARep g st.H st.k (st.env.get t) (tm.getD t undef)
 h:SimH g w st.H st.k
def Compat (l l':Loc):AObj→AObj→Prop
 | .cells _,.cells _=>l'=l
 | .slice rows,.slice rows'=>l'=l∧rows'.length=rows.length∨rows.length<rows'.length
 | .map _,.map _=>l'=l
 | _,_=>False
structure Evo (g:G) (w:World) (H:Heap) (k:Nat) (g':G) (w':World) (H':Heap) (k':Nat):Prop where
 kle:k≤k'
 os:w'.os=w.os
 tape:w'.tape=w.tape
 output:w'.output=w.output
 size:w.heap.size≤w'.heap.size
 fz:∀b o,g.fz b=some o→g'.fz b=some o
 fzNew:∀b o,g'.fz b=some o→g.fz b=some o∨(∃n,H.get n≠none∧(g.ρ n).has b)∨w.heap.size≤b
 frame:∀b,b<w.heap.size→(∀n,H.get n≠none→¬(g.ρ n).has b)→w'.heap[b]? =w.heap[b]?
 names:∀n,n<k→H.get n=none→g'.ρ n=g.ρ n
 dom:∀n,n<k→H.get n=none→H'.get n=none
 compat:∀n o o',n<k→H.get n=some o→H'.get n=some o'→Compat (g.ρ n) (g'.ρ n) o o'
 blks:∀n b,H'.get n≠none→(g'.ρ n).has b→(∃m,H.get m≠none∧(g.ρ m).has b)∨w.heap.size≤b
end Go.Abs
namespace Go.Abs
open Go
mutual
theorem PRep.mono {fz fz':Nat→Option Obj} (h:∀b o,fz b=some o→fz' b=some o):∀(x:PV) (v:Value),PRep fz x v→PRep fz' x v
 | .c _,_,hx=>by simp only[PRep] at *;exact hx
 | .agg cs,v,hx=>by
  simp only[PRep] at *
  obtain⟨vs,e,hl⟩:=hx
  exact⟨vs,e,PRepL.mono h cs _ hl⟩
 | .sl rows,v,hx=>by
  simp only[PRep] at *
  obtain⟨hl,hx⟩:=hx
  refine⟨hl,?_⟩
  rcases hx with hx | ⟨b,off,cap,w,cs,t,fr,vals,e,hc,hf,hr,ha⟩
  ·exact .inl hx
  ·exact .inr ⟨b,off,cap,w,cs,t,fr,vals,e,hc,h _ _ hf,PRepLL.mono h rows _ hr,ha⟩
 | .ptr cells,v,hx=>by
  simp only[PRep] at *
  obtain⟨b,off,cs,t,fr,vals,e,hf,hr,ha⟩:=hx
  exact⟨b,off,cs,t,fr,vals,e,h _ _ hf,PRepL.mono h _ _ hr,ha⟩
 | .mp es,v,hx=>by
  simp only[PRep] at *
  obtain⟨b,ms,c,e,hf,hr⟩:=hx
  exact⟨b,ms,c,e,h _ _ hf,PRepM.mono h _ _ hr⟩
theorem PRepL.mono {fz fz':Nat→Option Obj} (h:∀b o,fz b=some o→fz' b=some o):∀(x:List PV) (v:List Value),PRepL fz x v→PRepL fz' x v
 | [],_,hx=>by simp only[PRepL] at *;exact hx
 | x :: xs,v,hx=>by
  simp only[PRepL] at *
  obtain⟨a,r,e,h1,h2⟩:=hx
  exact⟨a,r,e,PRep.mono h x a h1,PRepL.mono h xs r h2⟩
theorem PRepLL.mono {fz fz':Nat→Option Obj} (h:∀b o,fz b=some o→fz' b=some o):∀(x:List (List PV)) (v:List (List Value)),PRepLL fz x v→PRepLL fz' x v
 | [],_,hx=>by simp only[PRepLL] at *;exact hx
 | x :: xs,v,hx=>by
  simp only[PRepLL] at *
  obtain⟨a,r,e,h1,h2⟩:=hx
  exact⟨a,r,e,PRepL.mono h x a h1,PRepLL.mono h xs r h2⟩
theorem PRepM.mono {fz fz':Nat→Option Obj} (h:∀b o,fz b=some o→fz' b=some o):∀(x:List (PV × PV)) (v:List (Value × Value)),PRepM fz x v→PRepM fz' x v
 | [],_,hx=>by simp only[PRepM] at *;exact hx
 | (x,y) :: xs,v,hx=>by
  simp only[PRepM] at *
  obtain⟨a,b,r,e,h1,h2,h3⟩:=hx
  exact⟨a,b,r,e,PRep.mono h x a h1,PRep.mono h y b h2,PRepM.mono h xs r h3⟩
end
theorem MRep.pairs {fz:Nat→Option Obj} {clock:Nat}:∀ {es:List (PV × PV)} {ms:List MapEntry},MRep fz clock es ms→PRepM fz es (ms.map fun m=>(m.key,m.val))
 | [],ms,h=>by simp only[MRep] at h;subst h;simp[PRepM]
 | (x,y) :: es,ms,h=>by
  simp only[MRep] at h
  obtain⟨m,r,rfl,h1,h2,_,h4⟩:=h
  simp only[List.map_cons,PRepM]
  exact⟨_,_,_,rfl,h1,h2,MRep.pairs h4⟩
theorem PRepM.length {fz:Nat→Option Obj}:∀ {es:List (PV × PV)} {vs:List (Value × Value)},PRepM fz es vs→vs.length=es.length
 | [],vs,h=>by simp only[PRepM] at h;simp[h]
 | (x,y) :: es,vs,h=>by
  simp only[PRepM] at h
  obtain⟨a,b,r,rfl,_,_,h3⟩:=h
  simp[PRepM.length h3]
theorem MRep.mono {fz fz':Nat→Option Obj} (h:∀b o,fz b=some o→fz' b=some o) {c c':Nat} (hc:c≤c'):∀(es:List (PV × PV)) (ms:List MapEntry),MRep fz c es ms→MRep fz' c' es ms
 | [],_,hx=>by simp only[MRep] at *;exact hx
 | e :: es,ms,hx=>by
  simp only[MRep] at *
  obtain⟨m,r,e',h1,h2,h3,h4⟩:=hx
  exact⟨m,r,e',PRep.mono h _ _ h1,PRep.mono h _ _ h2,Nat.lt_of_lt_of_le h3 hc,MRep.mono h hc es r h4⟩
structure Keeps (g:G) (H:Heap) (k:Nat) (g':G) (H':Heap) (k':Nat):Prop where
 kle:k≤k'
 fz:∀b o,g.fz b=some o→g'.fz b=some o
 at_:∀n o',n<k→H'.get n=some o'→∃o,H.get n=some o∧Compat (g.ρ n) (g'.ρ n) o o'
theorem Compat.refl (l:Loc) (o:AObj):Compat l l o o:=by cases o<;>simp[Compat]
theorem Keeps.refl (g:G) (H:Heap) (k:Nat):Keeps g H k g H k:=⟨Nat.le_refl _,fun _ _ h=>h,fun _ o' _ h=>⟨o',h,Compat.refl _ _⟩⟩
theorem Compat.trans {l l' l'':Loc} {o o' o'':AObj} (h:Compat l l' o o') (h':Compat l' l'' o' o''):Compat l l'' o o'':=by
 cases o<;>cases o'<;>cases o''<;>simp only[Compat] at* <;>first | exact h'.trans h | skip
 rcases h with ⟨rfl,h⟩ | h<;>rcases h' with ⟨rfl,h'⟩ | h'
 ·exact .inl ⟨rfl,h'.trans h⟩
 ·exact .inr (by omega)
 ·exact .inr (by omega)
 ·exact .inr (by omega)
theorem Keeps.trans {g g' g'':G} {H H' H'':Heap} {k k' k'':Nat} (h:Keeps g H k g' H' k') (h':Keeps g' H' k' g'' H'' k''):Keeps g H k g'' H'' k'' :=
  ⟨Nat.le_trans h.kle h'.kle,fun b o x=>h'.fz _ _ (h.fz _ _ x),fun n o'' hn ho=>by
    obtain⟨o',h1,c1⟩:=h'.at_ n o'' (Nat.lt_of_lt_of_le hn h.kle) ho
    obtain⟨o,h2,c2⟩:=h.at_ n o' hn h1
    exact⟨o,h2,c2.trans c1⟩⟩
mutual
theorem ARep.keeps {g g':G} {H H':Heap} {k k':Nat} (h:Keeps g H k g' H' k'):∀(x:AV) (v:Value),ARep g H k x v→ARep g' H' k' x v
 | .p x,v,hx=>by simp only[ARep] at *;exact PRep.mono h.fz x v hx
 | .agg cs,v,hx=>by
  simp only[ARep] at *
  obtain⟨vs,e,hl⟩:=hx
  exact⟨vs,e,ARepL.keeps h cs _ hl⟩
 | .tup cs,v,hx=>by
  simp only[ARep] at *
  obtain⟨vs,e,hl⟩:=hx
  exact⟨vs,e,ARepL.keeps h cs _ hl⟩
 | .bp n off,v,hx=>by
  simp only[ARep] at *
  refine⟨Nat.lt_of_lt_of_le hx.1 h.kle,hx.2.1,fun cs hcs=>?_⟩
  obtain⟨o,ho,hc⟩:=h.at_ n _ hx.1 hcs
  cases o<;>simp only[Compat] at hc
  rw[hc];exact hx.2.2 _ ho
 | .ep n i j len,v,hx=>by
  simp only[ARep] at *
  refine⟨Nat.lt_of_lt_of_le hx.1 h.kle,hx.2.1,fun rows hcs=>?_⟩
  obtain⟨o,ho,hc⟩:=h.at_ n _ hx.1 hcs
  cases o<;>simp only[Compat] at hc
  obtain⟨hl,hh⟩:=hx.2.2 _ ho
  rcases hc with ⟨e,hc⟩ | hc
  ·rw[e];exact⟨by omega,fun hl'=>hh (by omega)⟩
  ·exact⟨by omega,fun hl'=>by omega⟩
 | .os n off len,v,hx=>by
  simp only[ARep] at *
  refine⟨Nat.lt_of_lt_of_le hx.1 h.kle,hx.2.1,fun rows hcs=>?_⟩
  obtain⟨o,ho,hc⟩:=h.at_ n _ hx.1 hcs
  cases o<;>simp only[Compat] at hc
  obtain⟨hl,hh⟩:=hx.2.2 _ ho
  rcases hc with ⟨e,hc⟩ | hc
  ·rw[e];exact⟨by omega,fun hl'=>hh (by omega)⟩
  ·exact⟨by omega,fun hl'=>by omega⟩
 | .mp n,v,hx=>by
  simp only[ARep] at *
  refine⟨Nat.lt_of_lt_of_le hx.1 h.kle,hx.2.1,fun cs hcs=>?_⟩
  obtain⟨o,ho,hc⟩:=h.at_ n _ hx.1 hcs
  cases o<;>simp only[Compat] at hc
  rw[hc];exact hx.2.2 _ ho
 | .fn f a b,v,hx=>by
  simp only[ARep] at *
  obtain⟨x,y,e,h1,h2⟩:=hx
  exact⟨x,y,e,ARepL.keeps h _ _ h1,ARepL.keeps h _ _ h2⟩
 | .ifc t x,v,hx=>by
  simp only[ARep] at *
  obtain⟨y,e,h1⟩:=hx
  exact⟨y,e,ARep.keeps h _ _ h1⟩
 | .junk,_,_=>by simp only[ARep]
theorem ARepL.keeps {g g':G} {H H':Heap} {k k':Nat} (h:Keeps g H k g' H' k'):∀(x:List AV) (v:List Value),ARepL g H k x v→ARepL g' H' k' x v
 | [],_,hx=>by simp only[ARepL] at *;exact hx
 | x :: xs,v,hx=>by
  simp only[ARepL] at *
  obtain⟨a,r,e,h1,h2⟩:=hx
  exact⟨a,r,e,ARep.keeps h x a h1,ARepL.keeps h xs r h2⟩
end
theorem ORep.keeps {g g':G} {H H':Heap} {k k':Nat} {w w':World} {n:Nat} {o:AObj} (h:Keeps g H k g' H' k') (hρ:g'.ρ n=g.ρ n)
  (hw:∀b,(g.ρ n).has b→w'.heap[b]? =w.heap[b]?) (hx:ORep g H k n w o):ORep g' H' k' n w' o:=by
 cases o with
 | cells cs =>
  simp only[ORep] at *
  obtain⟨b,vs,t,h1,h2,h3⟩:=hx
  exact⟨b,vs,t,by rw[hρ];exact h1,by rw[hw b (.inl h1)];exact h2,ARepL.keeps h _ _ h3⟩
 | slice rows =>
  simp only[ORep] at *
  rw[hρ]
  obtain⟨h1,h2,h3,h4,h6,h5⟩:=hx
  refine⟨h1,h2,h3,h4,h6,fun b hb=>?_⟩
  obtain⟨cs,t,vals,a1,a2,a3,a4,a5⟩:=h5 b hb
  exact⟨cs,t,vals,by rw[hw b (.inl hb)];exact a1,a2,PRepLL.mono h.fz _ _ a3,a4,a5⟩
 | map es =>
  simp only[ORep] at *
  obtain⟨b,ms,c,h1,h2,h3,h4⟩:=hx
  exact⟨b,ms,c,by rw[hρ];exact h1,by rw[hw b (.inl h1)];exact h2,MRep.mono h.fz (Nat.le_refl _) _ _ h3,h4⟩
theorem Heap.get_set (H:Heap) (n m:Nat) (x:AObj):(H.set n x).get m=if n=m∧H.get n≠none then some x else H.get m:=by
 induction H with
 | nil=>simp[Heap.set,Heap.get]
 | cons a H ih =>
  obtain⟨k,o⟩:=a
  simp only[Heap.set]
  by_cases hk:k=n
  ·subst hk
   simp only[if_true,Heap.get]
   by_cases hm:k=m<;>simp[hm]
  ·simp only[if_neg hk,Heap.get,ih]
   by_cases hm:k=m
   ·subst hm;simp;intro e;exact absurd e.symm hk
   ·simp[hm]
theorem Heap.get_del (H:Heap) (n m:Nat):(H.del n).get m=if n=m then none else H.get m:=by
 induction H with
 | nil=>simp[Heap.del,Heap.get]
 | cons a H ih =>
  obtain⟨k,o⟩:=a
  simp only[Heap.del]
  by_cases hk:k=n
  ·subst hk
   simp only[if_true,ih,Heap.get]
   by_cases hm:k=m<;>simp[hm]
  ·simp only[if_neg hk,Heap.get,ih]
   by_cases hm:k=m
   ·subst hm;simp;intro e;exact absurd e.symm hk
   ·simp[hm]
theorem PRepL.length {fz:Nat→Option Obj}:∀ {xs:List PV} {vs:List Value},PRepL fz xs vs→vs.length=xs.length
 | [],_,h=>by simp only[PRepL] at h;simp[h]
 | x :: xs,_,h=>by
  simp only[PRepL] at h
  obtain⟨v,r,rfl,_,h2⟩:=h
  simp[PRepL.length h2]
theorem PRepLL.length {fz:Nat→Option Obj}:∀ {xs:List (List PV)} {vs:List (List Value)},PRepLL fz xs vs→vs.length=xs.length
 | [],_,h=>by simp only[PRepLL] at h;simp[h]
 | x :: xs,_,h=>by
  simp only[PRepLL] at h
  obtain⟨v,r,rfl,_,h2⟩:=h
  simp[PRepLL.length h2]
theorem ARepL.length {g:G} {H:Heap} {k:Nat}:∀ {xs:List AV} {vs:List Value},ARepL g H k xs vs→vs.length=xs.length
 | [],_,h=>by simp only[ARepL] at h;simp[h]
 | x :: xs,_,h=>by
  simp only[ARepL] at h
  obtain⟨v,r,rfl,_,h2⟩:=h
  simp[ARepL.length h2]
theorem PRepL.get {fz:Nat→Option Obj}:∀ {xs:List PV} {vs:List Value},PRepL fz xs vs→∀ {i:Nat} {x:PV},xs[i]? =some x→∃v,vs[i]? =some v∧PRep fz x v
 | [],_,_,_,_,hi=>by simp at hi
 | x :: xs,_,h,i,y,hi=>by
  simp only[PRepL] at h
  obtain⟨v,r,rfl,h1,h2⟩:=h
  cases i with
  | zero=>simp at hi;subst hi;exact⟨v,by simp,h1⟩
  | succ i=>simp at hi;simpa using PRepL.get h2 hi
theorem PRepLL.get {fz:Nat→Option Obj}:∀ {xs:List (List PV)} {vs:List (List Value)},PRepLL fz xs vs→∀ {i:Nat} {x:List PV},xs[i]? =some x→∃v,vs[i]? =some v∧PRepL fz x v
 | [],_,_,_,_,hi=>by simp at hi
 | x :: xs,_,h,i,y,hi=>by
  simp only[PRepLL] at h
  obtain⟨v,r,rfl,h1,h2⟩:=h
  cases i with
  | zero=>simp at hi;subst hi;exact⟨v,by simp,h1⟩
  | succ i=>simp at hi;simpa using PRepLL.get h2 hi
theorem ARepL.get {g:G} {H:Heap} {k:Nat}:∀ {xs:List AV} {vs:List Value},ARepL g H k xs vs→∀ {i:Nat} {x:AV},xs[i]? =some x→∃v,vs[i]? =some v∧ARep g H k x v
 | [],_,_,_,_,hi=>by simp at hi
 | x :: xs,_,h,i,y,hi=>by
  simp only[ARepL] at h
  obtain⟨v,r,rfl,h1,h2⟩:=h
  cases i with
  | zero=>simp at hi;subst hi;exact⟨v,by simp,h1⟩
  | succ i=>simp at hi;simpa using ARepL.get h2 hi
theorem PRepL.drop {fz:Nat→Option Obj}:∀ {xs:List PV} {vs:List Value},PRepL fz xs vs→∀n,PRepL fz (xs.drop n) (vs.drop n)
 | [],_,h,n=>by simp only[PRepL] at h;simp[h,PRepL]
 | x :: xs,_,h,n=>by
  cases n with
  | zero=>simpa using h
  | succ n =>
   simp only[PRepL] at h
   obtain⟨v,r,rfl,h1,h2⟩:=h
   simpa using PRepL.drop h2 n
theorem PRepL.take {fz:Nat→Option Obj}:∀ {xs:List PV} {vs:List Value},PRepL fz xs vs→∀n,PRepL fz (xs.take n) (vs.take n)
 | [],_,h,n=>by simp only[PRepL] at h;simp[h,PRepL]
 | x :: xs,_,h,n=>by
  cases n with
  | zero=>simp[PRepL]
  | succ n =>
   simp only[PRepL] at h
   obtain⟨v,r,rfl,h1,h2⟩:=h
   simp only[List.take_succ_cons,PRepL]
   exact⟨v,_,rfl,h1,PRepL.take h2 n⟩
theorem PRepLL.drop {fz:Nat→Option Obj}:∀ {xs:List (List PV)} {vs:List (List Value)},PRepLL fz xs vs→∀n,PRepLL fz (xs.drop n) (vs.drop n)
 | [],_,h,n=>by simp only[PRepLL] at h;simp[h,PRepLL]
 | x :: xs,_,h,n=>by
  cases n with
  | zero=>simpa using h
  | succ n =>
   simp only[PRepLL] at h
   obtain⟨v,r,rfl,h1,h2⟩:=h
   simpa using PRepLL.drop h2 n
theorem PRepLL.take' {fz:Nat→Option Obj}:∀ {xs:List (List PV)} {vs:List (List Value)},PRepLL fz xs vs→∀n,PRepLL fz (xs.take n) (vs.take n)
 | [],_,h,n=>by simp only[PRepLL] at h;simp[h,PRepLL]
 | x :: xs,_,h,n=>by
  cases n with
  | zero=>simp[PRepLL]
  | succ n =>
   simp only[PRepLL] at h
   obtain⟨v,r,rfl,h1,h2⟩:=h
   simp only[List.take_succ_cons,PRepLL]
   exact⟨v,_,rfl,h1,PRepLL.take' h2 n⟩
theorem ARepL.drop {g:G} {H:Heap} {k:Nat}:∀ {xs:List AV} {vs:List Value},ARepL g H k xs vs→∀n,ARepL g H k (xs.drop n) (vs.drop n)
 | [],_,h,n=>by simp only[ARepL] at h;simp[h,ARepL]
 | x :: xs,_,h,n=>by
  cases n with
  | zero=>simpa using h
  | succ n =>
   simp only[ARepL] at h
   obtain⟨v,r,rfl,h1,h2⟩:=h
   simpa using ARepL.drop h2 n
theorem ARepL.take {g:G} {H:Heap} {k:Nat}:∀ {xs:List AV} {vs:List Value},ARepL g H k xs vs→∀n,ARepL g H k (xs.take n) (vs.take n)
 | [],_,h,n=>by simp only[ARepL] at h;simp[h,ARepL]
 | x :: xs,_,h,n=>by
  cases n with
  | zero=>simp[ARepL]
  | succ n =>
   simp only[ARepL] at h
   obtain⟨v,r,rfl,h1,h2⟩:=h
   simp only[List.take_succ_cons,ARepL]
   exact⟨v,_,rfl,h1,ARepL.take h2 n⟩
theorem ARepL.append {g:G} {H:Heap} {k:Nat}:∀ {xs:List AV} {vs:List Value},ARepL g H k xs vs→∀ {ys:List AV} {us:List Value},ARepL g H k ys us→ARepL g H k (xs++ys) (vs++us)
 | [],_,h,_,_,h'=>by simp only[ARepL] at h;simpa [h] using h'
 | x :: xs,_,h,ys,us,h'=>by
  simp only[ARepL] at h
  obtain⟨v,r,rfl,h1,h2⟩:=h
  simp only[List.cons_append,ARepL]
  exact⟨v,_,rfl,h1,ARepL.append h2 h'⟩
theorem PRepLL.append {fz:Nat→Option Obj}:∀ {xs:List (List PV)} {vs:List (List Value)},PRepLL fz xs vs→∀ {ys:List (List PV)} {us:List (List Value)},PRepLL fz ys us→PRepLL fz (xs++ys) (vs++us)
 | [],_,h,_,_,h'=>by simp only[PRepLL] at h;simpa [h] using h'
 | x :: xs,_,h,ys,us,h'=>by
  simp only[PRepLL] at h
  obtain⟨v,r,rfl,h1,h2⟩:=h
  simp only[List.cons_append,PRepLL]
  exact⟨v,_,rfl,h1,PRepLL.append h2 h'⟩
theorem ARepL.set {g:G} {H:Heap} {k:Nat}:∀ {xs:List AV} {vs:List Value},ARepL g H k xs vs→∀ {x:AV} {v:Value},ARep g H k x v→∀n,ARepL g H k (xs.set n x) (vs.set n v)
 | [],_,h,_,_,_,n=>by simp only[ARepL] at h;simp[h,ARepL]
 | x :: xs,_,h,y,u,hy,n=>by
  simp only[ARepL] at h
  obtain⟨v,r,rfl,h1,h2⟩:=h
  cases n with
  | zero=>simp only[List.set_cons_zero,ARepL];exact⟨_,_,rfl,hy,h2⟩
  | succ n=>simp only[List.set_cons_succ,ARepL];exact⟨_,_,rfl,h1,ARepL.set h2 hy n⟩
theorem ARepL.ofP {g:G} {H:Heap} {k:Nat}:∀ {xs:List PV} {vs:List Value},ARepL g H k (xs.map .p) vs↔PRepL g.fz xs vs
 | [],_=>by simp[ARepL,PRepL]
 | x :: xs,vs=>by
  simp only[List.map_cons,ARepL,PRepL,ARep]
  constructor
  ·rintro⟨v,r,e,h1,h2⟩;exact⟨v,r,e,h1,ARepL.ofP.1 h2⟩
  ·rintro⟨v,r,e,h1,h2⟩;exact⟨v,r,e,h1,ARepL.ofP.2 h2⟩
end Go.Abs
namespace Go.Abs
open Go
inductive RX where
 | t (n:Nat)
 | k (x:PV)
 | f (fn:FuncId)
inductive FK where
 | int
 | str
 | bool
inductive KQ where
 | one (q:FK)
 | many (qs:List FK)
inductive ROp where
 | mv (x:RX)
 | pick (c a b:RX)
 | ibin (op:BinOp) (k:IntKind) (x y:RX)
 | shift (op:BinOp) (k:IntKind) (x y:RX)
 | sbin (op:BinOp) (x y:RX)
 | bbin (neg:Bool) (x y:RX)
 | eqv (neg:Bool) (ks:List FK) (x y:RX)
 | not (x:RX)
 | neg (k:IntKind) (x:RX)
 | conv (k:IntKind) (x:RX)
 | scv (x:RX)
 | load (n:Nat) (agg:Bool) (a:RX)
 | store (n:Nat) (a v:RX)
 | faddr (off:Nat) (x:RX)
 | fld (off n:Nat) (agg:Bool) (x:RX)
 | iaddr (w:Nat) (x i:RX)
 | aaddr (len w:Nat) (x i:RX)
 | sidx (x i:RX)
 | ssl (x:RX) (lo hi:Option RX)
 | lsl (w:Nat) (x:RX) (lo hi:Option RX)
 | alloc (zero:List PV)
 | box (n:Nat) (v:RX)
 | build (zero:List PV) (parts:List (Nat × Nat × RX))
 | bslice (w:Nat) (zero:List PV) (len:Nat) (parts:List (Nat × RX))
 | mslice (w bytes:Nat) (zero:List PV) (len cap:RX)
 | mmap
 | look (q:KQ) (zero:PV) (ok:Bool) (m key:RX)
 | mupd (q:KQ) (m key v:RX)
 | mlen (m:RX)
 | app (w bytes:Nat) (zero:List PV) (s x:RX)
 | len (x:RX)
 | slen (x:RX)
 | min (l:List RX)
 | max (l:List RX)
 | ext (i:Nat) (x:RX)
 | mkf (fn:Fn) (first cap:List RX)
 | nilck (x:RX)
 | snil (neg:Bool) (x:RX)
 | call (f:FuncId) (args:List RX)
 | callv (x:RX) (args:List RX)
 | aidx (len w:Nat) (agg:Bool) (x i:RX)
 | bad
structure LOp where
 dst:Option Nat
 g:Option (Nat × Bool)
 op:ROp
def rk (n:Int):RX:= .k (.c (.int .i64 n))
def ro (n:Nat) (o:ROp):LOp:=⟨some n,none,o⟩
def rm (n m:Nat):LOp:=⟨some n,none,.mv (.t m)⟩
def rp (n m:Nat) (b:Bool) (o:ROp):LOp:=⟨some n,some (m,b),o⟩
def rn (o:ROp):LOp:=⟨none,none,o⟩
def rb (b:BinOp) (x y:RX):ROp:= .ibin b .i64 x y
def rT:RX:= .k (.c (.bool true))
def rF:RX:= .k (.c (.bool false))
def rq (m:Nat) (b:Bool) (o:ROp):LOp:=⟨none,some (m,b),o⟩
inductive RCode where
 | skip
 | region (draw:Bool) (ops:List LOp)
 | soft (ps:List (Nat × Nat)) (ls:List LOp)
 | seq (a b:RCode)
 | cond (c:RX) (a b:RCode)
 | block (id:Nat) (a:RCode)
 | loop (a:RCode)
 | exit (id:Nat)
 | ret
 | bad
def rg (l:List LOp):RCode:= .region false l
def flat:Value→Bool
 | .bool _ | .int _ _ | .string _ | .nilFunc | .nilIface | .pointer none | .map none | .slice none 0 0=>true
 | _=>false
def PV.ofFlat (v:Value):Option PV:=if flat v then some (.c v) else none
def PV.nil:PV:= .c (.slice none 0 0)
def PV.ofValue:Value→Option PV
 | .agg cs=>(cs.toList.mapM PV.ofFlat).map .agg
 | v=>PV.ofFlat v
def PV.ofZero (v:Value):Option (List PV):=v.cells.toList.mapM PV.ofFlat
def lowX:Operand→Option RX
 | .tmp t=>some (.t t)
 | .const v=>(PV.ofValue v).map .k
 | .func f=>some (.f f)
 | .global _=>none
def isAggT (P:Program) (t:TypeId):Option Bool :=
 (P.underlying t).map fun | .struct _ | .array _ _=>true | _=>false
def sizeT (P:Program) (t:TypeId):Option Nat:=(P.info? t).map (·.size)
def zeroV (P:Program) (t:TypeId):Option PV:=((P.info? t).bind (·.zero)).bind PV.ofValue
def zeroT (P:Program) (t:TypeId):Option (List PV):=((P.info? t).bind (·.zero)).bind PV.ofZero
def fkT (P:Program) (t:TypeId):Option FK :=
 match P.underlying t with
 | some (.int _)=>some .int
 | some .string=>some .str
 | some .bool=>some .bool
 | _=>none
def flatFields (P:Program) (fs:List Field) (off:Nat):Option (List FK) :=
 match fs with
 | []=>some []
 | f :: r => if f.offset = off ∧ f.name ≠ "_" ∧ sizeT P f.type = some 1 then
   match fkT P f.type,flatFields P r (off+1) with
   | some q,some qs=>some (q :: qs)
   | _,_=>none
  else none
def eqable (P:Program) (t:TypeId):Option (List FK) :=
 match P.underlying t with
 | some (.struct fs)=>if P.stoodInHeld t=false∧P.eqGuardType P.depth t=false then flatFields P fs.toList 0 else none
 | _=>none
def nestFields (P:Program) (fs:List Field) (off:Nat):Option (List FK) :=
 match fs with
 | []=>some []
 | f :: r => if f.offset = off ∧ f.name ≠ "_" then
   match fkT P f.type with
   | some q=>if sizeT P f.type=some 1 then (nestFields P r (off+1)).map (q :: ·) else none
   | none=>match eqable P f.type with
    | some qs=>if sizeT P f.type=some qs.length then (nestFields P r (off+qs.length)).map (qs++ ·) else none
    | none=>none
  else none
def eqable2 (P:Program) (t:TypeId):Option (List FK) :=
 match eqable P t with
 | some ks=>some ks
 | none=>match P.underlying t with
  | some (.struct fs)=>if P.stoodInHeld t=false∧P.eqGuardType P.depth t=false then nestFields P fs.toList 0 else none
  | _=>none
def keyT (P:Program) (t:TypeId):Option KQ:=match fkT P t with
 | some q=>some (.one q)
 | none=>(eqable P t).map .many
def lowBuiltin (P:Program) (b:Builtin) (args:List Operand) (argTypes:Array TypeId):Option ROp :=
 match b with
 | .len=>match args,argTypes[0]? with
  | [x],some t=>match P.underlying t with
   | some .string=>(lowX x).map .slen
   | some (.slice _)=>(lowX x).map .len
   | some (.map _ _)=>(lowX x).map .mlen
   | _=>none
  | _,_=>none
 | .append=>match args,argTypes[0]?,argTypes[1]? with
  | [s,x],some t,some u=>match P.underlying t,P.underlying u with
   | some (.slice e),some (.slice _)=>do pure (.app (←sizeT P e) (←(P.info? e).map (·.bytes)) (←zeroT P e) (←lowX s) (←lowX x))
   | _,_=>none
  | _,_,_=>none
 | .min=>(args.mapM lowX).map .min
 | .max=>(args.mapM lowX).map .max
 | _=>none
def lowOp (P:Program) (op:Op):Option ROp :=
 match op with
 | .move x | .assign x=>(lowX x).map .mv
 | .pick c a b=>do pure (.pick (←lowX c) (←lowX a) (←lowX b))
 | .binOp op t x y _=>do
  let x←lowX x;let y←lowX y
  match P.underlying t with
  | some (.int k)=>(match op with | .add | .sub | .mul | .quo | .rem | .and | .or | .xor | .eql | .neq | .lss | .leq | .gtr | .geq=>some (.ibin op k x y) | .shl | .shr=>some (.shift op k x y) | _=>none)
  | some .string=>(match op with | .add | .eql | .neq | .lss | .leq | .gtr | .geq=>some (.sbin op x y) | _=>none)
  | some .bool=>(match op with | .eql=>some (.bbin false x y) | .neq=>some (.bbin true x y) | _=>none)
  | some (.slice _)=>(match op,y with | .eql,.k (.c (.slice none 0 0))=>some (.snil false x) | .neq,.k (.c (.slice none 0 0))=>some (.snil true x) | _,_=>none)
  | some (.struct _)=>match eqable2 P t with
   | some ks=>(match op with | .eql=>some (.eqv false ks x y) | .neq=>some (.eqv true ks x y) | _=>none)
   | none=>none
  | _=>none
 | .unOp .not _ x=>(lowX x).map .not
 | .unOp .neg t x=>do
  match P.underlying t with
  | some (.int k)=>pure (.neg k (←lowX x))
  | _=>none
 | .convert s d x=>do
  let x←lowX x
  match P.underlying s,P.underlying d with
  | some (.int _),some (.int k)=>pure (.conv k x)
  | some .string,some .string=>pure (.scv x)
  | _,_=>none
 | .load t a=>do pure (.load (←sizeT P t) (←isAggT P t) (←lowX a))
 | .store t a v=>do pure (.store (←sizeT P t) (←lowX a) (←lowX v))
 | .fieldAddr s x i=>do
  match P.underlying s with
  | some (.struct fs)=>match fs[i]? with
   | some f=>if sizeT P f.type == some 0 || sizeT P f.type == none then none else pure (.faddr f.offset (←lowX x))
   | none=>none
  | _=>none
 | .field s x i=>do
  match P.underlying s with
  | some (.struct fs)=>match fs[i]? with
   | some f=>pure (.fld f.offset (←sizeT P f.type) (←isAggT P f.type) (←lowX x))
   | none=>none
  | _=>none
 | .indexAddr t x i=>do
  match P.underlying t with
  | some (.slice e)=>pure (.iaddr (←sizeT P e) (←lowX x) (←lowX i))
  | some (.array n e)=>pure (.aaddr n (←sizeT P e) (←lowX x) (←lowX i))
  | _=>none
 | .index t x i=>do
  match P.underlying t with
  | some .string=>pure (.sidx (←lowX x) (←lowX i))
  | some (.array n e)=>pure (.aidx n (←sizeT P e) (←isAggT P e) (←lowX x) (←lowX i))
  | _=>none
 | .slice t x lo hi none=>do
  let low (o:Option Operand):Option (Option RX):=match o with | none=>some none | some y=>(lowX y).map some
  match P.underlying t with
  | some .string=>pure (.ssl (←lowX x) (←low lo) (←low hi))
  | some (.slice e)=>pure (.lsl (←sizeT P e) (←lowX x) (←low lo) (←low hi))
  | _=>none
 | .alloc t=>(zeroT P t).map .alloc
 | .box t v=>do pure (.box (←sizeT P t) (←lowX v))
 | .build t parts=>do
  match P.underlying t with
  | some (.struct fs)=>do
   let places←fs.toList.mapM fun f=>(sizeT P f.type).map fun n=>(f.offset,n)
   let ps←parts.toList.mapM fun (i,x)=>do
    let (o,n)←places[i]?
    pure (o,n,←lowX x)
   pure (.build (←zeroT P t) ps)
  | some (.array _ e)=>do
   let n←sizeT P e
   let ps←parts.toList.mapM fun (i,x)=>do
    pure (i*n,n,←lowX x)
   pure (.build (←zeroT P t) ps)
  | _=>none
 | .buildSlice t n parts=>do
  match P.underlying t with
  | some (.slice e)=>do
   let ps←parts.toList.mapM fun (i,x)=>do pure (i,←lowX x)
   if n>2 ^ 24∨n*(←sizeT P e)>2 ^ 24 then none else pure (.bslice (←sizeT P e) (←zeroT P e) n ps)
  | _=>none
 | .makeSlice t l c=>do
  match P.underlying t with
  | some (.slice e)=>pure (.mslice (←sizeT P e) (←(P.info? e).map (·.bytes)) (←zeroT P e) (←lowX l) (←lowX c))
  | _=>none
 | .makeMap _ none=>some .mmap
 | .lookup t m key ok=>do
  match P.underlying t with
  | some (.map kt e) =>
   let q←keyT P kt
   pure (.look q (←zeroV P e) ok (←lowX m) (←lowX key))
  | _=>none
 | .mapUpdate t m key v | .insert t m key v=>do
  match P.underlying t with
  | some (.map kt _) =>
   pure (.mupd (←keyT P kt) (←lowX m) (←lowX key) (←lowX v))
  | _=>none
 | .extract x i=>(lowX x).map (.ext i)
 | .makeFunc fn a b=>do pure (.mkf fn (←a.toList.mapM lowX) (←b.toList.mapM lowX))
 | .nilCheck x=>(lowX x).map .nilck
 | .call {callee:= .builtin b,args,argTypes}=>lowBuiltin P b args.toList argTypes
 | .call {callee:= .value (.func f),args,..}=>do
  match P.funcs[f]? with
  | some fn => if fn.body.isSome && fn.name != "runtime.NumGoroutine" then pure (.call f (← args.toList.mapM lowX)) else none
  | none=>none
 | .call {callee:= .value x,args,..}=>do pure (.callv (←lowX x) (←args.toList.mapM lowX))
 | _=>none
def lowOper (P:Program) (nt:Nat) (ops:Array Oper) (o:Oper):Option LOp:=do
 let op:=(lowOp P o.op).getD .bad
 if !(o.dst.all (· <nt)) then none
 match o.guard with
 | none=>pure ⟨o.dst,none,op⟩
 | some (j,b)=>match (ops[j]?).bind (·.dst) with
  | some d=>pure ⟨o.dst,some (d,b),op⟩
  | none=>none
def ROp.xs:ROp→List RX
 | .mv x=> [x]
 | .pick c a b=> [c,a,b]
 | .ibin _ _ x y=> [x,y]
 | .shift _ _ x y=> [x,y]
 | .sbin _ x y=> [x,y]
 | .bbin _ x y=> [x,y]
 | .eqv _ _ x y=> [x,y]
 | .not x=> [x]
 | .neg _ x=> [x]
 | .conv _ x=> [x]
 | .scv x=> [x]
 | .load _ _ a=> [a]
 | .store _ a v=> [a,v]
 | .faddr _ x=> [x]
 | .fld _ _ _ x=> [x]
 | .iaddr _ x i=> [x,i]
 | .aaddr _ _ x i=> [x,i]
 | .sidx x i=> [x,i]
 | .ssl x lo hi=>x :: (lo.toList++hi.toList)
 | .lsl _ x lo hi=>x :: (lo.toList++hi.toList)
 | .alloc _=> []
 | .box _ v=> [v]
 | .build _ parts=>parts.map (·.2.2)
 | .bslice _ _ _ parts=>parts.map (·.2)
 | .mslice _ _ _ l c=> [l,c]
 | .mmap=> []
 | .look _ _ _ m key=> [m,key]
 | .mupd _ m key v=> [m,key,v]
 | .mlen m=> [m]
 | .app _ _ _ s x=> [s,x]
 | .len x=> [x]
 | .slen x=> [x]
 | .min l=>l
 | .max l=>l
 | .ext _ x=> [x]
 | .mkf _ a b=>a++b
 | .nilck x=> [x]
 | .snil _ x=> [x]
 | .call _ args=>args
 | .callv x args=>x :: args
 | .aidx _ _ _ x i=> [x,i]
 | .bad=> []
def ROp.moves:ROp→Bool
 | .store _ _ _ | .alloc _ | .box _ _ | .bslice _ _ _ _ | .mslice _ _ _ _ _ | .mmap | .mupd _ _ _ _ | .app _ _ _ _ _=>true
 | _=>false
def ROp.quiet:ROp→Bool
 | .mv _ | .pick _ _ _ | .ibin _ _ _ _ | .shift _ _ _ _ | .sbin _ _ _ | .bbin _ _ _ | .eqv _ _ _ _ | .not _ | .neg _ _ | .conv _ _ | .scv _ | .fld _ _ _ _ | .aidx _ _ _ _ _ | .sidx _ _ | .ssl _ _ _ | .build _ _
 | .slen _ | .min _ | .max _ | .ext _ _ | .mkf _ _ _=>true
 | _=>false
def LOp.looks (o:LOp):List Nat:=(o.op.xs.filterMap fun | .t n=>some n | _=>none)++(match o.g with | some (d,_)=> [d] | none=> [])
def LOp.apart (a b:LOp):Bool :=
 (match a.dst with | some d=> !(b.looks.contains d) && b.dst != some d | none=>true) && (match b.dst with | some d=> !(a.looks.contains d) | none=>true) &&
 (!a.op.moves || b.op.quiet) && (!b.op.moves || a.op.quiet)
def masks:List Oper→Array Nat→Array Nat
 | [],acc=>acc
 | o :: r,acc=>masks r (acc.push (o.after.foldl (fun m e=>if Region.binds .any e then m ||| 2 ^ e.on ||| acc.getD e.on 0 else m) 0))
def okDraw (P:Program) (ops:Array Oper) (ls:List LOp):Bool :=
 let M:=masks ops.toList #[]
 P.follows .mixedOrders && (List.range ops.size).all fun i =>
  (match ops[i]? with | some o=>o.after.all fun e=> !Region.binds .any e || decide (e.on<i) | none=>true) &&
  (List.range i).all fun j=>(M.getD i 0).testBit j || (match ls[j]?,ls[i]? with | some a,some b=>a.apart b | _,_=>true)
def ROp.reads:ROp→Bool
 | .load _ _ _ | .faddr _ _ | .iaddr _ _ _ | .lsl _ _ _ _ | .look _ _ _ _ _=>true
 | _=>false
def ROp.isCall:ROp→Bool
 | .call _ _=>true
 | _=>false
def ROp.fixed (o:ROp):Bool:=o.reads || o.moves || o.isCall
def LOp.envApart (a b:LOp):Bool :=
 (match a.dst with | some d=> !(b.looks.contains d) && b.dst != some d | none=>true) && (match b.dst with | some d=> !(a.looks.contains d) | none=>true)
def ROp.fresh:ROp→Bool
 | .alloc _ | .box _ _ | .bslice _ _ _ _ | .mslice _ _ _ _ _ | .mmap=>true
 | _=>false
def LOp.soft (a b:LOp):Bool:=a.envApart b && a.g.isNone && b.g.isNone && (a.op.reads && b.op.moves || b.op.reads && a.op.moves || a.op.fresh && b.op.fresh || a.op.isCall && b.op.moves || b.op.isCall && a.op.moves)
def stable:List LOp→Bool
 | []=>true
 | o :: r=>(!o.op.fixed || o.looks.all fun t=>(o :: r).all fun p=>p.dst != some t) && (!o.op.isCall || r.all fun p=>p.dst.isNone || p.dst != o.dst) && stable r
def softPairs (ops:Array Oper) (ls:List LOp):List (Nat × Nat) :=
 let M:=masks ops.toList #[]
 (List.range ops.size).flatMap fun i=>(List.range i).filterMap fun j=>if (M.getD i 0).testBit j || (match ls[j]?,ls[i]? with | some a,some b=>a.apart b | _,_=>true) then none else some (j,i)
def okSoft (P:Program) (ops:Array Oper) (ls:List LOp):Bool :=
 P.follows .mixedOrders && stable ls && ((List.range ops.size).all fun i=>match ops[i]? with | some o=>o.after.all fun e=> !Region.binds .any e || decide (e.on<i) | none=>true) &&
 (softPairs ops ls).all fun (j,i)=>match ls[j]?,ls[i]? with | some a,some b=>a.soft b | _,_=>true
def regionR (P:Program) (ops:Array Oper) (draw:Bool) (ls:List LOp):Option RCode :=
 if draw && !okDraw P ops ls then (if okSoft P ops ls then some (.soft (softPairs ops ls) ls) else some .bad) else some (.region draw ls)
def lower (P:Program) (nt:Nat):Code→Option RCode
 | .skip=>some .skip
 | .region _ ops draw=>(ops.toList.mapM (lowOper P nt ops)).bind fun ls=>regionR P ops draw ls
 | .seq a b=>do pure (.seq (←lower P nt a) (←lower P nt b))
 | .cond c a b=>do pure (.cond (←lowX c) (←lower P nt a) (←lower P nt b))
 | .block id a=>do pure (.block id (←lower P nt a))
 | .loop a=>do pure (.loop (←lower P nt a))
 | .exit id=>some (.exit id)
 | .ret=>some .ret
 | _=>some .bad
def St.ev (s:St):RX→AV
 | .t n=>s.env.get n
 | .k x=> .p x
 | .f fn=> .fn (.func fn) [] []
def allP:List AV→Option (List PV)
 | []=>some []
 | .p x :: r=>(allP r).map (x :: ·)
 | _ :: _=>none
def AV.ofCells (cs:List AV):AV:=match allP cs with | some ps=> .p (.agg ps) | none=> .agg cs
def cut (n:Nat) (agg:Bool) (l:List AV):Option AV :=
 if agg then (if n≤l.length then some (AV.ofCells (l.take n)) else none) else l[0]?
def cutP (n:Nat) (agg:Bool) (l:List PV):Option AV :=
 if agg then (if n≤l.length then some (.p (.agg (l.take n))) else none) else (l[0]?).map .p
def PV.single:PV→Bool
 | .c v=>flat v
 | .sl _ | .ptr _ | .mp _=>true
 | .agg _=>false
def AV.cells:AV→Option (List AV)
 | .p (.agg cs)=>if cs.all PV.single then some (cs.map .p) else none
 | .p x=>if x.single then some [.p x] else none
 | .agg cs=>if cs.all (fun | .agg _ | .tup _ | .junk=>false | .p x=>x.single | _=>true) then some cs else none
 | .tup _=>none
 | .junk=>none
 | x=>some [x]
def ibinV (op:BinOp) (k:IntKind) (a b:Int):Option Value :=
 match op with
 | .add=>some (.int k (k.wrap (a+b)))
 | .sub=>some (.int k (k.wrap (a - b)))
 | .mul=>some (.int k (k.wrap (a*b)))
 | .quo=>if b=0 then none else some (.int k (k.wrap (a.tdiv b)))
 | .rem=>if b=0 then none else some (.int k (a.tmod b))
 | .and=>some (.int k (k.wrap (BitVec.ofInt k.bits a &&& BitVec.ofInt k.bits b).toNat))
 | .or=>some (.int k (k.wrap (BitVec.ofInt k.bits a ||| BitVec.ofInt k.bits b).toNat))
 | .xor=>some (.int k (k.wrap (BitVec.ofInt k.bits a ^^^ BitVec.ofInt k.bits b).toNat))
 | .eql=>some (.bool (a == b))
 | .neq=>some (.bool (a != b))
 | .lss=>some (.bool (a<b))
 | .leq=>some (.bool (a≤b))
 | .gtr=>some (.bool (a>b))
 | .geq=>some (.bool (a≥b))
 | _=>none
def sbinV (op:BinOp) (x y:ByteArray):Option Value :=
 match op with
 | .add=>if x.size+y.size≤lim then some (.string (x++y)) else none
 | .eql=>some (.bool (x.toList == y.toList))
 | .neq=>some (.bool !(x.toList == y.toList))
 | .lss=>some (.bool (Op.bytesLess x.toList y.toList))
 | .leq=>some (.bool (Op.bytesLess x.toList y.toList || x.toList == y.toList))
 | .gtr=>some (.bool !(Op.bytesLess x.toList y.toList || x.toList == y.toList))
 | .geq=>some (.bool !(Op.bytesLess x.toList y.toList))
 | _=>none
def flatEq:FK→Value→Value→Option Bool
 | .int,.int k a,.int k' b=>if k=k' then some (a == b) else none
 | .str,.string a,.string b=>some (a == b)
 | .bool,.bool a,.bool b=>some (a == b)
 | _,_,_=>none
def cellsEq:List FK→List PV→List PV→Option Bool
 | [],[],[]=>some true
 | q :: qs,.c a :: r,.c b :: s=>match flatEq q a b,cellsEq qs r s with
  | some x,some y=>some (x && y)
  | _,_=>none
 | _,_,_=>none
def keyEq:KQ→PV→PV→Option Bool
 | .one q,.c a,.c b=>flatEq q a b
 | .many qs,.agg as,.agg bs=>cellsEq qs as bs
 | _,_,_=>none
def keyOk:KQ→PV→Bool
 | .one _,.c _=>true
 | .many qs,.agg as=>as.length == qs.length
 | _,_=>false
def mfind (q:KQ) (key:PV):List (PV × PV)→Option (Option PV)
 | []=>some none
 | e :: r=>match keyEq q key e.1 with
  | some true=>some (some e.2)
  | some false=>mfind q key r
  | none=>none
def mput (q:KQ) (key v:PV):List (PV × PV)→Option (List (PV × PV))
 | []=>some [(key,v)]
 | e :: r=>match keyEq q key e.1 with
  | some true=>some ((key,v) :: r)
  | some false=>(mput q key v r).map (e :: ·)
  | none=>none
def fillA (ev:RX→AV):List (Nat × Nat × RX)→List AV→Option (List AV)
 | [],cs=>some cs
 | (off,n,x) :: r,cs=>match (ev x).cells with
  | some l=>if l.length=n∧off+n≤cs.length then fillA ev r (cs.take off++l++cs.drop (off+n)) else none
  | none=>none
def fillRows (ev:RX→AV) (w:Nat):List (Nat × RX)→List (List PV)→Option (List (List PV))
 | [],rows=>some rows
 | (i,x) :: r,rows=>match ((ev x).cells).bind allP with
  | some l=>if l.length=w∧i<rows.length then fillRows ev w r (rows.set i l) else none
  | none=>none
def aint64:AV→Option Int
 | .p (.c (.int .i64 n))=>some n
 | _=>none
def aint:AV→Option Int
 | .p (.c (.int _ n))=>some n
 | _=>none
def bnd (ev:RX→AV) (d:Int) (o:Option RX):Option Int:=match o with | none=>some d | some y=>aint (ev y)
def rowsOf (H:Heap):AV→Option (List (List PV))
 | .p (.sl rows)=>some rows
 | .p (.c (.slice none 0 0))=>some []
 | .os n off len=>match H.get n with
  | some (.slice rows)=>if off+len=rows.length then some (rows.drop off) else none
  | _=>none
 | _=>none
def live (H:Heap):AV→Bool
 | .bp m _=>match H.get m with | some (.cells _)=>true | _=>false
 | .ep m _ _ len=>match H.get m with | some (.slice rows)=>len == rows.length | _=>false
 | .p (.ptr _)=>true
 | _=>false
def AV.shift (d:Nat):AV→AV
 | .bp m o=> .bp m (o+d)
 | .ep m i j len=> .ep m i (j+d) len
 | .p (.ptr cells)=> .p (.ptr (cells.drop d))
 | x=>x
def aop (op:ROp) (ev:RX→AV) (H:Heap) (k:Nat):Option (AV × Heap × Nat) :=
  match op with
  | .mv x=>some (ev x,H,k)
  | .pick c a b=>match ev c with
    | .p (.c (.bool t))=>some (if t then ev a else ev b,H,k)
    | _=>none
  | .ibin op q x y=>match ev x,ev y with
    | .p (.c (.int q1 a)),.p (.c (.int q2 b))=>if q1=q∧q2=q then (ibinV op q a b).map fun v=>(.p (.c v),H,k) else none
    | _,_=>none
  | .shift op q x y=>match ev x,ev y with
    | .p (.c (.int q1 a)),.p (.c (.int _ b))=>if q1=q∧0≤b then
        (match op with
         | .shl=>some (.p (.c (.int q (q.wrap (a*2 ^ (Nat.min b.toNat q.bits))))),H,k)
         | .shr=>some (.p (.c (.int q (a.fdiv (2 ^ (Nat.min b.toNat q.bits))))),H,k)
         | _=>none) else none
    | _,_=>none
  | .sbin op x y=>match ev x,ev y with
    | .p (.c (.string a)),.p (.c (.string b))=>(sbinV op a b).map fun v=>(.p (.c v),H,k)
    | _,_=>none
  | .bbin neg x y=>match ev x,ev y with
    | .p (.c (.bool a)),.p (.c (.bool b))=>some (.p (.c (.bool (if neg then !(a == b) else a == b))),H,k)
    | _,_=>none
  | .eqv neg ks x y=>match ev x,ev y with
    | .p (.agg a),.p (.agg b)=>(cellsEq ks a b).map fun v=>(.p (.c (.bool (if neg then !v else v))),H,k)
    | _,_=>none
  | .not x=>match ev x with
    | .p (.c (.bool a))=>some (.p (.c (.bool !a)),H,k)
    | _=>none
  | .neg q x=>match ev x with
    | .p (.c (.int q1 a))=>if q1=q then some (.p (.c (.int q (q.wrap (0 - a)))),H,k) else none
    | _=>none
  | .conv q x=>match ev x with
    | .p (.c (.int _ a))=>some (.p (.c (.int q (q.wrap a))),H,k)
    | _=>none
  | .scv x=>match ev x with
    | .p (.c (.string s))=>some (.p (.c (.string s)),H,k)
    | _=>none
  | .load n agg a=>match ev a with
    | .bp m off=>match H.get m with
      | some (.cells cs)=>(cut n agg (cs.drop off)).map fun v=>(v,H,k)
      | _=>none
    | .ep m i j len=>match H.get m with
      | some (.slice rows)=>if len=rows.length then (match rows[i]? with | some r=>(cutP n agg (r.drop j)).map fun v=>(v,H,k) | none=>none) else none
      | _=>none
    | .p (.ptr cells)=>(cutP n agg cells).map fun v=>(v,H,k)
    | _=>none
  | .store n a v=>match (ev v).cells with
    | some l=>if l.length=n then
        match ev a with
        | .bp m off=>match H.get m with
          | some (.cells cs)=>if off+n≤cs.length then some (.junk,H.set m (.cells (cs.take off++l++cs.drop (off+n))),k) else none
          | _=>none
        | .ep m i j len=>match H.get m,allP l with
          | some (.slice rows),some ps=>if len=rows.length then
              (match rows[i]? with
               | some r=>if j+n≤r.length then some (.junk,H.set m (.slice (rows.set i (r.take j++ps++r.drop (j+n)))),k) else none
               | none=>none) else none
          | _,_=>none
        | _=>none
      else none
    | none=>none
  | .faddr off x=>if live H (ev x) then some (AV.shift off (ev x),H,k) else none
  | .fld off n agg x=>match ev x with
    | .p (.agg cs)=>(cutP n agg (cs.drop off)).map fun v=>(v,H,k)
    | .agg cs=>(cut n agg (cs.drop off)).map fun v=>(v,H,k)
    | _=>none
  | .iaddr w x i=>match aint (ev i) with
    | some z=>if 0≤z then
        match ev x with
        | .p (.sl rows)=>match rows[z.toNat]? with
          | some r=>if r.length=w then some (.p (.ptr r),H,k) else none
          | none=>none
        | .os n off len=>match H.get n with
          | some (.slice rows)=>if off+len=rows.length∧z.toNat<len then
              match rows[off+z.toNat]? with
              | some r=>if r.length=w then some (.ep n (off+z.toNat) 0 rows.length,H,k) else none
              | none=>none
            else none
          | _=>none
        | _=>none
      else none
    | none=>none
  | .aaddr len w x i=>match aint (ev i) with
    | some z=>if 0≤z∧z.toNat<len∧live H (ev x)=true then some (AV.shift (z.toNat*w) (ev x),H,k) else none
    | none=>none
  | .aidx len w agg x i=>match ev x,aint (ev i) with
    | .p (.agg cs),some z=>if 0≤z∧z.toNat<len then (cutP w agg (cs.drop (z.toNat*w))).map fun v=>(v,H,k) else none
    | _,_=>none
  | .bad=>none
  | .sidx x i=>match ev x,aint (ev i) with
    | .p (.c (.string s)),some z=>if 0≤z then (s[z.toNat]?).map fun b=>(.p (.c (.int .u8 b.toNat)),H,k) else none
    | _,_=>none
  | .ssl x lo hi=>match ev x with
    | .p (.c (.string s)) =>
      match bnd ev 0 lo,bnd ev s.size hi with
      | some l,some h=>if 0≤l∧l≤h∧h≤s.size then some (.p (.c (.string (s.extract l.toNat h.toNat))),H,k) else none
      | _,_=>none
    | _=>none
  | .lsl w x lo hi=>match ev x with
    | .p (.sl rows) =>
      match bnd ev 0 lo,bnd ev rows.length hi with
      | some l,some h=>if 0≤l∧l≤h∧h≤rows.length∧(∀r∈rows,r.length=w) then some (.p (.sl ((rows.take h.toNat).drop l.toNat)),H,k) else none
      | _,_=>none
    | .os n off len=>match H.get n,hi with
      | some (.slice rows),none =>
        match bnd ev 0 lo with
        | some l=>if 0≤l∧l≤len∧off+len=rows.length∧(∀r∈rows,r.length=w) then some (.os n (off+l.toNat) (len - l.toNat),H,k) else none
        | none=>none
      | _,_=>none
    | _=>none
  | .alloc zero=>some (.bp k 0,(k,.cells (zero.map .p)) :: H,k+1)
  | .box n v=>match (ev v).cells with
    | some l=>if l.length=n then some (.bp k 0,(k,.cells l) :: H,k+1) else none
    | none=>none
  | .build zero parts=>(fillA ev parts (zero.map .p)).map fun cs=>(AV.ofCells cs,H,k)
  | .bslice w zero len parts=>if zero.length=w then (fillRows ev w parts (List.replicate len zero)).map fun rows=>(.os k 0 len,(k,.slice rows) :: H,k+1) else none
  | .mslice w bytes zero len cap=>match aint (ev len),aint (ev cap) with
    | some l,some c=>if l=c∧0≤l∧l*bytes≤lim∧l≤lim∧zero.length=w then some (.os k 0 l.toNat,(k,.slice (List.replicate l.toNat zero)) :: H,k+1) else none
    | _,_=>none
  | .mmap=>some (.mp k,(k,.map []) :: H,k+1)
  | .look q zero ok m key=>match ev key with
    | .p kx=>if keyOk q kx=true then match (match ev m with
        | .mp n=>(match H.get n with | some (.map es)=>some es | _=>none)
        | .p (.c (.map none))=>some []
        | .p (.mp es)=>some es
        | _=>none) with
      | some es=>match mfind q kx es with
        | some r=>some (if ok then .tup [.p (r.getD zero),.p (.c (.bool r.isSome))] else .p (r.getD zero),H,k)
        | none=>none
      | none=>none
      else none
    | _=>none
  | .mupd q m key v=>match ev m,ev key,ev v with
    | .mp n,.p kx,.p x=>if keyOk q kx=true then match H.get n with
      | some (.map es)=>(mput q kx x es).map fun es'=>(.junk,H.set n (.map es'),k)
      | _=>none
      else none
    | _,_,_=>none
  | .mlen m=>match ev m with
    | .mp n=>match H.get n with
      | some (.map es)=>some (.p (.c (.int .i64 es.length)),H,k)
      | _=>none
    | .p (.c (.map none))=>some (.p (.c (.int .i64 0)),H,k)
    | .p (.mp es)=>some (.p (.c (.int .i64 es.length)),H,k)
    | _=>none
  | .app w bytes zero s x=>match rowsOf H (ev x) with
    | some new=>if zero.length=w∧∀r∈new,r.length=w∧r.all PV.single=true then
        match ev s with
        | .p (.c (.slice none 0 0))=>if new.length*bytes≤lim∧new.length≤lim then some (.os k 0 new.length,(k,.slice new) :: H,k+1) else none
        | .os n off len=>match H.get n with
          | some (.slice rows)=>if off+len=rows.length∧(∀r∈rows,r.length=w)∧(rows.length+new.length)*bytes≤lim∧rows.length+new.length≤lim
              then some (.os n off (len+new.length),H.set n (.slice (rows++new)),k) else none
          | _=>none
        | _=>none
      else none
    | none=>none
  | .slen x=>match ev x with
    | .p (.c (.string s))=>some (.p (.c (.int .i64 s.size)),H,k)
    | _=>none
  | .len x=>match ev x with
    | .p (.sl rows)=>some (.p (.c (.int .i64 rows.length)),H,k)
    | .p (.c (.slice none 0 0))=>some (.p (.c (.int .i64 0)),H,k)
    | .os n off len=>match H.get n with
      | some (.slice rows)=>if off+len=rows.length then some (.p (.c (.int .i64 len)),H,k) else none
      | _=>none
    | _=>none
  | .min l=>match l.mapM (fun x=>aint64 (ev x)) with
    | some (z :: r)=>some (.p (.c (.int .i64 (r.foldl (fun a b=>if b<a then b else a) z))),H,k)
    | _=>none
  | .max l=>match l.mapM (fun x=>aint64 (ev x)) with
    | some (z :: r)=>some (.p (.c (.int .i64 (r.foldl (fun a b=>if a<b then b else a) z))),H,k)
    | _=>none
  | .ext i x=>match ev x with
    | .tup cs=>(cs[i]?).map fun v=>(v,H,k)
    | _=>none
  | .mkf f a b=>some (.fn f (a.map ev) (b.map ev),H,k)
  | .nilck x=>if live H (ev x) then some (ev x,H,k) else none
  | .call _ _ | .callv _ _ | .snil _ _=>none
end Go.Abs
namespace Go.Abs
open Go
theorem Evo.refl {g:G} {w:World} {H:Heap} {k:Nat}:Evo g w H k g w H k :=
 ⟨Nat.le_refl _,rfl,rfl,rfl,Nat.le_refl _,fun _ _ h=>h,fun _ _ h=> .inl h,fun _ _ _=>rfl,fun _ _ _=>rfl,fun _ _ h=>h,fun n o o' _ h h'=>by rw[h] at h';cases h';exact Compat.refl _ _,fun n b h h'=> .inl ⟨n,h,h'⟩⟩
theorem Evo.keeps {g g':G} {w w':World} {H H':Heap} {k k':Nat} (e:Evo g w H k g' w' H' k'):Keeps g H k g' H' k' :=
  ⟨e.kle,e.fz,fun n o' hn ho=>by
    cases h:H.get n with
    | none=>rw[e.dom n hn h] at ho;cases ho
    | some o=>exact⟨o,rfl,e.compat n o o' hn h ho⟩⟩
theorem Evo.trans {g g' g'':G} {w w' w'':World} {H H' H'':Heap} {k k' k'':Nat} (e:Evo g w H k g' w' H' k') (e':Evo g' w' H' k' g'' w'' H'' k'') :
  Evo g w H k g'' w'' H'' k'' where
 kle:=Nat.le_trans e.kle e'.kle
 os:=e'.os.trans e.os
 tape:=e'.tape.trans e.tape
 output:=e'.output.trans e.output
 size:=Nat.le_trans e.size e'.size
 fz:=fun b o h=>e'.fz _ _ (e.fz _ _ h)
 fzNew:=fun b o h=>by
  rcases e'.fzNew b o h with h | ⟨n,h1,h2⟩ | h
  ·exact e.fzNew b o h
  ·rcases e.blks n b h1 h2 with h | h
   ·exact .inr (.inl h)
   ·exact .inr (.inr h)
  ·exact .inr (.inr (Nat.le_trans e.size h))
 frame:=fun b hb hn=>by
  rw[e'.frame b (Nat.lt_of_lt_of_le hb e.size),e.frame b hb hn]
  intro n h1 h2
  rcases e.blks n b h1 h2 with ⟨m,h3,h4⟩ | h
  ·exact hn m h3 h4
  ·omega
 names:=fun n hn h=>by rw[e'.names n (Nat.lt_of_lt_of_le hn e.kle) (e.dom n hn h),e.names n hn h]
 dom:=fun n hn h=>e'.dom n (Nat.lt_of_lt_of_le hn e.kle) (e.dom n hn h)
 compat:=fun n o o'' hn h h''=>by
  cases h':H'.get n with
  | none=>rw[e'.dom n (Nat.lt_of_lt_of_le hn e.kle) h'] at h'';cases h''
  | some o'=>exact (e.compat n o o' hn h h').trans (e'.compat n o' o'' (Nat.lt_of_lt_of_le hn e.kle) h' h'')
 blks:=fun n b h1 h2=>by
  rcases e'.blks n b h1 h2 with ⟨m,h3,h4⟩ | h
  ·exact e.blks m b h3 h4
  ·exact .inr (Nat.le_trans e.size h)
theorem SimH.gen {g g':G} {w w':World} {H H':Heap} {k k':Nat} (hs:SimH g w H k) (n:Nat) (o':AObj) (hk:k≤k') (hfz:g'.fz=g.fz) (hρ:∀m,m≠n→g'.ρ m=g.ρ m)
    (hH:∀m,m≠n→H'.get m=H.get m) (hHn:H'.get n=some o') (hn:n<k') (hc:∀o,H.get n=some o→Compat (g.ρ n) (g'.ρ n) o o') (hnew:H.get n=none→k≤n)
    (hos:w'.os=w.os) (htape:w'.tape=w.tape) (hout:w'.output=w.output) (hsize:w.heap.size≤w'.heap.size)
    (hw:∀b,b<w.heap.size→(H.get n≠none→¬(g.ρ n).has b)→w'.heap[b]? =w.heap[b]?)
    (hblk:∀b,(g'.ρ n).has b→((H.get n≠none∧(g.ρ n).has b)∨w.heap.size≤b)∧b<w'.heap.size)
    (hobj:Keeps g H k g' H' k'→ORep g' H' k' n w' o'):SimH g' w' H' k'∧Evo g w H k g' w' H' k':=by
  have hfzlt:∀b o,g.fz b=some o→b<w.heap.size:=fun b o h=>by
    have:=hs.fz b o h
    rcases Nat.lt_or_ge b w.heap.size with h' | h'
    · exact h'
    · rw[Array.getElem?_eq_none h'] at this;cases this
  have he:Evo g w H k g' w' H' k' :=
    { kle:=hk,os:=hos,tape:=htape,output:=hout,size:=hsize
      fz:=fun b o h=>by rw[hfz];exact h
      fzNew:=fun b o h=> .inl (by rw[hfz] at h;exact h)
      frame:=fun b hb h=>hw b hb (fun hh=>h n hh)
      names:=fun m hm h=>by
        apply hρ
        rintro rfl
        exact absurd (hnew h) (by omega)
      dom:=fun m hm h=>by
        rw[hH m]
        · exact h
        · rintro rfl
          exact absurd (hnew h) (by omega)
      compat:=fun m o o2 hm h h'=>by
        by_cases e:m=n
        · subst e
          rw[hHn] at h';cases h'
          exact hc o h
        · rw[hH m e,h] at h';cases h'
          rw[hρ m e]
          exact Compat.refl _ _
      blks:=fun m b h h'=>by
        by_cases e:m=n
        · subst e
          rcases (hblk b h').1 with h3 | h3
          · exact .inl ⟨m,h3.1,h3.2⟩
          · exact .inr h3
        · rw[hH m e] at h;rw[hρ m e] at h'
          exact .inl ⟨m,h,h'⟩}
  refine⟨⟨?_,?_,?_⟩,he⟩
  · intro m o hm
    by_cases e:m=n
    · subst e
      rw[hHn] at hm;cases hm
      refine⟨hn,hobj he.keeps,fun b hb=>⟨?_,(hblk b hb).2⟩⟩
      rw[hfz]
      rcases (hblk b hb).1 with ⟨h3,h4⟩ | h3
      · cases h5:H.get m with
        | none=>exact absurd h5 h3
        | some o=>exact ((hs.obj m o h5).2.2 b h4).1
      · cases h5:g.fz b with
        | none=>rfl
        | some o=>exact absurd (hfzlt b o h5) (by omega)
    · rw[hH m e] at hm
      obtain⟨h1,h2,h3⟩:=hs.obj m o hm
      refine⟨by omega,ORep.keeps he.keeps (hρ m e) (fun b hb=>?_) h2,fun b hb=>?_⟩
      · apply hw b (h3 b hb).2
        intro hh hb'
        exact e (hs.inj m n b (by rw[hm];simp) hh hb hb')
      · rw[hρ m e] at hb
        rw[hfz]
        exact⟨(h3 b hb).1,Nat.lt_of_lt_of_le (h3 b hb).2 hsize⟩
  · intro m m' b h1 h2 h3 h4
    have key:∀m,m≠n→H'.get m≠none→(g'.ρ m).has b→(g'.ρ n).has b→False:=by
      intro m e hm hb hb'
      rw[hH m e] at hm
      rw[hρ m e] at hb
      rcases (hblk b hb').1 with ⟨h5,h6⟩ | h5
      · exact e (hs.inj m n b hm h5 hb h6)
      · cases h6:H.get m with
        | none=>exact hm h6
        | some o=>have:=((hs.obj m o h6).2.2 b hb).2;omega
    by_cases e:m=n
    · subst e
      by_cases e':m'=m
      · exact e'.symm
      · exact (key m' e' h2 h4 h3).elim
    · by_cases e':m'=n
      · subst e'
        exact (key m e h1 h3 h4).elim
      · rw[hH m e] at h1;rw[hH m' e'] at h2;rw[hρ m e] at h3;rw[hρ m' e'] at h4
        exact hs.inj m m' b h1 h2 h3 h4
  · intro b o hb
    rw[hfz] at hb
    rw[←hs.fz b o hb]
    apply hw b (hfzlt b o hb)
    intro hh hb'
    cases h5:H.get n with
    | none=>exact hh h5
    | some o=>rw[((hs.obj n o h5).2.2 b hb').1] at hb;cases hb
theorem SimH.new {g:G} {w:World} {H:Heap} {k:Nat} (hs:SimH g w H k) (ob:Obj) (o':AObj) (l:Loc) (hl:l.blk=some w.heap.size∨l.blk=none) (hsub:l.sub= [])
    (hobj:∀g',g'= {g with ρ:=fun m=>if m=k then l else g.ρ m}→Keeps g H k g' ((k,o') :: H) (k+1)→ORep g' ((k,o') :: H) (k+1) k {w with heap:=w.heap.push ob} o') :
    ∃g',g'.ρ k=l∧SimH g' {w with heap:=w.heap.push ob} ((k,o') :: H) (k+1)∧Evo g w H k g' {w with heap:=w.heap.push ob} ((k,o') :: H) (k+1):=by
  have hk:H.get k=none:=by
    cases h:H.get k with
    | none=>rfl
    | some o=>have:=(hs.obj k o h).1;omega
  refine⟨{g with ρ:=fun m=>if m=k then l else g.ρ m},by simp,?_⟩
  refine SimH.gen hs k o' (by omega) rfl (fun m e=>by simp[e]) (fun m e=>by simp[Heap.get,Ne.symm e]) (by simp[Heap.get]) (by omega) (fun o h=>by rw[hk] at h;cases h) (fun _=>Nat.le_refl _) rfl rfl rfl (by simp)
    (fun b hb _=>by simp[Array.getElem?_push,Nat.ne_of_lt hb]) (fun b hb=>by
      simp only[if_true] at hb
      rcases hb with hb | hb
      rotate_left
      · rw[hsub] at hb;cases hb
      rcases hl with hl | hl
      · rw[hl] at hb;cases hb;exact⟨.inr (Nat.le_refl _),by simp⟩
      · rw[hl] at hb;cases hb) (hobj _ rfl)
theorem SimH.put {g:G} {w w':World} {H:Heap} {k:Nat} (hs:SimH g w H k) {n b:Nat} {o o':AObj} (hn:H.get n=some o) (hb:(g.ρ n).blk=some b) (hc:Compat (g.ρ n) (g.ρ n) o o')
  (hos:w'.os=w.os) (htape:w'.tape=w.tape) (hout:w'.output=w.output) (hsize:w'.heap.size=w.heap.size) (hw:∀b',b'≠b→w'.heap[b']? =w.heap[b']?)
  (hobj:Keeps g H k g (H.set n o') k→ORep g (H.set n o') k n w' o'):SimH g w' (H.set n o') k∧Evo g w H k g w' (H.set n o') k:=by
 have hlt:=(hs.obj n o hn).2.2 b (.inl hb)
 refine SimH.gen hs n o' (Nat.le_refl _) rfl (fun _ _=>rfl) (fun m e=>by simp[Heap.get_set,Ne.symm e]) (by simp[Heap.get_set,hn]) (hs.obj n o hn).1 (fun o2 h=>by rw[hn] at h;cases h;exact hc) (fun h=>by rw[hn] at h;cases h)
  hos htape hout (by omega) (fun b' _ h=>hw b' (fun e=>by subst e;exact h (by rw[hn];simp) (.inl hb))) (fun b' h=>⟨.inl ⟨by rw[hn];simp,h⟩,by rw[hsize];exact ((hs.obj n o hn).2.2 b' h).2⟩) hobj
def OpOK (g:G) (w:World) (H:Heap) (k:Nat) (r:Result Next) (v:AV) (H':Heap) (k':Nat):Prop :=
 ∃g' w' x,(r= .ok (.value x) w'∨(r= .ok .skip w'∧x=undef))∧ARep g' H' k' v x∧SimH g' w' H' k'∧Evo g w H k g' w' H' k'
theorem OpOK.same {g:G} {w:World} {H:Heap} {k:Nat} {r:Result Next} {v:AV} {x:Value} (hs:SimH g w H k) (hr:r= .ok (.value x) w) (hv:ARep g H k v x):OpOK g w H k r v H k :=
 ⟨g,w,x,.inl hr,hv,hs,Evo.refl⟩
end Go.Abs
namespace Go.Abs
open Go
variable {P:Program}
theorem Zdv (b off n:Nat):(⟨b,off,none⟩:Addr).add n=⟨b,off+n,none⟩:=by
 unfold Addr.add;split<;>simp_all
theorem ofFlat_rep {fz:Nat→Option Obj} {v:Value} {x:PV} (h:PV.ofFlat v=some x):PRep fz x v:=by
 unfold PV.ofFlat at h
 split at h
 ·cases h;simp[PRep]
 ·cases h
theorem ZfM {fz:Nat→Option Obj}:∀ {vs:List Value} {xs:List PV},vs.mapM PV.ofFlat=some xs→PRepL fz xs vs
 | [],xs,h=>by simp at h;subst h;simp[PRepL]
 | v :: vs,xs,h=>by
  simp only[List.mapM_cons,Option.bind_eq_bind,Option.bind_eq_some_iff,Option.pure_def,Option.some.injEq] at h
  obtain⟨x,h1,ys,h2,rfl⟩:=h
  simp only[PRepL]
  exact⟨v,vs,rfl,ofFlat_rep h1,ZfM h2⟩
theorem ofValue_rep {fz:Nat→Option Obj} {v:Value} {x:PV} (h:PV.ofValue v=some x):PRep fz x v:=by
 unfold PV.ofValue at h
 split at h
 ·rename_i cs
  simp only[Option.map_eq_some_iff] at h
  obtain⟨xs,h1,rfl⟩:=h
  simp only[PRep]
  exact⟨cs,rfl,ZfM h1⟩
 ·exact ofFlat_rep h
theorem ZaR {g:G} {H:Heap} {k:Nat} {env:Env} {a:Act} (he:∀t,ARep g H k (env.get t) (a.tmps.getD t undef)) {x:Operand} {y:RX} (h:lowX x=some y) :
  ARep g H k (St.ev ⟨env,H,k⟩ y) (a.eval x):=by
 cases x with
 | tmp t=>simp[lowX] at h;subst h;simpa [St.ev,Act.eval] using he t
 | const v =>
  simp only[lowX,Option.map_eq_some_iff] at h
  obtain⟨x,h1,rfl⟩:=h
  simp only[St.ev,Act.eval,ARep]
  exact ofValue_rep h1
 | global n=>simp[lowX] at h
 | func f=>simp[lowX] at h;subst h;simp[St.ev,Act.eval,ARep,ARepL]
theorem allP_map (l:List PV):allP (l.map .p)=some l:=by
 induction l with
 | nil=>rfl
 | cons a l ih=>simp[allP,ih]
theorem Zff:∀ {l:List AV} {ps:List PV},allP l=some ps→l=ps.map .p
 | [],ps,h=>by simp[allP] at h;subst h;rfl
 | x :: l,ps,h=>by
  cases x<;>simp only[allP,Option.map_eq_some_iff] at h<;>try (cases h;done)
  obtain⟨qs,h1,rfl⟩:=h
  simp[Zff h1]
theorem Ze2 {g:G} {H:Heap} {k:Nat} {cs:List AV} {vs:Array Value} (h:ARepL g H k cs vs.toList):ARep g H k (AV.ofCells cs) (.agg vs):=by
 unfold AV.ofCells
 split
 ·rename_i ps hp
  have:=Zff hp
  subst this
  simp only[ARep,PRep]
  exact⟨vs,rfl,ARepL.ofP.1 h⟩
 ·simp only[ARep]
  exact⟨vs,rfl,h⟩
theorem cutP_eq (n:Nat) (agg:Bool) (l:List PV):cutP n agg l=cut n agg (l.map .p):=by
 unfold cutP cut
 cases agg
 ·simp
 ·simp only[if_true,List.length_map]
  split
  ·simp only[AV.ofCells,←List.map_take,allP_map]
  ·rfl
theorem CellsAt.cell {w:World} {b:Nat} {vs:Array Value} {t:TypeId} {fr:Nat × Nat} {off:Nat} {vals:List Value} (hb:w.heap[b]? =some (.cells vs t fr)) (hc:CellsAt vs off vals)
  {j:Nat} {x:Value} (hj:vals[j]? =some x):w.cell? ((⟨b,off,none⟩:Addr).add j)=some x:=by
 rw[Zdv]
 simp[World.cell?,hb,hc j x hj]
theorem take_get {α:Type} {l:List α} {n j:Nat} {x:α} (h:(l.take n)[j]? =some x):l[j]? =some x:=by
 rw[List.getElem?_take] at h
 split at h
 ·exact h
 ·cases h
theorem Zc6 {t:TypeId} {n:Nat} (h:sizeT P t=some n) (w:World):(sizeOf t).run P w= .ok n w:=by
 simp only[sizeT,Option.map_eq_some_iff] at h
 obtain⟨i,h1,h2⟩:=h
 simp[sizeOf,typeInfo,h1,h2]
theorem ZdI {t:TypeId} {b:Bool} (h:isAggT P t=some b) (w:World):(isAgg t).run P w= .ok b w:=by
 simp only[isAggT,Option.map_eq_some_iff] at h
 obtain⟨d,h1,h2⟩:=h
 cases d<;>simp_all [isAgg,run_underlying h1]
theorem load_ok {g:G} {H:Heap} {k:Nat} {w:World} {b:Nat} {vs:Array Value} {t':TypeId} {fr:Nat × Nat} {off:Nat} {l:List AV} {vals:List Value} {v:AV} {n:Nat} {agg:Bool} {t:TypeId}
  (hb:w.heap[b]? =some (.cells vs t' fr)) (hc:CellsAt vs off vals) (hr:ARepL g H k l vals) (hn:sizeT P t=some n) (ha:isAggT P t=some agg) (hv:cut n agg l=some v) :
  ∃x,(loadVar t ⟨b,off,none⟩).run P w= .ok x w∧ARep g H k v x:=by
 unfold cut at hv
 cases agg with
 | true =>
  simp only[if_true] at hv
  split at hv
  ·rename_i hle
   cases hv
   have hl:=ARepL.length hr
   have hlen:(vals.take n).length=n:=by simp;omega
   have h1:∀j x,(vals.take n)[j]? =some x→w.cell? ((⟨b,off,none⟩:Addr).add j)=some x:=fun j x hj=>hc.cell hb (take_get hj)
   have hrun:=run_loadCells_list (P:=P) w ⟨b,off,none⟩ (vals.take n) h1
   rw[hlen] at hrun
   refine⟨.agg (vals.take n).toArray,by simp[loadVar,ZdI ha,Zc6 hn,hrun],Ze2 ?_⟩
   simpa using hr.take n
  ·cases hv
 | false =>
  simp only[Bool.false_eq_true,if_false] at hv
  obtain⟨x,h1,h2⟩:=ARepL.get hr hv
  have:=hc.cell hb h1
  rw[Zdv,Nat.add_zero] at this
  exact⟨x,by simp[loadVar,ZdI ha,this],h2⟩
theorem part_ok {g:G} {H:Heap} {k:Nat} {w:World} {cs:Array Value} {off:Nat} {l:List AV} {v:AV} {n:Nat} {agg:Bool} {t:TypeId}
  (hr:ARepL g H k l (cs.toList.drop off)) (hn:sizeT P t=some n) (ha:isAggT P t=some agg) (hv:cut n agg l=some v) :
  ∃x,(part t cs off).run P w= .ok x w∧ARep g H k v x:=by
 unfold cut at hv
 cases agg with
 | true =>
  simp only[if_true] at hv
  split at hv
  ·cases hv
   refine⟨.agg (cs.extract off (off+n)),by simp[part,ZdI ha,Zc6 hn],Ze2 ?_⟩
   have:=hr.take n
   simpa [List.extract_eq_take_drop] using this
  ·cases hv
 | false =>
  simp only[Bool.false_eq_true,if_false] at hv
  obtain⟨x,h1,h2⟩:=ARepL.get hr hv
  simp at h1
  exact⟨x,by simp[part,ZdI ha,h1],h2⟩
theorem flat_cells {v:Value} (h:flat v=true):v.cells= #[v]∧v.oneCell'=true:=by
 cases v<;>first | (exact⟨rfl,rfl⟩) | (simp[flat] at h)
theorem one_cells {v:Value} (h:v.oneCell'=true):v.cells= #[v]:=by
 cases v<;>simp_all [Value.cells,Value.oneCell']
theorem single_rep {fz:Nat→Option Obj} {x:PV} {v:Value} (h:PRep fz x v) (hx:x.single=true):v.oneCell'=true:=by
 cases x with
 | c u=>simp only[PRep] at h;subst h;exact (flat_cells hx).2
 | agg cs=>simp[PV.single] at hx
 | sl rows =>
  simp only[PRep] at h
  rcases h.2 with ⟨_,ba,rfl⟩ | ⟨b,off,cap,w,cs,t,fr,vals,rfl,_⟩<;>rfl
 | ptr cells =>
  simp only[PRep] at h
  obtain⟨b,off,cs,t,fr,vals,rfl,_⟩:=h;rfl
 | mp es =>
  simp only[PRep] at h
  obtain⟨b,ms,c,rfl,_⟩:=h;rfl
theorem ZfL {fz:Nat→Option Obj}:∀ {xs:List PV} {vs:List Value},PRepL fz xs vs→xs.all PV.single=true→∀v∈vs,v.oneCell'=true
 | [],_,h,_,v,hv=>by simp only[PRepL] at h;subst h;cases hv
 | x :: xs,_,h,ha,v,hv=>by
  simp only[PRepL] at h
  obtain⟨a,r,rfl,h1,h2⟩:=h
  simp only[List.all_cons,Bool.and_eq_true] at ha
  cases hv with
  | head=>exact single_rep h1 ha.1
  | tail _ hv=>exact ZfL h2 ha.2 v hv
def AV.one:AV→Bool
 | .agg _ | .tup _ | .junk=>false
 | .p x=>x.single
 | _=>true
theorem one_rep {g:G} {H:Heap} {k:Nat} {x:AV} {v:Value} (h:ARep g H k x v) (hx:x.one=true):v.oneCell'=true:=by
 cases x<;>simp only[ARep] at h<;>simp only[AV.one] at hx<;>try (cases hx;done)
 ·exact single_rep h hx
 ·exact h.2.1
 ·exact h.2.1
 ·exact h.2.1
 ·exact h.2.1
 ·obtain⟨a,b,rfl,_⟩:=h;rfl
 ·obtain⟨y,rfl,_⟩:=h;rfl
theorem ones_rep {g:G} {H:Heap} {k:Nat}:∀ {xs:List AV} {vs:List Value},ARepL g H k xs vs→(∀x∈xs,x.one=true)→∀v∈vs,v.oneCell'=true
 | [],_,h,_,v,hv=>by simp only[ARepL] at h;subst h;cases hv
 | x :: xs,_,h,ha,v,hv=>by
  simp only[ARepL] at h
  obtain⟨a,r,rfl,h1,h2⟩:=h
  cases hv with
  | head=>exact one_rep h1 (ha x (by simp))
  | tail _ hv=>exact ones_rep h2 (fun y hy=>ha y (by simp[hy])) v hv
theorem Zf9 {g:G} {H:Heap} {k:Nat} {x:AV} {v:Value} {l:List AV} (h:ARep g H k x v) (hx:x.cells=some l):ARepL g H k l v.cells.toList∧∀c∈v.cells.toList,c.oneCell'=true:=by
 have key:∀y:AV,ARep g H k y v→y.one=true→l= [y]→ARepL g H k l v.cells.toList∧∀c∈v.cells.toList,c.oneCell'=true:=by
  intro y hy h1 hl
  subst hl
  have h2:=one_rep hy h1
  rw[one_cells h2]
  simp only[ARepL]
  exact⟨⟨v,[],rfl,hy,rfl⟩,by simpa using h2⟩
 cases x with
 | p x =>
  cases x with
  | c u =>
   simp only[AV.cells] at hx
   split at hx
   ·rename_i hu
    cases hx
    exact key _ h (by simpa [AV.one] using hu) rfl
   ·cases hx
  | sl rows =>
   simp only[AV.cells] at hx
   split at hx
   ·cases hx;exact key _ h rfl rfl
   ·cases hx
  | ptr rows =>
   simp only[AV.cells] at hx
   split at hx
   ·cases hx;exact key _ h rfl rfl
   ·cases hx
  | mp rows =>
   simp only[AV.cells] at hx
   split at hx
   ·cases hx;exact key _ h rfl rfl
   ·cases hx
  | agg cs =>
   simp only[AV.cells] at hx
   split at hx
   ·rename_i hu
    cases hx
    simp only[ARep,PRep] at h
    obtain⟨vs,rfl,h1⟩:=h
    exact⟨ARepL.ofP.2 h1,ZfL h1 hu⟩
   ·cases hx
 | agg cs =>
  simp only[AV.cells] at hx
  split at hx
  ·rename_i hu
   cases hx
   simp only[ARep] at h
   obtain⟨vs,rfl,h1⟩:=h
   refine⟨h1,ones_rep h1 fun y hy=>?_⟩
   have:=List.all_eq_true.1 hu y hy
   cases y<;>simp_all [AV.one]
  ·cases hx
 | tup cs=>simp[AV.cells] at hx
 | junk=>simp[AV.cells] at hx
 | bp a b=>simp only[AV.cells] at hx;cases hx;exact key _ h rfl rfl
 | ep a b c d=>simp only[AV.cells] at hx;cases hx;exact key _ h rfl rfl
 | os a b c=>simp only[AV.cells] at hx;cases hx;exact key _ h rfl rfl
 | mp a=>simp only[AV.cells] at hx;cases hx;exact key _ h rfl rfl
 | fn a b c=>simp only[AV.cells] at hx;cases hx;exact key _ h rfl rfl
 | ifc a b=>simp only[AV.cells] at hx;cases hx;exact key _ h rfl rfl
theorem store_ok {w:World} {b:Nat} {vs:Array Value} {t':TypeId} {off n:Nat} {t:TypeId} {v:Value} (hb:w.heap[b]? =some (.cells vs t' (0,0))) (hn:sizeT P t=some n) (hv:v.cells.size=n)
  (hfit:off+n≤vs.size) (h1:∀c∈v.cells.toList,c.oneCell'=true) :
  (storeVar t ⟨b,off,none⟩ v).run P w= .ok () (w.setRow b (vs.toList.take off++v.cells.toList++vs.toList.drop (off+n)).toArray):=by
 have:=run_storeCells_at P b off t' v.cells.toList 0 vs w hb (by simpa [hv] using hfit) h1
 simp only[Nat.add_zero] at this
 simp only[storeVar,Sem.run_bind,Zc6 hn,Result.andThen_ok,hv,ne_eq,not_true,if_false]
 rw[show (v.cells.toList.length)=n by simpa using hv] at this
 simpa using this
end Go.Abs
namespace Go.Abs
open Go
variable {P:Program} {g:G} {w:World} {H:Heap} {k:Nat} {env:Env} {a:Act} {op:ROp} {v:AV} {H':Heap} {k':Nat}
def Sound (P:Program) (o:Op):Prop:=∀(oo:Oper),oo.op=o→∀(g:G) (w:World) (H:Heap) (k:Nat) (env:Env) (a:Act) (op:ROp) (v:AV) (H':Heap) (k':Nat),
 SimH g w H k→(∀t,ARep g H k (env.get t) (a.tmps.getD t undef))→lowOp P o=some op→aop op (St.ev ⟨env,H,k⟩) H k=some (v,H',k')→OpOK g w H k ((execOp a.eval oo).run P w) v H' k'
theorem s_mv (x:Operand):Sound P (.move x):=by
 intro oo ho g w H k env a op v H' k' hs he hl hv
 simp only[lowOp,Option.map_eq_some_iff] at hl
 obtain⟨y,h1,rfl⟩:=hl
 simp only[aop,Option.some.injEq,Prod.mk.injEq] at hv
 obtain⟨rfl,rfl,rfl⟩:=hv
 exact OpOK.same hs (by simp[execOp,ho]) (ZaR he h1)
theorem s_assign (x:Operand):Sound P (.assign x):=by
 intro oo ho g w H k env a op v H' k' hs he hl hv
 simp only[lowOp,Option.map_eq_some_iff] at hl
 obtain⟨y,h1,rfl⟩:=hl
 simp only[aop,Option.some.injEq,Prod.mk.injEq] at hv
 obtain⟨rfl,rfl,rfl⟩:=hv
 exact OpOK.same hs (by simp[execOp,ho]) (ZaR he h1)
theorem ZbZ {g:G} {H:Heap} {k:Nat} (x:Value):ARep g H k (.p (.c x)) x:=by simp[ARep,PRep]
theorem Zdm {g:G} {H:Heap} {k:Nat} {x:Value} {v:Value} (h:ARep g H k (.p (.c x)) v):v=x:=by simpa [ARep,PRep] using h
theorem s_pick (c x y:Operand):Sound P (.pick c x y):=by
 intro oo ho g w H k env a op v H' k' hs he hl hv
 simp only[lowOp,Option.bind_eq_bind,Option.bind_eq_some_iff,Option.pure_def,Option.some.injEq] at hl
 obtain⟨c',h1,x',h2,y',h3,rfl⟩:=hl
 have r1:=ZaR he h1
 simp only[aop] at hv
 split at hv
 ·rename_i t hc
  rw[hc] at r1
  have e:=Zdm r1
  simp only[Option.some.injEq,Prod.mk.injEq] at hv
  obtain⟨rfl,rfl,rfl⟩:=hv
  refine OpOK.same hs (x:=if t then a.eval x else a.eval y) (by simp[execOp,ho,e,asBool]) ?_
  cases t
  ·exact ZaR he h3
  ·exact ZaR he h2
 ·cases hv
theorem ibin_run {op:BinOp} {t:TypeId} {q:IntKind} {x y:Int} {v:Value} (hv:ibinV op q x y=some v) (w:World) :
    (binOp op t (.int q x) (.int q y)).run P w= .ok v w:=by
  cases op<;>simp only[ibinV,Option.some.injEq,reduceCtorEq] at hv
  all_goals first
    | (subst hv;simp[binOp,Op.intArith,Op.intCmp,Op.intBits];done)
    | (split at hv
       · cases hv
       · rename_i hy
         cases hv
         simp[binOp,Op.intDiv,hy])
theorem guard_int (op:BinOp) (t:TypeId) (x y:Operand) (q q':IntKind) (m n:Int) (w:World):(eqGuard op t x y (.int q m) (.int q' n)).run P w= .ok () w:=by
 unfold eqGuard;split<;>simp
theorem guard_string (op:BinOp) (t:TypeId) (x y:Operand) (m n:ByteArray) (w:World):(eqGuard op t x y (.string m) (.string n)).run P w= .ok () w:=by
 unfold eqGuard;split<;>simp
theorem guard_bool (op:BinOp) (t:TypeId) (x y:Operand) (m n:Bool) (w:World):(eqGuard op t x y (.bool m) (.bool n)).run P w= .ok () w:=by
 unfold eqGuard;split<;>simp
theorem sbin_run {op:BinOp} {t:TypeId} {x y:ByteArray} {v:Value} (hv:sbinV op x y=some v) (w:World) :
  (binOp op t (.string x) (.string y)).run P w= .ok v w:=by
 cases op<;>simp only[sbinV,Option.some.injEq,reduceCtorEq] at hv
 case add =>
  split at hv
  ·rename_i hle
   cases hv
   have:¬(9223372036854775807<((x.size:Int)+(y.size:Int))):=by unfold lim at hle;omega
   simp[binOp,Op.stringOp,IntKind.max,IntKind.signed,IntKind.bits,this]
  ·cases hv
 all_goals (subst hv;simp[binOp,Op.stringOp])
theorem fkT_eq {t:TypeId} {q:FK} {x y:Value} {r:Bool} (ht:fkT P t=some q) (h:flatEq q x y=some r) (d:Nat) (w:World):(Op.equalIn (d+1) t x y).run P w= .ok r w:=by
 unfold fkT at ht
 split at ht<;>simp only[Option.some.injEq,reduceCtorEq] at ht
 ·rename_i q' hq
  subst ht
  cases x<;>cases y<;>simp only[flatEq,reduceCtorEq] at h
  split at h
  ·rename_i hk;cases h;subst hk;exact run_equalIn_int w d t _ q' _ _ hq
  ·cases h
 ·rename_i hq
  subst ht
  cases x<;>cases y<;>simp only[flatEq,Option.some.injEq,reduceCtorEq] at h
  subst h
  simp[Op.equalIn,run_underlying hq]
 ·rename_i hq
  subst ht
  cases x<;>cases y<;>simp only[flatEq,Option.some.injEq,reduceCtorEq] at h
  subst h
  simp[Op.equalIn,run_underlying hq]
theorem fkT_agg {t:TypeId} {q:FK} (h:fkT P t=some q):isAggT P t=some false:=by
 unfold fkT at h
 unfold isAggT
 split at h<;>simp_all
theorem ZeU {w:World} {fz:Nat→Option Obj} {xs ys:Array Value} {d:Nat}:∀(fs:List Field) (off:Nat) (qs:List FK) (as bs:List PV) (r:Bool),flatFields P fs off=some qs →
  PRepL fz as (xs.toList.drop off)→PRepL fz bs (ys.toList.drop off)→cellsEq qs as bs=some r→(Op.eqFields (d+1) xs ys fs).run P w= .ok r w
 | [],off,qs,as,bs,r,hf,h1,h2,hr=>by
  simp only[flatFields,Option.some.injEq] at hf
  subst hf
  cases as<;>cases bs<;>simp only[cellsEq,Option.some.injEq,reduceCtorEq] at hr
  subst hr;simp[Op.eqFields]
 | f :: fs,off,qs,as,bs,r,hf,h1,h2,hr=>by
  simp only[flatFields] at hf
  split at hf
  ·rename_i hc
   obtain⟨hoff,hname,hsz⟩:=hc
   split at hf
   ·rename_i q qs' hq hqs
    cases hf
    cases as with
    | nil=>simp[cellsEq] at hr
    | cons a as =>
     cases bs with
     | nil=>cases a<;>simp[cellsEq] at hr
     | cons b bs =>
      cases a<;>cases b<;>simp only[cellsEq,reduceCtorEq] at hr
      rename_i u v
      simp only[PRepL,PRep] at h1 h2
      obtain⟨u',r1,e1,rfl,h1'⟩:=h1
      obtain⟨v',r2,e2,rfl,h2'⟩:=h2
      have g1:xs[off]? =some u':=by
       have:=congrArg (fun l=>l[0]?) e1
       simpa using this
      have g2:ys[off]? =some v':=by
       have:=congrArg (fun l=>l[0]?) e2
       simpa using this
      have d1:xs.toList.drop (off+1)=r1:=by
       have:=congrArg (List.drop 1) e1
       simpa [List.drop_drop,Nat.add_comm] using this
      have d2:ys.toList.drop (off+1)=r2:=by
       have:=congrArg (List.drop 1) e2
       simpa [List.drop_drop,Nat.add_comm] using this
      split at hr
      ·rename_i p s hp hs
       simp only[Option.some.injEq] at hr
       have ih:=ZeU (w:=w) (xs:=xs) (ys:=ys) (d:=d) fs (off+1) qs' as bs s hqs (by rw[d1];exact h1') (by rw[d2];exact h2') hs
       have hagg:=fkT_agg hq
       have p1:(part f.type xs f.offset).run P w= .ok u' w:=by simp[part,ZdI hagg,hoff,g1]
       have p2:(part f.type ys f.offset).run P w= .ok v' w:=by simp[part,ZdI hagg,hoff,g2]
       have p3:=fkT_eq (w:=w) hq hp d
       simp only[Op.eqFields,hname,ne_eq,not_false_eq_true,if_true,Sem.run_bind,p1,p2,p3,Result.andThen_ok,Sem.run_ite]
       cases p
       ·simp at hr;subst hr;simp
       ·simp at hr;subst hr;simp[ih]
      ·cases hr
   ·cases hf
  ·cases hf
theorem eqv_run {t:TypeId} {ks:List FK} {as bs:List PV} {xs ys:Array Value} {r:Bool} {fz:Nat→Option Obj} (ht:eqable P t=some ks) (h1:PRepL fz as xs.toList) (h2:PRepL fz bs ys.toList)
  (hr:cellsEq ks as bs=some r) (x y:Operand) (op:BinOp) (w:World) :
  (eqGuard op t x y (.agg xs) (.agg ys)).run P w= .ok () w∧(binOp .eql t (.agg xs) (.agg ys)).run P w= .ok (.bool r) w∧(binOp .neq t (.agg xs) (.agg ys)).run P w= .ok (.bool (!r)) w:=by
 unfold eqable at ht
 split at ht
 ·rename_i fs hfs
  split at ht
  ·rename_i hc
   have hfo:P.fieldsOf t=fs:=by simp[Program.fieldsOf,hfs]
   have he:(Op.equalIn 10000 t (.agg xs) (.agg ys)).run P w= .ok r w:=by
    rw[run_equalIn_struct w 9999 t xs ys (by rw[hfo];exact hfs) hc.1,hfo]
    exact ZeU (d:=9998) fs.toList 0 ks as bs r ht (by simpa using h1) (by simpa using h2) hr
   exact⟨run_eqGuard_agg w op t x y xs ys hc.2,by rw[run_eql_struct,he];rfl,by rw[run_neq_struct,he];rfl⟩
  ·cases ht
 ·cases ht
theorem ZhD:∀(qs:List FK) {ks:List FK} {as bs:List PV} {r:Bool},cellsEq (qs++ks) as bs=some r →
  ∃u v,cellsEq qs (as.take qs.length) (bs.take qs.length)=some u∧cellsEq ks (as.drop qs.length) (bs.drop qs.length)=some v∧r=(u && v)
 | [],ks,as,bs,r,h=>⟨true,r,by simp[cellsEq],by simpa using h,by simp⟩
 | q :: qs,ks,as,bs,r,h=>by
  cases as with
  | nil=>simp[cellsEq] at h
  | cons a as =>
   cases bs with
   | nil=>cases a<;>simp[cellsEq] at h
   | cons b bs =>
    cases a<;>cases b<;>simp only[List.cons_append,cellsEq,reduceCtorEq] at h
    split at h
    ·rename_i p s hp hs
     simp only[Option.some.injEq] at h
     obtain⟨u,v,h1,h2,h3⟩:=ZhD qs hs
     refine⟨p && u,v,?_,by simpa using h2,by rw[←h,h3,Bool.and_assoc]⟩
     simp only[List.length_cons,List.take_succ_cons,cellsEq,hp,h1]
    ·cases h
theorem eqable_agg {t:TypeId} {qs:List FK} (h:eqable P t=some qs):isAggT P t=some true∧P.underlying t=some (.struct (P.fieldsOf t))∧P.stoodInHeld t=false∧flatFields P (P.fieldsOf t).toList 0=some qs:=by
 unfold eqable at h
 split at h
 ·rename_i fs hfs
  split at h
  ·rename_i hc
   have hfo:P.fieldsOf t=fs:=by simp[Program.fieldsOf,hfs]
   exact⟨by simp[isAggT,hfs],by rw[hfo];exact hfs,hc.1,by rw[hfo];exact h⟩
  ·cases h
 ·cases h
theorem Zht {w:World} {fz:Nat→Option Obj} {xs ys:Array Value} {d:Nat}:∀(fs:List Field) (off:Nat) (qs:List FK) (as bs:List PV) (r:Bool),nestFields P fs off=some qs →
  PRepL fz as (xs.toList.drop off)→PRepL fz bs (ys.toList.drop off)→cellsEq qs as bs=some r→(Op.eqFields (d+2) xs ys fs).run P w= .ok r w
 | [],off,qs,as,bs,r,hf,h1,h2,hr=>by
  simp only[nestFields,Option.some.injEq] at hf
  subst hf
  cases as<;>cases bs<;>simp only[cellsEq,Option.some.injEq,reduceCtorEq] at hr
  subst hr;simp[Op.eqFields]
 | f :: fs,off,qs,as,bs,r,hf,h1,h2,hr=>by
  simp only[nestFields] at hf
  split at hf
  ·rename_i hc
   obtain⟨hoff,hname⟩:=hc
   split at hf
   ·rename_i q hq
    split at hf
    ·simp only[Option.map_eq_some_iff] at hf
     obtain⟨qs',hqs,rfl⟩:=hf
     cases as with
     | nil=>simp[cellsEq] at hr
     | cons a as =>
      cases bs with
      | nil=>cases a<;>simp[cellsEq] at hr
      | cons b bs =>
       cases a<;>cases b<;>simp only[cellsEq,reduceCtorEq] at hr
       simp only[PRepL,PRep] at h1 h2
       obtain⟨u',r1,e1,rfl,h1'⟩:=h1
       obtain⟨v',r2,e2,rfl,h2'⟩:=h2
       have g1:xs[off]? =some u':=by
        have:=congrArg (fun l=>l[0]?) e1
        simpa using this
       have g2:ys[off]? =some v':=by
        have:=congrArg (fun l=>l[0]?) e2
        simpa using this
       have d1:xs.toList.drop (off+1)=r1:=by
        have:=congrArg (List.drop 1) e1
        simpa [List.drop_drop,Nat.add_comm] using this
       have d2:ys.toList.drop (off+1)=r2:=by
        have:=congrArg (List.drop 1) e2
        simpa [List.drop_drop,Nat.add_comm] using this
       split at hr
       ·rename_i p s hp hs
        simp only[Option.some.injEq] at hr
        have ih:=Zht (w:=w) (xs:=xs) (ys:=ys) (d:=d) fs (off+1) qs' as bs s hqs (by rw[d1];exact h1') (by rw[d2];exact h2') hs
        have hagg:=fkT_agg hq
        have p1:(part f.type xs f.offset).run P w= .ok u' w:=by simp[part,ZdI hagg,hoff,g1]
        have p2:(part f.type ys f.offset).run P w= .ok v' w:=by simp[part,ZdI hagg,hoff,g2]
        have p3:=fkT_eq (w:=w) hq hp (d+1)
        simp only[Op.eqFields,hname,ne_eq,not_false_eq_true,if_true,Sem.run_bind,p1,p2,p3,Result.andThen_ok,Sem.run_ite]
        cases p
        ·simp at hr;subst hr;simp
        ·simp at hr;subst hr;simp[ih]
       ·cases hr
    ·cases hf
   ·split at hf
    ·rename_i ks hks
     split at hf
     ·rename_i hsz
      simp only[Option.map_eq_some_iff] at hf
      obtain⟨qs',hqs,rfl⟩:=hf
      obtain⟨p,s,hp,hs,hr⟩:=ZhD ks hr
      have ih:=Zht (w:=w) (xs:=xs) (ys:=ys) (d:=d) fs (off+ks.length) qs' _ _ s hqs (by rw[←List.drop_drop];exact h1.drop _) (by rw[←List.drop_drop];exact h2.drop _) hs
      obtain⟨hagg,hst,hheld,hfl⟩:=eqable_agg hks
      have p1:(part f.type xs f.offset).run P w= .ok (.agg (xs.extract off (off+ks.length))) w:=by simp[part,ZdI hagg,Zc6 hsz,hoff]
      have p2:(part f.type ys f.offset).run P w= .ok (.agg (ys.extract off (off+ks.length))) w:=by simp[part,ZdI hagg,Zc6 hsz,hoff]
      have q1:PRepL fz (as.take ks.length) ((xs.extract off (off+ks.length)).toList.drop 0):=by
       have:=h1.take ks.length
       simpa using this
      have q2:PRepL fz (bs.take ks.length) ((ys.extract off (off+ks.length)).toList.drop 0):=by
       have:=h2.take ks.length
       simpa using this
      have p3:(Op.equalIn (d+2) f.type (.agg (xs.extract off (off+ks.length))) (.agg (ys.extract off (off+ks.length)))).run P w= .ok p w:=by
       rw[run_equalIn_struct w (d+1) f.type _ _ hst hheld]
       exact ZeU (d:=d) _ 0 ks _ _ p hfl q1 q2 hp
      simp only[Op.eqFields,hname,ne_eq,not_false_eq_true,if_true,Sem.run_bind,p1,p2,p3,Result.andThen_ok,Sem.run_ite]
      cases p
      ·simp at hr;subst hr;simp
      ·simp at hr;subst hr;simp[ih]
     ·cases hf
    ·cases hf
  ·cases hf
theorem eqv_run2 {t:TypeId} {ks:List FK} {as bs:List PV} {xs ys:Array Value} {r:Bool} {fz:Nat→Option Obj} (ht:eqable2 P t=some ks) (h1:PRepL fz as xs.toList) (h2:PRepL fz bs ys.toList)
  (hr:cellsEq ks as bs=some r) (x y:Operand) (op:BinOp) (w:World) :
  (eqGuard op t x y (.agg xs) (.agg ys)).run P w= .ok () w∧(binOp .eql t (.agg xs) (.agg ys)).run P w= .ok (.bool r) w∧(binOp .neq t (.agg xs) (.agg ys)).run P w= .ok (.bool (!r)) w:=by
 unfold eqable2 at ht
 split at ht
 ·rename_i ks' hk
  cases ht
  exact eqv_run hk h1 h2 hr x y op w
 ·split at ht
  ·rename_i fs hfs
   split at ht
   ·rename_i hc
    have hfo:P.fieldsOf t=fs:=by simp[Program.fieldsOf,hfs]
    have he:(Op.equalIn 10000 t (.agg xs) (.agg ys)).run P w= .ok r w:=by
     rw[run_equalIn_struct w 9999 t xs ys (by rw[hfo];exact hfs) hc.1,hfo]
     exact Zht (d:=9997) fs.toList 0 ks as bs r ht (by simpa using h1) (by simpa using h2) hr
    exact⟨run_eqGuard_agg w op t x y xs ys hc.2,by rw[run_eql_struct,he];rfl,by rw[run_neq_struct,he];rfl⟩
   ·cases ht
  ·cases ht
theorem s_bin (bo:BinOp) (t:TypeId) (x y:Operand) (u:TypeId):Sound P (.binOp bo t x y u):=by
  intro oo ho g w H k env a op v H' k' hs he hl hv
  simp only[lowOp,Option.bind_eq_bind,Option.bind_eq_some_iff] at hl
  obtain⟨x',h1,y',h2,hl⟩:=hl
  have r1:=ZaR he h1
  have r2:=ZaR he h2
  have hrun:(execOp a.eval oo).run P w=(((eqGuard bo t x y (a.eval x) (a.eval y)).run P w).andThen fun _ w'=>((binOp bo t (a.eval x) (a.eval y)).run P w').andThen fun v w''=> .ok (.value v) w''):=by
    simp only[execOp,ho,Sem.run_bind,Sem.run_pure]
    cases (eqGuard bo t x y (a.eval x) (a.eval y)).run P w<;>simp
  split at hl
  ·
    rename_i q hq
    split at hl<;>simp only[Option.some.injEq,reduceCtorEq] at hl
    all_goals try
     (subst hl
      simp only[aop] at hv
      split at hv
      · rename_i q1 m q2 n hm hn
        split at hv
        · rename_i hqq
          obtain⟨rfl,rfl⟩:=hqq
          simp only[Option.map_eq_some_iff] at hv
          obtain⟨z,hz,e⟩:=hv
          simp only[Prod.mk.injEq] at e
          obtain⟨rfl,rfl,rfl⟩:=e
          rw[hm] at r1
          rw[hn] at r2
          have e1:=Zdm r1
          have e2:=Zdm r2
          refine OpOK.same hs (x:=z) ?_ (by simp[ARep,PRep])
          rw[hrun,e1,e2,guard_int,Result.andThen_ok,ibin_run hz]
          rfl
        · cases hv
      · cases hv)
    all_goals
      subst hl
      simp only[aop] at hv
      split at hv
      · rename_i q1 m q2 n hm hn
        split at hv
        · rename_i hqq
          obtain⟨rfl,h0⟩:=hqq
          simp only[Option.some.injEq,Prod.mk.injEq] at hv
          obtain⟨rfl,rfl,rfl⟩:=hv
          rw[hm] at r1
          rw[hn] at r2
          have e1:=Zdm r1
          have e2:=Zdm r2
          refine OpOK.same hs ?_ (ZbZ _)
          rw[hrun,e1,e2,guard_int,Result.andThen_ok]
          have hn0:¬n<0:=by omega
          simp[binOp,Op.shift,hn0,Nat.min_def]
          try rfl
        · cases hv
      · cases hv
  ·
    rename_i hq
    split at hl<;>simp only[Option.some.injEq,reduceCtorEq] at hl
    all_goals
      subst hl
      simp only[aop] at hv
      split at hv
      · rename_i m n hm hn
        simp only[Option.map_eq_some_iff] at hv
        obtain⟨z,hz,e⟩:=hv
        simp only[Prod.mk.injEq] at e
        obtain⟨rfl,rfl,rfl⟩:=e
        rw[hm] at r1
        rw[hn] at r2
        have e1:=Zdm r1
        have e2:=Zdm r2
        refine OpOK.same hs (x:=z) ?_ (by simp[ARep,PRep])
        rw[hrun,e1,e2,guard_string,Result.andThen_ok,sbin_run hz]
        rfl
      · cases hv
  ·
    rename_i hq
    split at hl<;>simp only[Option.some.injEq,reduceCtorEq] at hl
    all_goals
      subst hl
      simp only[aop] at hv
      split at hv
      · rename_i m n hm hn
        simp only[Option.some.injEq,Prod.mk.injEq] at hv
        obtain⟨rfl,rfl,rfl⟩:=hv
        rw[hm] at r1
        rw[hn] at r2
        have e1:=Zdm r1
        have e2:=Zdm r2
        refine OpOK.same hs ?_ (ZbZ _)
        rw[hrun,e1,e2,guard_bool,Result.andThen_ok]
        have heq:(Op.equal t (.bool m) (.bool n)).run P w= .ok (m == n) w:=run_equalIn_bool' w 9999 t m n hq
        simp[binOp,heq]
      · cases hv
  ·
    split at hl<;>simp only[Option.some.injEq,reduceCtorEq] at hl
    all_goals
      subst hl
      simp[aop] at hv
  ·
    rename_i hq
    split at hl
    · rename_i ks hks
      split at hl<;>simp only[Option.some.injEq,reduceCtorEq] at hl
      all_goals
        subst hl
        simp only[aop] at hv
        split at hv
        · rename_i m n hm hn
          simp only[Option.map_eq_some_iff] at hv
          obtain⟨z,hz,e⟩:=hv
          simp only[Prod.mk.injEq] at e
          obtain⟨rfl,rfl,rfl⟩:=e
          rw[hm] at r1
          rw[hn] at r2
          simp only[ARep,PRep] at r1 r2
          obtain⟨xs,e1,l1⟩:=r1
          obtain⟨ys,e2,l2⟩:=r2
          refine OpOK.same hs ?_ (ZbZ _)
          rw[hrun,e1,e2,(eqv_run2 hks l1 l2 hz x y _ w).1,Result.andThen_ok]
          first
            | (rw[(eqv_run2 hks l1 l2 hz x y .eql w).2.1];rfl)
            | (rw[(eqv_run2 hks l1 l2 hz x y .eql w).2.2];rfl)
        · cases hv
    · cases hl
  · cases hl
end Go.Abs
namespace Go.Abs
open Go
variable {P:Program}
theorem s_not (t:TypeId) (x:Operand):Sound P (.unOp .not t x):=by
 intro oo ho g w H k env a op v H' k' hs he hl hv
 simp only[lowOp,Option.map_eq_some_iff] at hl
 obtain⟨y,h1,rfl⟩:=hl
 have r1:=ZaR he h1
 simp only[aop] at hv
 split at hv
 ·rename_i m hm
  simp only[Option.some.injEq,Prod.mk.injEq] at hv
  obtain⟨rfl,rfl,rfl⟩:=hv
  rw[hm] at r1
  have e1:=Zdm r1
  exact OpOK.same hs (x:= .bool (!m)) (by simp[execOp,ho,e1,Op.unary]) (ZbZ _)
 ·cases hv
theorem s_neg (t:TypeId) (x:Operand):Sound P (.unOp .neg t x):=by
 intro oo ho g w H k env a op v H' k' hs he hl hv
 simp only[lowOp] at hl
 split at hl
 ·rename_i q hq
  simp only[Option.bind_eq_bind,Option.bind_eq_some_iff,Option.pure_def,Option.some.injEq] at hl
  obtain⟨y,h1,rfl⟩:=hl
  have r1:=ZaR he h1
  simp only[aop] at hv
  split at hv
  ·rename_i q' m hm
   split at hv
   ·rename_i e;subst e
    simp only[Option.some.injEq,Prod.mk.injEq] at hv
    obtain⟨rfl,rfl,rfl⟩:=hv
    rw[hm] at r1
    have e1:=Zdm r1
    exact OpOK.same hs (by simp only[execOp,ho,e1,Op.unary,Op.intArith];rfl) (ZbZ _)
   ·cases hv
  ·cases hv
 ·cases hl
theorem s_conv (s d:TypeId) (x:Operand):Sound P (.convert s d x):=by
 intro oo ho g w H k env a op v H' k' hs he hl hv
 simp only[lowOp,Option.bind_eq_bind,Option.bind_eq_some_iff] at hl
 obtain⟨y,h1,hl⟩:=hl
 have r1:=ZaR he h1
 split at hl
 ·rename_i q1 q hq1 hq
  simp only[Option.pure_def,Option.some.injEq] at hl
  subst hl
  simp only[aop] at hv
  split at hv
  ·rename_i q' m hm
   simp only[Option.some.injEq,Prod.mk.injEq] at hv
   obtain⟨rfl,rfl,rfl⟩:=hv
   rw[hm] at r1
   have e1:=Zdm r1
   refine OpOK.same hs (x:= .int q (q.wrap m)) ?_ (ZbZ _)
   simp only[execOp,ho,e1,Sem.run_bind]
   simp[convert,run_underlying hq1,run_underlying hq,Conv.intToInt]
  ·cases hv
 ·rename_i hq1 hq
  simp only[Option.pure_def,Option.some.injEq] at hl
  subst hl
  simp only[aop] at hv
  split at hv
  ·rename_i s' hm
   simp only[Option.some.injEq,Prod.mk.injEq] at hv
   obtain⟨rfl,rfl,rfl⟩:=hv
   rw[hm] at r1
   have e1:=Zdm r1
   refine OpOK.same hs (x:= .string s') ?_ (ZbZ _)
   simp only[execOp,ho,e1,Sem.run_bind]
   simp[convert,run_underlying hq1,run_underlying hq]
  ·cases hv
 ·cases hl
theorem s_load (t:TypeId) (x:Operand):Sound P (.load t x):=by
 intro oo ho g w H k env a op v H' k' hs he hl hv
 simp only[lowOp,Option.bind_eq_bind,Option.bind_eq_some_iff,Option.pure_def,Option.some.injEq] at hl
 obtain⟨n,hn,agg,hagg,y,h1,rfl⟩:=hl
 have r1:=ZaR he h1
 have fin:∀ {b off vs t' fr l vals},a.eval x= .pointer (some ⟨b,off,none⟩)→w.heap[b]? =some (.cells vs t' fr)→CellsAt vs off vals→ARepL g H k l vals→∀ {u},cut n agg l=some u →
   (u,H,k)=(v,H',k')→OpOK g w H k ((execOp a.eval oo).run P w) v H' k':=by
  intro b off vs t' fr l vals hx hb hc hr u hu e
  simp only[Prod.mk.injEq] at e
  obtain⟨rfl,rfl,rfl⟩:=e
  obtain⟨z,h2,h3⟩:=load_ok (P:=P) hb hc hr hn hagg hu
  exact OpOK.same hs (by simp[execOp,ho,hx,Instr.loadAt,Instr.sureAddr,h2]) h3
 simp only[aop] at hv
 split at hv
 ·rename_i m off hm
  rw[hm] at r1
  split at hv
  ·rename_i cs hcs
   simp only[Option.map_eq_some_iff] at hv
   obtain⟨u,hu,e⟩:=hv
   simp only[ARep] at r1
   obtain⟨b,hb,hx⟩:=r1.2.2 cs hcs
   obtain⟨_,ho',_⟩:=hs.obj m _ hcs
   simp only[ORep] at ho'
   obtain⟨b',vs,t',hb',hw,hr⟩:=ho'
   rw[hb] at hb';cases hb'
   exact fin hx hw (vals:=vs.toList.drop off) (fun j x hj=>by simpa using hj) (hr.drop off) hu e
  ·cases hv
 ·rename_i m i j len hm
  rw[hm] at r1
  split at hv
  ·rename_i rows hrows
   split at hv
   ·rename_i hlen
    split at hv
    ·rename_i r hri
     simp only[Option.map_eq_some_iff] at hv
     obtain⟨u,hu,e⟩:=hv
     simp only[ARep] at r1
     obtain⟨hle,hup⟩:=r1.2.2 rows hrows
     obtain⟨hi,hd,b,hb,hx⟩:=hup hlen
     obtain⟨_,ho',_⟩:=hs.obj m _ hrows
     simp only[ORep] at ho'
     obtain⟨o1,o2,o3,o4,o6,o5⟩:=ho'
     obtain⟨cs,t',vals,hw,hcap,hvals,hat,hsz⟩:=o5 b hb
     have hri':(rows.drop (g.ρ m).drop)[i - (g.ρ m).drop]? =some r:=by rw[List.getElem?_drop,show (g.ρ m).drop+(i - (g.ρ m).drop)=i by omega];exact hri
     obtain⟨vr,hv1,hv2⟩:=PRepLL.get hvals hri'
     have hc:=(hat _ _ hv1).2
     rw[cutP_eq,List.map_drop] at hu
     refine fin hx hw (vals:=vr.drop j) (fun j' x hj'=>?_) ((ARepL.ofP.2 hv2).drop j) hu e
     simp only[List.getElem?_drop] at hj'
     have:=hc _ _ hj'
     rwa [←Nat.add_assoc] at this
    ·cases hv
   ·cases hv
  ·cases hv
 ·rename_i cells hm
  rw[hm] at r1
  simp only[Option.map_eq_some_iff] at hv
  obtain⟨u,hu,e⟩:=hv
  simp only[ARep,PRep] at r1
  obtain⟨b,off,cs,t',fr,vals,hx,hf,hr,hc⟩:=r1
  rw[cutP_eq] at hu
  exact fin hx (hs.fz b _ hf) hc (ARepL.ofP.2 hr) hu e
 ·cases hv
theorem live_ptr {g:G} {H:Heap} {k:Nat} {x:AV} {v:Value} (hl:live H x=true) (h:ARep g H k x v):∃b off,v= .pointer (some ⟨b,off,none⟩)∧∀d,ARep g H k (x.shift d) (.pointer (some ⟨b,off+d,none⟩)):=by
 cases x<;>try simp only[live,Bool.false_eq_true] at hl
 ·rename_i y
  cases y<;>simp only[Bool.false_eq_true] at hl
  rename_i cells
  simp only[ARep,PRep] at h
  obtain⟨b,off,cs,t,fr,vals,rfl,hf,hr,hc⟩:=h
  refine⟨b,off,rfl,fun d=>?_⟩
  simp only[AV.shift,ARep,PRep]
  refine⟨b,off+d,cs,t,fr,vals.drop d,rfl,hf,hr.drop d,fun j x hj=>?_⟩
  simp only[List.getElem?_drop] at hj
  have:=hc _ _ hj
  rwa [←Nat.add_assoc] at this
 ·rename_i m o
  split at hl
  ·rename_i cs hcs
   simp only[ARep] at h
   obtain⟨b,hb,rfl⟩:=h.2.2 cs hcs
   refine⟨b,o,rfl,fun d=>?_⟩
   simp only[AV.shift,ARep]
   refine⟨h.1,rfl,fun cs' hcs'=>⟨b,hb,rfl⟩⟩
  ·cases hl
 ·rename_i m i j len
  split at hl
  ·rename_i rows hrows
   simp only[beq_iff_eq] at hl
   simp only[ARep] at h
   obtain⟨h1,h2⟩:=h.2.2 rows hrows
   obtain⟨hi,hd,b,hb,rfl⟩:=h2 hl
   refine⟨b,_,rfl,fun d=>?_⟩
   simp only[AV.shift,ARep]
   refine⟨h.1,rfl,fun rows' hrows'=>?_⟩
   rw[hrows] at hrows';cases hrows'
   exact⟨h1,fun _=>⟨hi,hd,b,hb,by simp[Nat.add_assoc]⟩⟩
  ·cases hl
theorem s_faddr (s:TypeId) (x:Operand) (i:Nat):Sound P (.fieldAddr s x i):=by
 intro oo ho g w H k env a op v H' k' hs he hl hv
 simp only[lowOp] at hl
 split at hl
 ·rename_i fs hfs
  split at hl
  ·rename_i f hf
   split at hl
   ·cases hl
   ·rename_i hsz
    simp only[Option.bind_eq_bind,Option.bind_eq_some_iff,Option.pure_def,Option.some.injEq] at hl
    obtain⟨y,h1,rfl⟩:=hl
    have r1:=ZaR he h1
    simp only[aop] at hv
    split at hv
    ·rename_i hlive
     simp only[Option.some.injEq,Prod.mk.injEq] at hv
     obtain⟨rfl,rfl,rfl⟩:=hv
     obtain⟨b,off,hx,hsh⟩:=live_ptr hlive r1
     refine OpOK.same hs ?_ (hsh f.offset)
     cases hsz':sizeT P f.type with
     | none=>simp[hsz'] at hsz
     | some n =>
      have hn:n≠0:=by rintro rfl;simp[hsz'] at hsz
      simp[execOp,ho,hx,Instr.fieldAt,run_underlying hfs,hf,Instr.sureAddr,fieldPlace,Zc6 hsz',hn,Zdv]
    ·cases hv
  ·cases hl
 ·cases hl
theorem Zfw {g:G} {H:Heap} {k:Nat} {x:AV} {v:Value} {z:Int} (h:ARep g H k x v) (hz:aint x=some z):∃q,v= .int q z:=by
 unfold aint at hz
 split at hz
 ·cases hz;exact⟨_,Zdm h⟩
 ·cases hz
theorem s_fld (s:TypeId) (x:Operand) (i:Nat):Sound P (.field s x i):=by
 intro oo ho g w H k env a op v H' k' hs he hl hv
 simp only[lowOp] at hl
 split at hl
 ·rename_i fs hfs
  split at hl
  ·rename_i f hf
   simp only[Option.bind_eq_bind,Option.bind_eq_some_iff,Option.pure_def,Option.some.injEq] at hl
   obtain⟨n,hn,agg,hagg,y,h1,rfl⟩:=hl
   have r1:=ZaR he h1
   have fin:∀ {cs:Array Value} {l:List AV} {u},a.eval x= .agg cs→ARepL g H k l cs.toList→cut n agg (l.drop f.offset)=some u→(u,H,k)=(v,H',k')→OpOK g w H k ((execOp a.eval oo).run P w) v H' k':=by
    intro cs l u hx hr hu e
    simp only[Prod.mk.injEq] at e
    obtain⟨rfl,rfl,rfl⟩:=e
    obtain⟨z,h2,h3⟩:=part_ok (P:=P) (w:=w) (cs:=cs) (off:=f.offset) (hr.drop f.offset) hn hagg hu
    exact OpOK.same hs (by simp[execOp,ho,hx,Instr.field,run_underlying hfs,hf,asAgg,h2]) h3
   simp only[aop] at hv
   split at hv
   ·rename_i cs hm
    rw[hm] at r1
    simp only[Option.map_eq_some_iff] at hv
    obtain⟨u,hu,e⟩:=hv
    simp only[ARep,PRep] at r1
    obtain⟨vs,hx,hr⟩:=r1
    rw[cutP_eq,List.map_drop] at hu
    exact fin hx (ARepL.ofP.2 hr) hu e
   ·rename_i cs hm
    rw[hm] at r1
    simp only[Option.map_eq_some_iff] at hv
    obtain⟨u,hu,e⟩:=hv
    simp only[ARep] at r1
    obtain⟨vs,hx,hr⟩:=r1
    exact fin hx hr hu e
   ·cases hv
  ·cases hl
 ·cases hl
theorem s_iaddr (t:TypeId) (x i:Operand):Sound P (.indexAddr t x i):=by
  intro oo ho g w H k env a op v H' k' hs he hl hv
  simp only[lowOp] at hl
  split at hl
  ·
    rename_i e ht
    simp only[Option.bind_eq_bind,Option.bind_eq_some_iff,Option.pure_def,Option.some.injEq] at hl
    obtain⟨n,hn,x',h1,i',h2,rfl⟩:=hl
    have r1:=ZaR he h1
    have r2:=ZaR he h2
    simp only[aop] at hv
    split at hv
    · rename_i z hz
      obtain⟨q,hi⟩:=Zfw r2 hz
      split at hv
      · rename_i hz0
        have fin:∀ {b off len cap},a.eval x= .slice (some ⟨b,off,none⟩) len cap→z.toNat<len→(execOp a.eval oo).run P w= .ok (.value (.pointer (some ⟨b,off+z.toNat*n,none⟩))) w:=by
          intro b off len cap hx hlt
          have:z<(len:Int):=by omega
          simp[execOp,ho,hx,hi,Instr.indexAt,asIntOf,run_underlying ht,hz0,this,Zc6 hn,Zdv]
        split at hv
        · rename_i rows hm
          rw[hm] at r1
          split at hv
          · rename_i r hr
            split at hv
            · rename_i hrl
              simp only[Option.some.injEq,Prod.mk.injEq] at hv
              obtain⟨rfl,rfl,rfl⟩:=hv
              simp only[ARep,PRep] at r1
              rcases r1.2 with ⟨rfl,_⟩ | ⟨b,off,cap,wd,cs,t',fr,vals,hx,hcap,hf,hvals,hat⟩
              · simp at hr
              · have hlt:z.toNat<rows.length:=by
                  rcases Nat.lt_or_ge z.toNat rows.length with h | h
                  · exact h
                  · rw[List.getElem?_eq_none h] at hr;cases hr
                obtain⟨vr,hv1,hv2⟩:=PRepLL.get hvals hr
                obtain⟨hw,hc⟩:=hat _ _ hv1
                have hwn:wd=n:=by rw[←hw,hv2.length,hrl]
                subst hwn
                refine OpOK.same hs (fin hx hlt) ?_
                simp only[ARep,PRep]
                exact⟨b,off+z.toNat*wd,cs,t',fr,vr,rfl,hf,hv2,fun j y hj=>hc j y hj⟩
            · cases hv
          · cases hv
        · rename_i m off len hm
          rw[hm] at r1
          split at hv
          · rename_i rows hrows
            split at hv
            · rename_i hup
              split at hv
              · rename_i r hr
                split at hv
                · rename_i hrl
                  simp only[Option.some.injEq,Prod.mk.injEq] at hv
                  obtain⟨rfl,rfl,rfl⟩:=hv
                  simp only[ARep] at r1
                  obtain⟨hle,hos⟩:=r1.2.2 rows hrows
                  obtain⟨ad,cap,hx,hlc,hcap⟩:=hos hup.1
                  obtain⟨_,ho',_⟩:=hs.obj m _ hrows
                  simp only[ORep] at ho'
                  obtain⟨o1,o2,o3,o4,o6,o5⟩:=ho'
                  rcases hcap with hcap | ⟨b,hb,hdrop,hocap,rfl⟩
                  · omega
                  · have hwn:(g.ρ m).w=n:=by rw[←hrl];exact (o4 r (List.mem_of_getElem? hr)).symm
                    refine OpOK.same hs (fin hx hup.2) ?_
                    simp only[ARep]
                    refine⟨r1.1,rfl,fun rows' hrows'=>?_⟩
                    rw[hrows] at hrows';cases hrows'
                    refine⟨Nat.le_refl _,fun _=>⟨by omega,by omega,b,hb,?_⟩⟩
                    rw[hwn]
                    congr 3
                    rw[Nat.add_zero,Nat.add_assoc,←Nat.add_mul]
                    congr 2
                    omega
                · cases hv
              · cases hv
            · cases hv
          · cases hv
        · cases hv
      · cases hv
    · cases hv
  ·
    rename_i n e ht
    simp only[Option.bind_eq_bind,Option.bind_eq_some_iff,Option.pure_def,Option.some.injEq] at hl
    obtain⟨sz,hn,x',h1,i',h2,rfl⟩:=hl
    have r1:=ZaR he h1
    have r2:=ZaR he h2
    simp only[aop] at hv
    split at hv
    · rename_i z hz
      obtain⟨q,hi⟩:=Zfw r2 hz
      split at hv
      · rename_i hc
        simp only[Option.some.injEq,Prod.mk.injEq] at hv
        obtain⟨rfl,rfl,rfl⟩:=hv
        obtain⟨b,off,hx,hsh⟩:=live_ptr hc.2.2 r1
        have:z<(n:Int):=by omega
        refine OpOK.same hs ?_ (hsh _)
        simp[execOp,ho,hx,hi,Instr.indexAt,asIntOf,run_underlying ht,Instr.sureAddr,hc.1,this,Zc6 hn,Zdv]
      · cases hv
    · cases hv
  · cases hl
theorem s_index (t:TypeId) (x i:Operand):Sound P (.index t x i):=by
 intro oo ho g w H k env a op v H' k' hs he hl hv
 simp only[lowOp] at hl
 split at hl
 ·rename_i ht
  simp only[Option.bind_eq_bind,Option.bind_eq_some_iff,Option.pure_def,Option.some.injEq] at hl
  obtain⟨x',h1,i',h2,rfl⟩:=hl
  have r1:=ZaR he h1
  have r2:=ZaR he h2
  simp only[aop] at hv
  split at hv
  ·rename_i s z hm hz
   obtain⟨q,hi⟩:=Zfw r2 hz
   rw[hm] at r1
   have hx:=Zdm r1
   split at hv
   ·rename_i hz0
    simp only[Option.map_eq_some_iff] at hv
    obtain⟨c,hc,e⟩:=hv
    simp only[Prod.mk.injEq] at e
    obtain⟨rfl,rfl,rfl⟩:=e
    refine OpOK.same hs (x:= .int .u8 c.toNat) ?_ (ZbZ _)
    simp[execOp,ho,hx,hi,Instr.index,asIntOf,run_underlying ht,hz0,hc]
   ·cases hv
  ·cases hv
 ·rename_i len e ht
  simp only[Option.bind_eq_bind,Option.bind_eq_some_iff,Option.pure_def,Option.some.injEq] at hl
  obtain⟨n,hn,agg,hagg,x',h1,i',h2,rfl⟩:=hl
  have r1:=ZaR he h1
  have r2:=ZaR he h2
  simp only[aop] at hv
  split at hv
  ·rename_i cs z hm hz
   obtain⟨q,hi⟩:=Zfw r2 hz
   rw[hm] at r1
   split at hv
   ·rename_i hz0
    simp only[Option.map_eq_some_iff] at hv
    obtain⟨u,hu,e'⟩:=hv
    simp only[Prod.mk.injEq] at e'
    obtain⟨rfl,rfl,rfl⟩:=e'
    simp only[ARep,PRep] at r1
    obtain⟨vs,hx,hr⟩:=r1
    rw[cutP_eq,List.map_drop] at hu
    obtain⟨y,h3,h4⟩:=part_ok (P:=P) (w:=w) (cs:=vs) (off:=z.toNat*n) ((ARepL.ofP.2 hr).drop (z.toNat*n)) hn hagg hu
    have hlt:z<(len:Int):=by omega
    exact OpOK.same hs (by simp[execOp,ho,hx,hi,Instr.index,asIntOf,run_underlying ht,hz0.1,hlt,Zc6 hn,h3]) h4
   ·cases hv
  ·cases hv
 ·cases hl
theorem s_extract (x:Operand) (i:Nat):Sound P (.extract x i):=by
 intro oo ho g w H k env a op v H' k' hs he hl hv
 simp only[lowOp,Option.map_eq_some_iff] at hl
 obtain⟨y,h1,rfl⟩:=hl
 have r1:=ZaR he h1
 simp only[aop] at hv
 split at hv
 ·rename_i cs hm
  rw[hm] at r1
  simp only[Option.map_eq_some_iff] at hv
  obtain⟨c,hc,e⟩:=hv
  simp only[Prod.mk.injEq] at e
  obtain⟨rfl,rfl,rfl⟩:=e
  simp only[ARep] at r1
  obtain⟨vs,hx,hr⟩:=r1
  obtain⟨z,h2,h3⟩:=ARepL.get hr hc
  simp only[Array.getElem?_toList] at h2
  exact OpOK.same hs (by simp[execOp,ho,hx,Instr.extract,h2]) h3
 ·cases hv
theorem s_nilCheck (x:Operand):Sound P (.nilCheck x):=by
 intro oo ho g w H k env a op v H' k' hs he hl hv
 simp only[lowOp,Option.map_eq_some_iff] at hl
 obtain⟨y,h1,rfl⟩:=hl
 have r1:=ZaR he h1
 simp only[aop] at hv
 split at hv
 ·rename_i hlive
  simp only[Option.some.injEq,Prod.mk.injEq] at hv
  obtain⟨rfl,rfl,rfl⟩:=hv
  obtain⟨b,off,hx,hsh⟩:=live_ptr hlive r1
  exact OpOK.same hs (x:=a.eval x) (by simp[execOp,ho,hx]) r1
 ·cases hv
theorem Zef {g:G} {H:Heap} {k:Nat} {env:Env} {a:Act} (he:∀t,ARep g H k (env.get t) (a.tmps.getD t undef)):∀ {xs:List Operand} {ys:List RX},xs.mapM lowX=some ys →
  ARepL g H k (ys.map (St.ev ⟨env,H,k⟩)) (xs.map a.eval)
 | [],ys,h=>by simp at h;subst h;simp[ARepL]
 | x :: xs,ys,h=>by
  simp only[List.mapM_cons,Option.bind_eq_bind,Option.bind_eq_some_iff,Option.pure_def,Option.some.injEq] at h
  obtain⟨y,h1,ys',h2,rfl⟩:=h
  simp only[List.map_cons,ARepL]
  exact⟨_,_,rfl,ZaR he h1,Zef he h2⟩
theorem s_makeFunc (fn:Fn) (x y:Array Operand):Sound P (.makeFunc fn x y):=by
 intro oo ho g w H k env a op v H' k' hs he hl hv
 simp only[lowOp,Option.bind_eq_bind,Option.bind_eq_some_iff,Option.pure_def,Option.some.injEq] at hl
 obtain⟨xs,h1,ys,h2,rfl⟩:=hl
 simp only[aop,Option.some.injEq,Prod.mk.injEq] at hv
 obtain⟨rfl,rfl,rfl⟩:=hv
 refine OpOK.same hs (x:= .func fn (x.map a.eval) (y.map a.eval)) (by simp[execOp,ho,Instr.makeFunc]) ?_
 simp only[ARep]
 exact⟨_,_,rfl,by simpa using Zef he h1,by simpa using Zef he h2⟩
end Go.Abs
namespace Go.Abs
open Go
variable {P:Program}
theorem PRepL.append {fz:Nat→Option Obj}:∀ {xs:List PV} {vs:List Value},PRepL fz xs vs→∀ {ys:List PV} {us:List Value},PRepL fz ys us→PRepL fz (xs++ys) (vs++us)
 | [],_,h,_,_,h'=>by simp only[PRepL] at h;simpa [h] using h'
 | x :: xs,_,h,ys,us,h'=>by
  simp only[PRepL] at h
  obtain⟨v,r,rfl,h1,h2⟩:=h
  simp only[List.cons_append,PRepL]
  exact⟨v,_,rfl,h1,PRepL.append h2 h'⟩
theorem PRepLL.set {fz:Nat→Option Obj}:∀ {xs:List (List PV)} {vs:List (List Value)},PRepLL fz xs vs→∀ {x:List PV} {v:List Value},PRepL fz x v→∀n,PRepLL fz (xs.set n x) (vs.set n v)
 | [],_,h,_,_,_,n=>by simp only[PRepLL] at h;simp[h,PRepLL]
 | x :: xs,_,h,y,u,hy,n=>by
  simp only[PRepLL] at h
  obtain⟨v,r,rfl,h1,h2⟩:=h
  cases n with
  | zero=>simp only[List.set_cons_zero,PRepLL];exact⟨_,_,rfl,hy,h2⟩
  | succ n=>simp only[List.set_cons_succ,PRepLL];exact⟨_,_,rfl,h1,PRepLL.set h2 hy n⟩
theorem PRepLL.replicate {fz:Nat→Option Obj} {x:List PV} {v:List Value} (h:PRepL fz x v):∀n,PRepLL fz (List.replicate n x) (List.replicate n v)
 | 0=>by simp[PRepLL]
 | n+1=>by simp only[List.replicate_succ,PRepLL];exact⟨_,_,rfl,h,PRepLL.replicate h n⟩
theorem OpOK.skip {g g':G} {w w':World} {H H':Heap} {k k':Nat} {r:Result Next} (hr:r= .ok .skip w') (h:SimH g' w' H' k'∧Evo g w H k g' w' H' k'):OpOK g w H k r .junk H' k' :=
 ⟨g',w',undef,.inr ⟨hr,rfl⟩,by simp[ARep],h.1,h.2⟩
theorem seg_get {α:Type} (l m:List α) (o i:Nat) (ho:o+m.length≤l.length):(l.take o++m++l.drop (o+m.length))[i]? =if o≤i∧i<o+m.length then m[i - o]? else l[i]? :=by
 rw[List.append_assoc]
 by_cases h1:i<o
 ·rw[List.getElem?_append_left (by simp;omega),List.getElem?_take,if_pos h1,if_neg (by omega)]
 ·rw[List.getElem?_append_right (by simp;omega)]
  simp only[List.length_take,Nat.min_eq_left (by omega:o≤l.length)]
  by_cases h2:i<o+m.length
  ·rw[List.getElem?_append_left (by omega),if_pos (by omega)]
  ·rw[List.getElem?_append_right (by omega),List.getElem?_drop,if_neg (by omega)]
   congr 1
   omega
theorem RowsAt.write {cs:Array Value} {base wd:Nat} {vals:List (List Value)} {i0 j:Nat} {vr l:List Value} (h:RowsAt cs base wd vals) (hi:vals[i0]? =some vr) (hj:j+l.length≤vr.length)
  (hsz:base+i0*wd+vr.length≤cs.size) :
  RowsAt (cs.toList.take (base+i0*wd+j)++l++cs.toList.drop (base+i0*wd+j+l.length)).toArray base wd (vals.set i0 (vr.take j++l++vr.drop (j+l.length))):=by
 intro i r hr
 have hvr:=(h i0 vr hi).1
 rw[List.getElem?_set] at hr
 by_cases e:i0=i
 ·subst e
  have hlt:i0<vals.length:=by
   rcases Nat.lt_or_ge i0 vals.length with h' | h'
   ·exact h'
   ·rw[List.getElem?_eq_none h'] at hi;cases hi
  simp only[if_true,hlt,Option.some.injEq] at hr
  subst hr
  refine⟨by simp;omega,fun jj x hx=>?_⟩
  rw[seg_get vr l j jj (by omega)] at hx
  rw[List.getElem?_toArray,seg_get _ l _ _ (by simp;omega)]
  split at hx
  ·rename_i hc
   rw[if_pos (by omega)]
   rw[show base+i0*wd+jj - (base+i0*wd+j)=jj - j by omega]
   exact hx
  ·rename_i hc
   rw[if_neg (by omega)]
   simpa using (h i0 vr hi).2 jj x hx
 ·simp only[if_neg e] at hr
  obtain⟨h1,h2⟩:=h i r hr
  refine⟨h1,fun jj x hx=>?_⟩
  have hjj:jj<wd:=by
   rcases Nat.lt_or_ge jj r.length with h' | h'
   ·omega
   ·rw[List.getElem?_eq_none h'] at hx;cases hx
  rw[List.getElem?_toArray,seg_get _ l _ _ (by simp;omega),if_neg]
  ·simpa using h2 jj x hx
  ·rcases Nat.lt_or_gt_of_ne e with h' | h'
   ·have:=Nat.mul_le_mul_right wd (Nat.succ_le_of_lt h')
    simp only[Nat.succ_eq_add_one,Nat.add_mul,Nat.one_mul] at this
    omega
   ·have:=Nat.mul_le_mul_right wd (Nat.succ_le_of_lt h')
    simp only[Nat.succ_eq_add_one,Nat.add_mul,Nat.one_mul] at this
    omega
theorem s_store (t:TypeId) (x y:Operand):Sound P (.store t x y):=by
 intro oo ho g w H k env a op v H' k' hs he hl hv
 simp only[lowOp,Option.bind_eq_bind,Option.bind_eq_some_iff,Option.pure_def,Option.some.injEq] at hl
 obtain⟨n,hn,x',h1,y',h2,rfl⟩:=hl
 have r1:=ZaR he h1
 have r2:=ZaR he h2
 simp only[aop] at hv
 split at hv
 ·rename_i l hl
  obtain⟨c1,c2⟩:=Zf9 r2 hl
  split at hv
  ·rename_i hln
   have hsz:(a.eval y).cells.size=n:=by have:=c1.length;simp only[Array.length_toList] at this;omega
   split at hv
   ·rename_i m off hm
    rw[hm] at r1
    split at hv
    ·rename_i cs hcs
     split at hv
     ·rename_i hfit
      simp only[Option.some.injEq,Prod.mk.injEq] at hv
      obtain⟨rfl,rfl,rfl⟩:=hv
      simp only[ARep] at r1
      obtain⟨b,hb,hx⟩:=r1.2.2 cs hcs
      obtain⟨_,ho',_⟩:=hs.obj m _ hcs
      simp only[ORep] at ho'
      obtain⟨b',vs,t',hb',hw,hr⟩:=ho'
      rw[hb] at hb';cases hb'
      have hvl:vs.size=cs.length:=by have:=hr.length;simpa using this
      have hst:=store_ok (P:=P) (off:=off) hw hn hsz (by omega) c2
      have hrun:(execOp a.eval oo).run P w= .ok .skip (w.setRow b (vs.toList.take off++(a.eval y).cells.toList++vs.toList.drop (off+n)).toArray):=by
       simp only[execOp,ho,hx,Instr.storeAt,Instr.sureAddr,Sem.run_bind,Sem.run_pure,Result.andThen_ok,hst]
      refine OpOK.skip hrun (SimH.put hs hcs hb rfl rfl rfl rfl (by simp) (fun b' hb'=>setRow_other w b b' _ hb') fun hk=>?_)
      simp only[ORep]
      refine⟨b,_,t',hb,setRow_heap w b vs _ t' _ hw,?_⟩
      have hr':=ARepL.keeps hk _ _ hr
      have hc':=ARepL.keeps hk _ _ c1
      exact ((hr'.take off).append hc').append (hr'.drop (off+n))
     ·cases hv
    ·cases hv
   ·rename_i m i j len hm
    rw[hm] at r1
    split at hv
    ·rename_i rows ps hrows hps
     split at hv
     ·rename_i hlen
      split at hv
      ·rename_i r hri
       split at hv
       ·rename_i hfit
        simp only[Option.some.injEq,Prod.mk.injEq] at hv
        obtain⟨rfl,rfl,rfl⟩:=hv
        simp only[ARep] at r1
        obtain⟨hle,hup⟩:=r1.2.2 rows hrows
        obtain⟨hi,hd,b,hb,hx⟩:=hup hlen
        obtain⟨_,ho',_⟩:=hs.obj m _ hrows
        simp only[ORep] at ho'
        obtain⟨o1,o2,o3,o4,o6,o5⟩:=ho'
        obtain⟨cs,t',vals,hw,hcap,hvals,hat,hsize⟩:=o5 b hb
        have hri':(rows.drop (g.ρ m).drop)[i - (g.ρ m).drop]? =some r:=by rw[List.getElem?_drop,show (g.ρ m).drop+(i - (g.ρ m).drop)=i by omega];exact hri
        obtain⟨vr,hv1,hv2⟩:=PRepLL.get hvals hri'
        have hvr:=(hat _ _ hv1).1
        have hrl:r.length=(g.ρ m).w:=o4 r (List.mem_of_getElem? hri)
        have hroom:(g.ρ m).base+(i - (g.ρ m).drop)*(g.ρ m).w+(g.ρ m).w≤cs.size:=by
         refine Nat.le_trans ?_ hsize
         have:(i - (g.ρ m).drop+1)*(g.ρ m).w≤((g.ρ m).cap - (g.ρ m).drop)*(g.ρ m).w:=Nat.mul_le_mul_right _ (by omega)
         rw[Nat.add_mul,Nat.one_mul] at this
         omega
        have hst:=store_ok (P:=P) (off:=(g.ρ m).base+(i - (g.ρ m).drop)*(g.ρ m).w+j) hw hn hsz (by omega) c2
        have hvl:(a.eval y).cells.toList.length=n:=by simpa using hsz
        have hlp:=Zff hps
        subst hlp
        have c3:=ARepL.ofP.1 c1
        have hrun:(execOp a.eval oo).run P w= .ok .skip (w.setRow b (cs.toList.take ((g.ρ m).base+(i - (g.ρ m).drop)*(g.ρ m).w+j)++(a.eval y).cells.toList++cs.toList.drop ((g.ρ m).base+(i - (g.ρ m).drop)*(g.ρ m).w+j+n)).toArray):=by
         simp only[execOp,ho,hx,Instr.storeAt,Instr.sureAddr,Sem.run_bind,Sem.run_pure,Result.andThen_ok,hst]
        refine OpOK.skip hrun (SimH.put hs hrows hb (by simp[Compat]) rfl rfl rfl (by simp) (fun b' hb'=>setRow_other w b b' _ hb') fun hk=>?_)
        simp only[ORep]
        refine⟨by simpa using o1,by simpa using o2,by simpa using o3,?_,fun h0=>o6 (by simpa using h0),fun b' hb'=>?_⟩
        ·intro r' hr'
         rcases List.mem_or_eq_of_mem_set hr' with h | rfl
         ·exact o4 r' h
         ·simp only[List.length_append,List.length_take,List.length_drop]
          simp only[List.length_map] at hln
          omega
        ·rw[hb] at hb';cases hb'
         refine⟨_,t',vals.set (i - (g.ρ m).drop) (vr.take j++(a.eval y).cells.toList++vr.drop (j+n)),setRow_heap w b cs _ t' _ hw,by simpa using hcap,?_,?_,?_⟩
         ·rw[List.drop_set,if_neg (by omega)]
          have hz:=PRepLL.set (PRepLL.mono hk.fz _ _ hvals) (((PRepL.mono hk.fz _ _ hv2).take j |>.append (PRepL.mono hk.fz _ _ c3)).append ((PRepL.mono hk.fz _ _ hv2).drop (j+n))) (i - (g.ρ m).drop)
          exact hz
         ·rw[←hvl]
          exact RowsAt.write hat hv1 (by rw[hvr];omega) (by rw[hvr];omega)
         ·simp only[List.size_toArray,List.length_append,List.length_take,List.length_drop,Array.length_toList]
          omega
       ·cases hv
      ·cases hv
     ·cases hv
    ·cases hv
   ·cases hv
  ·cases hv
 ·cases hv
end Go.Abs
namespace Go.Abs
open Go
variable {P:Program}
theorem OpOK.new {g:G} {w:World} {H:Heap} {k:Nat} {r:Result Next} (hs:SimH g w H k) (ob:Obj) (o':AObj) (l:Loc) (hl:l.blk=some w.heap.size∨l.blk=none) (v:AV) (x:Value)
  (hr:r= .ok (.value x) {w with heap:=w.heap.push ob})
  (hobj:∀g',g'.ρ k=l→g'.fz=g.fz→Keeps g H k g' ((k,o') :: H) (k+1)→ORep g' ((k,o') :: H) (k+1) k {w with heap:=w.heap.push ob} o')
  (hv:∀g',g'.ρ k=l→ARep g' ((k,o') :: H) (k+1) v x) (hsub:l.sub= []:=by rfl):OpOK g w H k r v ((k,o') :: H) (k+1):=by
 obtain⟨g',h1,h2,h3⟩:=SimH.new hs ob o' l hl hsub (fun g' e hk=>hobj g' (by rw[e];simp) (by rw[e]) hk)
 exact⟨g',_,x,.inl hr,hv g' h1,h2,h3⟩
theorem range_nil:Array.range 0= #[]:=Array.ext' (by simp)
theorem push_get (w:World) (ob:Obj):({w with heap:=w.heap.push ob}:World).heap[w.heap.size]? =some ob:=by simp
theorem Zfg {fz:Nat→Option Obj} {t:TypeId} {zs:List PV} (h:zeroT P t=some zs):∃i z,P.info? t=some i∧i.zero=some z∧PRepL fz zs z.cells.toList:=by
 simp only[zeroT,Option.bind_eq_some_iff] at h
 obtain⟨z,⟨i,h1,h2⟩,h3⟩:=h
 exact⟨i,z,h1,h2,ZfM h3⟩
theorem s_alloc (t:TypeId):Sound P (.alloc t):=by
 intro oo ho g w H k env a op v H' k' hs he hl hv
 simp only[lowOp,Option.map_eq_some_iff] at hl
 obtain⟨zs,hz,rfl⟩:=hl
 obtain⟨i,z,hi,hz',hr⟩:=Zfg (fz:=g.fz) hz
 simp only[aop,Option.some.injEq,Prod.mk.injEq] at hv
 obtain⟨rfl,rfl,rfl⟩:=hv
 refine OpOK.new hs (.cells z.cells t) _ ⟨some w.heap.size,0,0,0,0,[]⟩ (.inl rfl) _ (.pointer (some ⟨w.heap.size,0,none⟩)) ?_ (fun g' h1 h2 hk=>?_) (fun g' h1=>?_)
 ·simp[execOp,ho,Instr.alloc,zeroValue,typeInfo,hi,hz',newVar,newRow]
 ·simp only[ORep]
  exact⟨w.heap.size,z.cells,t,by rw[h1],push_get w _,ARepL.ofP.2 (PRepL.mono hk.fz _ _ hr)⟩
 ·simp only[ARep]
  exact⟨by omega,rfl,fun cs _=>⟨_,by rw[h1],rfl⟩⟩
theorem s_box (t:TypeId) (x:Operand):Sound P (.box t x):=by
 intro oo ho g w H k env a op v H' k' hs he hl hv
 simp only[lowOp,Option.bind_eq_bind,Option.bind_eq_some_iff,Option.pure_def,Option.some.injEq] at hl
 obtain⟨n,hn,y,h1,rfl⟩:=hl
 have r1:=ZaR he h1
 simp only[aop] at hv
 split at hv
 ·rename_i l hl
  obtain⟨c1,c2⟩:=Zf9 r1 hl
  split at hv
  ·simp only[Option.some.injEq,Prod.mk.injEq] at hv
   obtain⟨rfl,rfl,rfl⟩:=hv
   refine OpOK.new hs (.cells (a.eval x).cells t) _ ⟨some w.heap.size,0,0,0,0,[]⟩ (.inl rfl) _ (.pointer (some ⟨w.heap.size,0,none⟩)) ?_ (fun g' h1 h2 hk=>?_) (fun g' h1=>?_)
   ·simp[execOp,ho,Instr.box,newVar,newRow]
   ·simp only[ORep]
    exact⟨w.heap.size,_,t,by rw[h1],push_get w _,ARepL.keeps hk _ _ c1⟩
   ·simp only[ARep]
    exact⟨by omega,rfl,fun cs _=>⟨_,by rw[h1],rfl⟩⟩
  ·cases hv
 ·cases hv
theorem fold_set (off:Nat):∀(l:List Value) (i:Nat) (cs:Array Value),off+i+l.length≤cs.size →
  ((l.zipIdx i).foldl (fun cs (x:Value × Nat)=>cs.setIfInBounds (off+x.2) x.1) cs).toList=cs.toList.take (off+i)++l++cs.toList.drop (off+i+l.length)
 | [],i,cs,_=>by simp
 | v :: l,i,cs,h=>by
  simp only[List.length_cons] at h
  rw[List.zipIdx_cons,List.foldl_cons,fold_set off l (i+1) _ (by simp;omega)]
  have e:=list_seg_step cs.toList (off+i) v l (by simp;omega)
  simpa [Array.toList_setIfInBounds,Nat.add_assoc] using e
theorem fill_step (place:Nat→Option (Nat × Nat)) (cells:Array Value) (i:Nat) (v:Value) (rest:List (Nat × Value)) {off n:Nat} (hp:place i=some (off,n)) (hn:v.cells.size=n) (hf:off+n≤cells.size) :
  Instr.fill place cells ((i,v) :: rest)=Instr.fill place (cells.toList.take off++v.cells.toList++cells.toList.drop (off+n)).toArray rest:=by
 simp only[Instr.fill,hp]
 rw[if_neg (by simp;omega)]
 congr 1
 apply Array.ext'
 have:=fold_set off v.cells.toList 0 cells (by simpa [hn] using hf)
 simp only[Nat.add_zero] at this
 rw[show v.cells.toList.length=n by simpa using hn] at this
 rw[←this]
 congr 1
 rw[←Array.foldl_toList]
 simp[Array.toList_zipIdx]
theorem run_mapM_fields (w:World) (fs:List Field) {l:List (Nat × Nat)} (h:fs.mapM (fun f=>(sizeT P f.type).map fun n=>(f.offset,n))=some l) :
  (fs.mapM (fun f=>do pure (f.offset,←sizeOf f.type):Field→Sem (Nat × Nat))).run P w= .ok l w:=by
 induction fs generalizing l with
 | nil=>simp at h;subst h;simp
 | cons f fs ih =>
  simp only[List.mapM_cons,Option.bind_eq_bind,Option.bind_eq_some_iff,Option.map_eq_some_iff,Option.pure_def,Option.some.injEq] at h
  obtain⟨x,⟨n,h1,rfl⟩,l',h2,rfl⟩:=h
  simp only[List.mapM_cons,Sem.run_bind,Zc6 h1,Result.andThen_ok,Sem.run_pure,ih h2]
theorem fill_ok {g:G} {H:Heap} {k:Nat} {env:Env} {a:Act} (he:∀t,ARep g H k (env.get t) (a.tmps.getD t undef)) (places:Nat→Option (Nat × Nat)) :
  ∀(parts:List (Nat × Operand)) (ps:List (Nat × Nat × RX)) (cells:Array Value) (cs cs':List AV),
   parts.mapM (fun (x:Nat × Operand)=>(do let q←places x.1;pure (q.1,q.2,←lowX x.2):Option (Nat × Nat × RX)))=some ps→ARepL g H k cs cells.toList→fillA (St.ev ⟨env,H,k⟩) ps cs=some cs' →
   ∃cells',Instr.fill places cells (parts.map fun x=>(x.1,a.eval x.2))=some cells'∧ARepL g H k cs' cells'.toList
 | [],ps,cells,cs,cs',hp,hr,hf=>by
  simp at hp;subst hp
  simp only[fillA,Option.some.injEq] at hf
  subst hf
  exact⟨cells,rfl,hr⟩
 | (i,x) :: parts,ps,cells,cs,cs',hp,hr,hf=>by
  simp only[List.mapM_cons,Option.bind_eq_bind,Option.bind_eq_some_iff,Option.pure_def,Option.some.injEq] at hp
  obtain⟨_,⟨⟨off,n⟩,hpl,y,hy,rfl⟩,ps',hps,rfl⟩:=hp
  simp only[fillA] at hf
  split at hf
  ·rename_i l hl
   split at hf
   ·rename_i hc
    obtain⟨c1,c2⟩:=Zf9 (ZaR he hy) hl
    have hsz:(a.eval x).cells.size=n:=by have:=c1.length;simp only[Array.length_toList] at this;omega
    have hcl:cells.size=cs.length:=by have:=hr.length;simpa using this
    simp only[List.map_cons]
    rw[fill_step (off:=off) (n:=n) _ cells i (a.eval x) _ (by simpa using hpl) hsz (by omega)]
    exact fill_ok he places parts ps' _ _ cs' hps (((hr.take off).append c1).append (hr.drop (off+n))) hf
   ·cases hf
  ·cases hf
theorem s_build (t:TypeId) (parts:Array (Nat × Operand)):Sound P (.build t parts):=by
 intro oo ho g w H k env a op v H' k' hs he hl hv
 simp only[lowOp] at hl
 split at hl
 ·rename_i fs hfs
  simp only[Option.bind_eq_bind,Option.bind_eq_some_iff,Option.pure_def,Option.some.injEq] at hl
  obtain⟨places,hpl,ps,hps,zs,hz,rfl⟩:=hl
  obtain⟨i,z,hi,hz',hr⟩:=Zfg (fz:=g.fz) hz
  simp only[aop,Option.map_eq_some_iff] at hv
  obtain⟨cs',hf,e⟩:=hv
  simp only[Prod.mk.injEq] at e
  obtain⟨rfl,rfl,rfl⟩:=e
  obtain⟨cells',h1,h2⟩:=fill_ok he (places.toArray[·]?) parts.toList ps z.cells (zs.map .p) cs' (by simpa using hps) (ARepL.ofP.2 hr) hf
  refine OpOK.same hs (x:= .agg cells') ?_ (Ze2 h2)
  have hm:=run_mapM_fields (P:=P) w fs.toList hpl
  have hm':(fs.mapM (fun f=>do pure (f.offset,←sizeOf f.type):Field→Sem (Nat × Nat))).run P w= .ok places.toArray w:=by
   rw[Array.mapM_eq_mapM_toList]
   simp only[Sem.run_map,hm,Result.andThen_ok]
  simp only[execOp,ho,Instr.build,Sem.run_bind,zeroValue,typeInfo,run_program,hi,hz',Result.andThen_ok,Sem.run_pure,run_underlying hfs,hm']
  rw[show (Array.map (fun x=>match x with | (i,x)=>(i,a.eval x)) parts).toList=parts.toList.map fun x=>(x.1,a.eval x.2) by simp]
  simp only[h1,Sem.run_pure,Result.andThen_ok]
 ·rename_i len e ht
  simp only[Option.bind_eq_bind,Option.bind_eq_some_iff,Option.pure_def,Option.some.injEq] at hl
  obtain⟨n,hn,ps,hps,zs,hz,rfl⟩:=hl
  obtain⟨i,z,hi,hz',hr⟩:=Zfg (fz:=g.fz) hz
  simp only[aop,Option.map_eq_some_iff] at hv
  obtain⟨cs',hf,e'⟩:=hv
  simp only[Prod.mk.injEq] at e'
  obtain⟨rfl,rfl,rfl⟩:=e'
  obtain⟨cells',h1,h2⟩:=fill_ok he (fun i=>some (i*n,n)) parts.toList ps z.cells (zs.map .p) cs' (by simpa using hps) (ARepL.ofP.2 hr) hf
  refine OpOK.same hs (x:= .agg cells') ?_ (Ze2 h2)
  simp only[execOp,ho,Instr.build,Sem.run_bind,zeroValue,typeInfo,run_program,hi,hz',Result.andThen_ok,Sem.run_pure,run_underlying ht,Zc6 hn]
  rw[show (Array.map (fun x=>match x with | (i,x)=>(i,a.eval x)) parts).toList=parts.toList.map fun x=>(x.1,a.eval x.2) by simp]
  simp only[h1,Sem.run_pure,Result.andThen_ok]
 ·cases hl
theorem RowsAt.zeros (z:Array Value) (wd n:Nat) (hz:z.size=wd):RowsAt ((Array.range (n*wd)).map (z[· % z.size]!)) 0 wd (List.replicate n z.toList):=by
 intro i r hr
 have hi:i<n:=by
  rcases Nat.lt_or_ge i n with h | h
  ·exact h
  ·rw[List.getElem?_eq_none (by simpa using h)] at hr;cases hr
 simp only[List.getElem?_replicate,hi,if_true,Option.some.injEq] at hr
 subst hr
 refine⟨by simpa using hz,fun j x hx=>?_⟩
 have hj:j<wd:=by
  rcases Nat.lt_or_ge j wd with h | h
  ·exact h
  ·rw[List.getElem?_eq_none (by simpa [hz] using h)] at hx;cases hx
 have h1:i*wd+j<n*wd:=by
  have:=Nat.mul_le_mul_right wd (Nat.succ_le_of_lt hi)
  simp only[Nat.succ_eq_add_one,Nat.add_mul,Nat.one_mul] at this
  omega
 have h2:(i*wd+j) % wd=j:=by rw[Nat.add_comm,Nat.add_mul_mod_self_right,Nat.mod_eq_of_lt hj]
 simp only[Nat.zero_add]
 rw[Array.getElem?_map]
 simp only[Array.getElem?_range,h1,if_true,Option.map_some,hz,h2]
 simp only[Array.getElem?_toList] at hx
 rw[getElem!_def,hx]
def newLoc (rows:List (List PV)) (b cap wd:Nat):Loc:=⟨if rows= [] then none else some b,0,0,cap,wd,[]⟩
theorem Zgm (rows:List (List PV)) (b cap wd:Nat):(newLoc rows b cap wd).blk=some b∨(newLoc rows b cap wd).blk=none:=by
 unfold newLoc;dsimp;split
 ·exact .inr rfl
 ·exact .inl rfl
theorem ZfR {g:G} {H:Heap} {k:Nat} {w:World} {rows:List (List PV)} {cs:Array Value} {t:TypeId} {vals:List (List Value)} {wd n cap:Nat} (hρ:g.ρ n=newLoc rows w.heap.size cap wd)
  (hlim:rows.length≤lim) (hw:∀r∈rows,r.length=wd) (hcap:rows.length≤cap∧cap≤top) (hv:PRepLL g.fz rows vals) (hat:RowsAt cs 0 wd vals) (hsz:cap*wd≤cs.size) :
  ORep g H k n {w with heap:=w.heap.push (.cells cs t)} (.slice rows):=by
 simp only[ORep,hρ,newLoc]
 refine⟨hlim,Nat.zero_le _,fun h=>?_,hw,fun h=>by simp[h],fun b hb=>?_⟩
 ·rw[if_neg (by rintro rfl;simp at h)];simp
 ·split at hb
  ·cases hb
  ·cases hb
   exact⟨cs,t,vals,push_get w _,hcap,by simpa using hv,hat,by simpa using hsz⟩
theorem osRep_new {g:G} {H:Heap} {k n b cap wd len:Nat} {rows:List (List PV)} (hn:n<k) (hρ:g.ρ n=newLoc rows b cap wd) (hH:H.get n=some (.slice rows)) (hl:rows.length=len) (hc:len≤cap) (h0:rows= []→cap=0) :
  ARep g H k (.os n 0 len) (.slice (some ⟨b,0,none⟩) len cap):=by
 simp only[ARep]
 refine⟨hn,rfl,fun rows' h=>?_⟩
 rw[hH] at h;cases h
 refine⟨by omega,fun _=>⟨some ⟨b,0,none⟩,cap,rfl,hc,?_⟩⟩
 by_cases e:rows= []
 ·exact .inl (h0 e)
 ·exact .inr ⟨b,by simp[hρ,newLoc,e],by simp[hρ,newLoc],by simp[hρ,newLoc],by simp[hρ,newLoc]⟩
theorem fillRows_ok {g:G} {H:Heap} {k:Nat} {env:Env} {a:Act} (he:∀t,ARep g H k (env.get t) (a.tmps.getD t undef)) (wd:Nat) :
    ∀(parts:List (Nat × Operand)) (ps:List (Nat × RX)) (cells:Array Value) (rows rows':List (List PV)) (vals:List (List Value)),
      parts.mapM (fun (x:Nat × Operand)=>(do pure (x.1,←lowX x.2):Option (Nat × RX)))=some ps→PRepLL g.fz rows vals→RowsAt cells 0 wd vals→(∀r∈rows,r.length=wd)→rows.length*wd=cells.size →
      fillRows (St.ev ⟨env,H,k⟩) wd ps rows=some rows' →
      ∃cells' vals',Instr.fill (fun i=>some (i*wd,wd)) cells (parts.map fun x=>(x.1,a.eval x.2))=some cells'∧PRepLL g.fz rows' vals'∧RowsAt cells' 0 wd vals'∧(∀r∈rows',r.length=wd)∧rows'.length=rows.length∧cells'.size=cells.size
  | [],ps,cells,rows,rows',vals,hp,hr,hat,hw,hsz,hf=>by
    simp at hp;subst hp
    simp only[fillRows,Option.some.injEq] at hf
    subst hf
    exact⟨cells,vals,rfl,hr,hat,hw,rfl,rfl⟩
  | (i,x) :: parts,ps,cells,rows,rows',vals,hp,hr,hat,hw,hsz,hf=>by
    simp only[List.mapM_cons,Option.bind_eq_bind,Option.bind_eq_some_iff,Option.pure_def,Option.some.injEq] at hp
    obtain⟨_,⟨y,hy,rfl⟩,ps',hps,rfl⟩:=hp
    simp only[fillRows] at hf
    split at hf
    · rename_i l hl
      split at hf
      · rename_i hc
        simp only[Option.bind_eq_some_iff] at hl
        obtain⟨l0,hl0,hl1⟩:=hl
        have:=Zff hl1
        subst this
        obtain⟨c1,c2⟩:=Zf9 (ZaR he hy) hl0
        have c3:=ARepL.ofP.1 c1
        have hsz':(a.eval x).cells.toList.length=wd:=by have:=c3.length;omega
        have hfit:i*wd+wd≤cells.size:=by
          rw[←hsz]
          have:=Nat.mul_le_mul_right wd (Nat.succ_le_of_lt hc.2)
          simpa [Nat.succ_eq_add_one,Nat.add_mul] using this
        obtain⟨r0,hr0⟩:∃r0,rows[i]? =some r0:=⟨_,List.getElem?_eq_getElem hc.2⟩
        obtain⟨vr,hv1,hv2⟩:=PRepLL.get hr hr0
        have hvr:=(hat _ _ hv1).1
        simp only[List.map_cons]
        rw[fill_step (off:=i*wd) (n:=wd) _ cells i (a.eval x) _ rfl (by simpa using hsz') hfit]
        have hW:=RowsAt.write (j:=0) (l:=(a.eval x).cells.toList) hat hv1 (by omega) (by omega)
        simp only[Nat.zero_add,Nat.add_zero,List.take_zero,List.nil_append,hsz'] at hW
        rw[List.drop_eq_nil_of_le (by omega:vr.length≤wd),List.append_nil] at hW
        obtain⟨cells',vals',f1,f2,f3,f4,f5,f6⟩:=fillRows_ok he wd parts ps' (cells.toList.take (i*wd)++(a.eval x).cells.toList++cells.toList.drop (i*wd+wd)).toArray (rows.set i l) rows' _ hps (PRepLL.set hr c3 i) hW
          (fun r hr'=>by
            rcases List.mem_or_eq_of_mem_set hr' with h | rfl
            · exact hw r h
            · exact hc.1) (by simp only[List.length_set,List.size_toArray,List.length_append,List.length_take,List.length_drop,Array.length_toList,hsz'];simp only[Array.length_toList] at hsz';omega) hf
        refine⟨cells',vals',f1,f2,f3,f4,by simpa using f5,?_⟩
        rw[f6]
        simp only[List.size_toArray,List.length_append,List.length_take,List.length_drop,Array.length_toList,hsz']
        simp only[Array.length_toList] at hsz'
        omega
      · cases hf
    · cases hf
theorem s_buildSlice (t:TypeId) (n:Nat) (parts:Array (Nat × Operand)):Sound P (.buildSlice t n parts):=by
 intro oo ho g w H k env a op v H' k' hs he hl hv
 simp only[lowOp] at hl
 split at hl
 ·rename_i e ht
  simp only[Option.bind_eq_bind,Option.bind_eq_some_iff] at hl
  obtain⟨ps,hps,wd,hwd,hl⟩:=hl
  split at hl
  ·cases hl
  ·rename_i hbig
   simp only[Option.bind_eq_some_iff,Option.pure_def,Option.some.injEq] at hl
   obtain⟨_,hwd',zs,hz,rfl⟩:=hl
   rw[hwd] at hwd';cases hwd'
   obtain⟨i,z,hi,hz',hr⟩:=Zfg (fz:=g.fz) hz
   simp only[aop] at hv
   split at hv
   ·rename_i hzl
    simp only[Option.map_eq_some_iff] at hv
    obtain⟨rows',hf,e'⟩:=hv
    simp only[Prod.mk.injEq] at e'
    obtain⟨rfl,rfl,rfl⟩:=e'
    have hzs:z.cells.size=wd:=by have:=hr.length;simp only[Array.length_toList] at this;omega
    obtain⟨cells',vals',f1,f2,f3,f4,f5,f6⟩:=fillRows_ok he wd parts.toList ps ((Array.range (n*wd)).map (z.cells[· % z.cells.size]!)) (List.replicate n zs) rows' (List.replicate n z.cells.toList) (by simpa using hps)
     (PRepLL.replicate hr n) (RowsAt.zeros z.cells wd n hzs) (fun r hr'=>by rw[List.eq_of_mem_replicate hr'];exact hzl) (by simp) hf
    simp only[List.length_replicate] at f5
    refine OpOK.new hs (.cells cells' e) _ (newLoc rows' w.heap.size n wd) (Zgm _ _ _ _) _ (.slice (some ⟨w.heap.size,0,none⟩) n n) ?_ (fun g' h1 h2 hk=>?_) (fun g' h1=>?_)
    ·have hpm:(Array.map (fun x=>(x.fst,a.eval x.snd)) parts).toList=parts.toList.map fun x=>(x.1,a.eval x.2):=by simp
     have hbig':¬(n*wd>2 ^ 24):=fun h=>hbig (.inr h)
     simp only[execOp,ho,Instr.buildSlice,Sem.run_bind,run_underlying ht,Result.andThen_ok,Zc6 hwd,Sem.run_ite,if_neg hbig',Sem.run_pure]
     by_cases h0:n*wd=0
     ·have f1':Instr.fill (fun i=>some (i*wd,wd)) (Array.map (fun x=>(#[]:Array Value)[x % (#[]:Array Value).size]!) (Array.range (n*wd))) (parts.toList.map fun x=>(x.1,a.eval x.2))=some cells':=by
       rw[←f1,h0,range_nil,Array.map_empty,Array.map_empty]
      rw[if_pos h0]
      simp only[hpm,f1',newRow,Sem.run_bind,run_newObj,Result.andThen_ok,Sem.run_pure]
     ·rw[if_neg h0]
      simp only[zeroValue,typeInfo,Sem.run_bind,run_program,hi,hz',Result.andThen_ok,Sem.run_pure,hpm,f1,newRow,run_newObj]
    ·exact ZfR h1 (by rw[f5];unfold lim;have:¬n>2 ^ 24:=fun h=>hbig (.inl h);omega) f4 ⟨by omega,by unfold top;have:¬n>2 ^ 24:=fun h=>hbig (.inl h);omega⟩ (PRepLL.mono hk.fz _ _ f2) f3 (by simp[f6])
    ·exact osRep_new (by omega) h1 (by simp[Heap.get]) f5 (Nat.le_refl _) (fun h=>by rw[h] at f5;simpa using f5.symm)
   ·cases hv
 ·cases hl
end Go.Abs
