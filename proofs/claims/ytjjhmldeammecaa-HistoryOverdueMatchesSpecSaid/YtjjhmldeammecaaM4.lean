/-
  Abs,part 27:calls that write into one own slice of their caller. Abs,part 29:the walk of a region whose order is open,where some pairs change places because they are not at the same block. Abs,part 30:functions that write into one own slice of their caller:how such a function ends. (and more of this kind).
-/
import Derived.Test.YtjjhmldeammecaaM3
import Derived.Shelf.Spec.SlicesInsert
import Derived.Shelf.Spec.SlicesInsertGrow
namespace Go.Abs
open Go
variable {P:Program}
def AMut (P:Program) (f:FuncId) (xs:List AV) (rows:List (List PV)) (r:AV) (rows':List (List PV)):Prop :=
 ACalls P f xs [(0,.slice rows)] 1 (fun r' H' k'=>r'=r∧H'= [(0,.slice rows')]∧k'=1)
def renA (n:Nat):AV→AV
 | .os 0 off len=> .os n off len
 | x=>x
def own1:AV→Prop
 | .os m _ _=>m=0
 | x=>ZaH 0 x
def own1L:List AV→Prop
 | []=>True
 | x :: r=>own1 x∧own1L r
theorem own1_cases {x:AV} (h:own1 x):(∃off len,x= .os 0 off len)∨ZaH 0 x∧∀n,renA n x=x:=by
 cases x<;>simp only[own1] at h
 case os m off len=>subst h;exact .inl ⟨off,len,rfl⟩
 all_goals exact .inr ⟨h,fun _=>rfl⟩
theorem ren_in {g g0:G} {H:Heap} {k n:Nat} {rows:List (List PV)} (hf:g0.fz=g.fz) (hρ:g0.ρ 0=g.ρ n) (hn:H.get n=some (.slice rows)):∀(xs:List AV) (vs:List Value),own1L xs→ARepL g H k (xs.map (renA n)) vs→ARepL g0 [(0,.slice rows)] 1 xs vs
 | [],_,_,h=>by simpa only[List.map_nil,ARepL] using h
 | x :: xs,vs,ho,h=>by
  simp only[List.map_cons,ARepL,own1L] at *
  obtain⟨v,r,rfl,h1,h2⟩:=h
  refine⟨v,r,rfl,?_,ren_in hf hρ hn xs r ho.2 h2⟩
  rcases own1_cases ho.1 with ⟨off,len,rfl⟩ | ⟨hb,hr⟩
  ·simp only[renA,ARep] at h1 ⊢
   obtain⟨_,h3,h4⟩:=h1
   refine⟨Nat.one_pos,h3,fun rows' hr=>?_⟩
   simp only[Heap.get,if_true,Option.some.injEq,AObj.slice.injEq] at hr
   subst hr
   rw[hρ];exact h4 _ hn
  ·rw[hr] at h1
   exact Zew hf x v hb h1
open Classical in
theorem ZaV {f:FuncId} {xs:List AV} {r:AV} {rows rows':List (List PV)} {avs:List AV} {H:Heap} {k:Nat} {K:AV→Heap→Nat→Prop} (hc:AMut P f xs rows r rows') (n:Nat) (hn:H.get n=some (.slice rows)) (hx:avs=xs.map (renA n)) (hxs:own1L xs) (hr:own1 r)
    (hK:K (renA n r) (H.set n (.slice rows')) k):ACalls P f avs H k K:=by
  subst hx
  intro g w args hs ha
  obtain⟨q1,q2,q3⟩:=hs.obj n _ hn
  let g0:G:=⟨fun _=>g.ρ n,g.fz⟩
  have h0get:∀m,Heap.get [(0,AObj.slice rows)] m≠none→m=0:=fun m h=>by
    simp only[Heap.get] at h
    split at h
    · rename_i e;exact e.symm
    · exact absurd rfl h
  have hs0:SimH g0 w [(0,.slice rows)] 1:=by
    refine⟨fun m o h=>?_,fun m m' b h1 h2 _ _=>by rw[h0get m h1,h0get m' h2],hs.fz⟩
    have hm:m=0:=h0get m (by rw[h];simp)
    subst hm
    simp only[Heap.get,if_true,Option.some.injEq] at h
    subst h
    refine⟨Nat.one_pos,?_,fun b hb=>q3 b hb⟩
    simp only[ORep] at q2 ⊢
    exact q2
  refine (hc g0 w args hs0 (ren_in (g:=g) (g0:=g0) (n:=n) rfl rfl hn _ _ hxs ha)).mono ?_
  rintro e w' ⟨v,r',g',H',k',rfl,⟨rfl,rfl,rfl⟩,h1,h2,h3⟩
  have hname:∀b,(g'.ρ 0).blk=some b→(g.ρ n).blk=some b∨w.heap.size≤b:=fun b hb=>by
    rcases h3.blks 0 b (by simp[Heap.get]) hb with ⟨m,_,h5⟩ | h5
    · exact .inl h5
    · exact .inr h5
  have hnew:∀b o,g'.fz b=some o→g.fz b=some o∨(g.ρ n).blk=some b∨w.heap.size≤b:=fun b o h=>by
    rcases h3.fzNew b o h with h | ⟨m,_,h5⟩ | h5
    · exact .inl h
    · exact .inr (.inl h5)
    · exact .inr (.inr h5)
  have hcomp:Compat (g.ρ n) (g'.ρ 0) (.slice rows) (.slice rows'):=h3.compat 0 _ _ Nat.one_pos (by simp[Heap.get]) (by simp[Heap.get])
  obtain⟨p1,p2,p3⟩:=h2.obj 0 (.slice rows') (by simp[Heap.get])
  let g2:G:=⟨fun m=>if m=n then g'.ρ 0 else g.ρ m,g'.fz⟩
  have e2:g2.ρ n=g'.ρ 0:=if_pos rfl
  have e3:∀m,m≠n→g2.ρ m=g.ρ m:=fun m h=>if_neg h
  have hget:∀m,(H.set n (.slice rows')).get m=if n=m then some (.slice rows') else H.get m:=fun m=>by
    rw[Heap.get_set]
    by_cases h:n=m
    · rw[if_pos ⟨h,by rw[hn];simp⟩,if_pos h]
    · rw[if_neg (fun e=>h e.1),if_neg h]
  have hk:Keeps g H k g2 (H.set n (.slice rows')) k:=by
    refine⟨Nat.le_refl _,h3.fz,fun m o' hm ho=>?_⟩
    rw[hget] at ho
    by_cases h:n=m
    · subst h
      rw[if_pos rfl] at ho;cases ho
      exact⟨_,hn,by rw[e2];exact hcomp⟩
    · rw[if_neg h] at ho
      exact⟨o',ho,by rw[e3 m (Ne.symm h)];exact Compat.refl _ _⟩
  have hother:∀m o,m≠n→H.get m=some o→∀b,(g.ρ m).blk=some b→g'.fz b=none∧(g.ρ n).blk≠some b∧b<w.heap.size:=fun m o hm ho b hb=>by
    obtain⟨_,_,t3⟩:=hs.obj m o ho
    have hne:(g.ρ n).blk≠some b:=fun e=>hm (hs.inj m n b (by rw[ho];simp) (by rw[hn];simp) hb e)
    refine⟨?_,hne,(t3 b hb).2⟩
    cases e:g'.fz b with
    | none=>rfl
    | some o' =>
      rcases hnew b o' e with h5 | h5 | h5
      · rw[(t3 b hb).1] at h5;cases h5
      · exact absurd h5 hne
      · have:=(t3 b hb).2;omega
  have hfr:∀b,b<w.heap.size→(g.ρ n).blk≠some b→w'.heap[b]? =w.heap[b]? :=fun b hb hne=>h3.frame b hb (fun m hm=>hne)
  have hsz:=h3.size
  refine⟨v,renA n r',g2,H.set n (.slice rows'),k,rfl,hK,?_,⟨fun m o h=>?_,fun m m' b h4 h5 h6 h7=>?_,h2.fz⟩,?_⟩
  · rcases own1_cases hr with ⟨off,len,rfl⟩ | ⟨hb,hr⟩
    · simp only[renA,ARep] at h1 ⊢
      obtain⟨_,h4,h5⟩:=h1
      refine⟨q1,h4,fun rows2 hr=>?_⟩
      rw[hget,if_pos rfl] at hr
      cases hr
      rw[e2];exact h5 _ (by simp[Heap.get])
    · rw[hr];exact Zew (g:=g') (g':=g2) rfl _ _ hb h1
  · rw[hget] at h
    by_cases hm:n=m
    · subst hm
      rw[if_pos rfl] at h;cases h
      refine⟨q1,?_,fun b hb=>by rw[e2] at hb;exact p3 b hb⟩
      simp only[ORep] at p2 ⊢
      rw[e2];exact p2
    · rw[if_neg hm] at h
      obtain⟨t1,t2,t3⟩:=hs.obj m o h
      have ho:=hother m o (Ne.symm hm) h
      refine⟨t1,ORep.keeps hk (e3 m (Ne.symm hm)) (fun b hb=>hfr b (ho b hb).2.2 (ho b hb).2.1) t2,fun b hb=>?_⟩
      rw[e3 m (Ne.symm hm)] at hb
      exact⟨(ho b hb).1,Nat.lt_of_lt_of_le (ho b hb).2.2 hsz⟩
  · have key:∀m,m≠n→H.get m≠none→(g.ρ m).blk=some b→(g'.ρ 0).blk=some b→False:=fun m hm hg hb hb'=>by
      cases ho:H.get m with
      | none=>exact hg ho
      | some o =>
        have ht:=hother m o hm ho b hb
        rcases hname b hb' with h8 | h8
        · exact ht.2.1 h8
        · have:=ht.2.2;omega
    rw[hget] at h4 h5
    by_cases hm:n=m<;>by_cases hm':n=m'
    · rw[←hm,←hm']
    · subst hm
      rw[if_neg hm'] at h5
      rw[e2] at h6;rw[e3 m' (Ne.symm hm')] at h7
      exact (key m' (Ne.symm hm') h5 h7 h6).elim
    · subst hm'
      rw[if_neg hm] at h4
      rw[e2] at h7;rw[e3 m (Ne.symm hm)] at h6
      exact (key m (Ne.symm hm) h4 h6 h7).elim
    · rw[if_neg hm] at h4;rw[if_neg hm'] at h5
      rw[e3 m (Ne.symm hm)] at h6;rw[e3 m' (Ne.symm hm')] at h7
      exact hs.inj m m' b h4 h5 h6 h7
  · exact { kle:=Nat.le_refl _,os:=h3.os,tape:=h3.tape,output:=h3.output,size:=hsz,fz:=h3.fz
            fzNew:=fun b o h=>(hnew b o h).imp id (Or.imp (fun h5=>⟨n,by rw[hn];simp,h5⟩) id)
            frame:=fun b hb hno=>hfr b hb (hno n (by rw[hn];simp))
            names:=fun m _ hm=>e3 m (fun e=>by subst e;rw[hn] at hm;cases hm)
            dom:=fun m _ hm=>by
              rw[hget,if_neg (fun e=>by subst e;rw[hn] at hm;cases hm)];exact hm
            compat:=fun m o o' _ h h'=>by
              rw[hget] at h'
              by_cases hm:n=m
              · subst hm
                rw[if_pos rfl] at h';cases h'
                rw[hn] at h;cases h
                rw[e2];exact hcomp
              · rw[if_neg hm,h] at h';cases h'
                rw[e3 m (Ne.symm hm)];exact Compat.refl _ _
            blks:=fun m b h h'=>by
              rw[hget] at h
              by_cases hm:n=m
              · subst hm
                rw[e2] at h'
                exact (hname b h').imp (fun h5=>⟨n,by rw[hn];simp,h5⟩) id
              · rw[if_neg hm] at h
                rw[e3 m (Ne.symm hm)] at h'
                exact .inl ⟨m,h,h'⟩}
end Go.Abs
namespace Go.Abs
open Go
variable {P:Program}
def SoftAll (P:Program) (ls:List LOp) (e:RX→AV) (k0:Nat):List (Nat × Nat)→Prop
 | []=>True
 | p :: r=>(match ls[p.1]?,ls[p.2]? with | some a,some b=>SoftOK P e k0 a b | _,_=>True)∧SoftAll P ls e k0 r
theorem SoftAll.at {ls:List LOp} {e:RX→AV} {k0:Nat}:∀ {ps:List (Nat × Nat)},SoftAll P ls e k0 ps→∀p∈ps,∀a b,ls[p.1]? =some a→ls[p.2]? =some b→SoftOK P e k0 a b
 | [],_,p,hp,_,_,_,_=>by cases hp
 | q :: r,h,p,hp,a,b,ha,hb=>by
  cases hp with
  | head=>have:=h.1;rw[ha,hb] at this;exact this
  | tail _ hp=>exact SoftAll.at h.2 p hp a b ha hb
theorem aw_x {nt:Nat} {ps:List (Nat × Nat)} {ls:List LOp} {Q:RExit→St→Prop} {st:St} (h:vD P ls st (fun s=>SoftAll P ls s.ev st.k ps∧Q .normal s)):AWr P nt (.soft ps ls) Q st :=
 aw_soft (vS_mono (fun _ hs=>⟨SoftAll.at hs.1,hs.2⟩) (vD_vS h))
theorem aw_sx {nt:Nat} {ps:List (Nat × Nat)} {ls:List LOp} {y:RCode} {Q:RExit→St→Prop} {st:St} (h:vD P ls st (fun s=>SoftAll P ls s.ev st.k ps∧AWr P nt y Q s)):AWr P nt (.seq (.soft ps ls) y) Q st:=ZgA (aw_x h)
theorem aw_sxH {nt:Nat} {ps:List (Nat × Nat)} {ls:List LOp} {y:RCode} {Q:RExit→St→Prop} {st:St} (h:∀K,IsK K (fun s=>SoftAll P ls s.ev st.k ps∧AWr P nt y Q s)→vD P ls st K):AWr P nt (.seq (.soft ps ls) y) Q st :=
 aw_sx (h _ ⟨rfl⟩)
theorem SoftOK.rw {e:RX→AV} {k0:Nat} {a b:LOp} {ns ms:List Nat} (h1:rdN e a.op=some ns) (h2:wrN e b.op=some ms) (h:∀n∈ns,n<k0∧n ∉ ms):SoftOK P e k0 a b:= .inl ⟨ns,ms,.inl ⟨h1,h2⟩,h⟩
theorem SoftOK.wr {e:RX→AV} {k0:Nat} {a b:LOp} {ns ms:List Nat} (h1:rdN e b.op=some ns) (h2:wrN e a.op=some ms) (h:∀n∈ns,n<k0∧n ∉ ms):SoftOK P e k0 a b:= .inl ⟨ns,ms,.inr ⟨h1,h2⟩,h⟩
theorem CallOK.mk {e:RX→AV} {o:LOp} {f:FuncId} {args:List RX} {xs:List AV} {r:AV} (ho:o.op= .call f args) (hc:APure P f xs r) (hx:args.map e=xs) (hxs:ZaC 0 xs) (hr:ZaH 0 r) (hd:∀d,o.dst=some d→e (.t d)=r):CallOK P e o :=
 ⟨f,args,r,ho,fun _ _=>Zar hc hx hxs hr ⟨rfl,rfl,rfl⟩,hd⟩
theorem SoftOK.ca {e:RX→AV} {k0:Nat} {a b:LOp} (h:CallOK P e a) (hm:b.op.moves=true):SoftOK P e k0 a b:= .inr (.inl ⟨h,hm⟩)
theorem SoftOK.cb {e:RX→AV} {k0:Nat} {a b:LOp} (h:CallOK P e b) (hm:a.op.moves=true):SoftOK P e k0 a b:= .inr (.inr ⟨h,hm⟩)
end Go.Abs
namespace Go.Abs
open Go
variable {P:Program}
def FinM (rs:List RRes) (s:St) (r:AV) (rows':List (List PV)):Prop :=
 match resv rs s with
 | some r'=>r'=r∧ZaH 1 r∧s.H.get 0=some (.slice rows')
 | none=>False
theorem amut {f:FuncId} {rf:RFun} (hl:lowF P f=some rf) {xs:List AV} {r:AV} {rows rows':List (List PV)} (hn:xs.length=rf.np)
  (h:AWr P rf.nt rf.code (fun e s=>match e with | .exit _=>False | _=>FinM rf.res s r rows') ⟨ZaG 0 xs,[(0,.slice rows)],1⟩):AMut P f xs rows r rows':=by
 have key:∀s,FinM rf.res s r rows'→Fin rf.res s 1 (fun r' H' k'=>r'=r∧H'= [(0,.slice rows')]∧k'=1):=by
  intro s h
  unfold FinM at h
  unfold Fin
  cases hr:resv rf.res s with
  | none=>rw[hr] at h;exact h.elim
  | some r' =>
   rw[hr] at h
   obtain⟨rfl,h2,h3⟩:=h
   exact⟨r',[(0,.slice rows')],1,RUpd.sub (Nat.le_refl _) h2 ⟨h3,Nat.one_pos,trivial,trivial⟩,rfl,rfl,rfl⟩
 refine afun hl hn (Zd5 h ?_)
 intro e s hs
 cases e with
 | exit id=>exact hs
 | normal=>exact key s hs
 | ret=>exact key s hs
def chk (b:Bool):Option Unit:=if b=true then some () else none
theorem chk_some {b:Bool} {u:Unit} (h:chk b=some u):b=true:=by
 unfold chk at h;split at h
 ·assumption
 ·cases h
theorem Za9 {m n:Nat} {u:Unit} (h:chk (m == n)=some u):m=n:=by simpa using chk_some h
theorem ZbB {m n:Nat} (h:m=n):chk (m == n)=some ():=if_pos (by simpa using h)
def AOwn (P:Program) (f:FuncId) (xs:List AV) (rows:List (List PV)):Prop :=
 ACalls P f xs [] 0 (fun r' H' k'=>∃n,r'= .os n 0 rows.length∧H'= [(n,.slice rows)]∧k'=n+1)
def FinO (rs:List RRes) (s:St) (rows:List (List PV)):Prop :=
 match resv rs s with
 | some (.os n off len)=>off=0∧len=rows.length∧s.H.get n=some (.slice rows)
 | some (.p (.c (.slice none 0 0)))=>rows= []
 | _=>False
theorem aown {f:FuncId} {rf:RFun} (hl:lowF P f=some rf) {xs:List AV} {rows:List (List PV)} (hn:xs.length=rf.np)
  (h:AWr P rf.nt rf.code (fun e s=>match e with | .exit _=>False | _=>FinO rf.res s rows) ⟨ZaG 0 xs,[],0⟩):AOwn P f xs rows:=by
 have key:∀s,FinO rf.res s rows→Fin rf.res s 0 (fun r' H' k'=>∃n,r'= .os n 0 rows.length∧H'= [(n,.slice rows)]∧k'=n+1):=by
  intro s h
  unfold FinO at h
  unfold Fin
  cases hr:resv rf.res s with
  | none=>rw[hr] at h;exact h.elim
  | some r' =>
   rw[hr] at h
   split at h
   ·rename_i n off len e
    cases e
    obtain⟨rfl,rfl,h3⟩:=h
    exact⟨_,[(n,.slice rows)],n+1,RUpd.sub (Nat.zero_le _) (Nat.lt_succ_self n) ⟨h3,Nat.lt_succ_self n,trivial,trivial⟩,n,rfl,rfl,rfl⟩
   ·rename_i e
    cases e
    subst h
    refine⟨_,[(s.k,.slice [])],s.k+1,fun g w v hs hv=>?_,s.k,rfl,rfl,rfl⟩
    obtain⟨g',h1,h2,h3,h4⟩:=own_new hs
    have hH:∀n o,Heap.get [(s.k,AObj.slice [])] n=some o→Heap.get ((s.k,AObj.slice []) :: s.H) n=some o:=fun n o h=>by
     simp only[Heap.get] at h ⊢
     split
     ·rename_i e;rw[if_pos e] at h;exact h
     ·rename_i e;rw[if_neg e] at h;cases h
    rw[Zdm hv]
    refine⟨g',h2.sub hH (fun n o h=>?_),ARep.sub hH _ _ h4 (Nat.lt_succ_self _),fun g0 w0 H0 e=>(e.trans h3).sub hH (Nat.zero_le _)⟩
    simp only[Heap.get] at h
    split at h
    ·rename_i e;cases h;exact⟨by omega,trivial⟩
    ·cases h
   ·exact h.elim
 refine afun hl hn (Zd5 h ?_)
 intro e s hs
 cases e with
 | exit id=>exact hs
 | normal=>exact key s hs
 | ret=>exact key s hs
theorem call_new {f:FuncId} {xs:List AV} {rows:List (List PV)} {avs:List AV} {H:Heap} {k:Nat} {K:AV→Heap→Nat→Prop} (hc:AOwn P f xs rows) (hx:avs=xs) (hxs:ZaC 0 xs)
    (hK:K (.os k 0 rows.length) ((k,.slice rows) :: H) (k+1)):ACalls P f avs H k K:=by
  subst hx
  intro g w args hs ha
  refine (hc g w args (hs.nil 0) (Zdp rfl _ _ hxs ha)).mono ?_
  rintro e w' ⟨v,r',g',H',k',rfl,⟨n,rfl,rfl,rfl⟩,h1,h2,h3⟩
  have hfr:∀b,b<w.heap.size→w'.heap[b]? =w.heap[b]? :=fun b hb=>h3.frame b hb (fun n h=>absurd rfl h)
  have hgetn:Heap.get [(n,AObj.slice rows)] n=some (.slice rows):=by simp[Heap.get]
  have hblk:∀b,(g'.ρ n).blk=some b→w.heap.size≤b:=fun b hb=>by
    rcases h3.blks n b (by rw[hgetn];simp) hb with ⟨m,h5,_⟩ | h5
    · exact absurd rfl h5
    · exact h5
  have hnew:∀b o,g'.fz b=some o→g.fz b=some o∨w.heap.size≤b:=fun b o h=>by
    rcases h3.fzNew b o h with h | ⟨m,h5,_⟩ | h5
    · exact .inl h
    · exact absurd rfl h5
    · exact .inr h5
  have hkn:H.get k=none:=by
    cases h:H.get k with
    | none=>rfl
    | some o=>have:=(hs.obj k o h).1;omega
  let g2:G:=⟨fun m=>if m=k then g'.ρ n else g.ρ m,g'.fz⟩
  have e2:g2.ρ k=g'.ρ n:=if_pos rfl
  have e3:∀m,m≠k→g2.ρ m=g.ρ m:=fun m h=>if_neg h
  have hget:∀m,m≠k→Heap.get ((k,AObj.slice rows) :: H) m=H.get m:=fun m h=>by simp[Heap.get,Ne.symm h]
  have hgetk:Heap.get ((k,AObj.slice rows) :: H) k=some (.slice rows):=by simp[Heap.get]
  have hlt:∀m,H.get m≠none→m≠k:=fun m h e=>h (e▸hkn)
  have hk:Keeps g H k g2 ((k,.slice rows) :: H) (k+1):=by
    refine⟨Nat.le_succ _,h3.fz,fun m o' hm ho=>?_⟩
    have hne:m≠k:=Nat.ne_of_lt hm
    rw[hget m hne] at ho
    exact⟨o',ho,by rw[e3 m hne];exact Compat.refl _ _⟩
  obtain⟨p1,p2,p3⟩:=h2.obj n _ hgetn
  have hsz:=h3.size
  refine⟨v,_,g2,_,_,rfl,hK,?_,⟨fun m o h=>?_,fun m m' b h4 h5 h6 h7=>?_,h2.fz⟩,?_⟩
  · simp only[ARep] at h1 ⊢
    obtain⟨_,h4,h5⟩:=h1
    refine⟨Nat.lt_succ_self _,h4,fun rows2 hr=>?_⟩
    rw[hgetk] at hr
    cases hr
    rw[e2];exact h5 _ hgetn
  · by_cases hm:m=k
    · subst hm
      rw[hgetk] at h;cases h
      refine⟨Nat.lt_succ_self _,?_,fun b hb=>by rw[e2] at hb;exact p3 b hb⟩
      simp only[ORep] at p2 ⊢
      rw[e2];exact p2
    · rw[hget m hm] at h
      obtain⟨t1,t2,t3⟩:=hs.obj m o h
      refine⟨Nat.lt_succ_of_lt t1,ORep.keeps hk (e3 m hm) (fun b hb=>hfr b (t3 b hb).2) t2,fun b hb=>?_⟩
      rw[e3 m hm] at hb
      refine⟨?_,Nat.lt_of_lt_of_le (t3 b hb).2 hsz⟩
      cases e:g'.fz b with
      | none=>rfl
      | some o' =>
        rcases hnew b o' e with h5 | h5
        · rw[(t3 b hb).1] at h5;cases h5
        · have:=(t3 b hb).2;omega
  · have key:∀m,m≠k→Heap.get ((k,AObj.slice rows) :: H) m≠none→(g2.ρ m).blk=some b→(g'.ρ n).blk=some b→False:=fun m hm hg hb hb'=>by
      rw[hget m hm] at hg
      rw[e3 m hm] at hb
      cases ho:H.get m with
      | none=>exact hg ho
      | some o =>
        have h8:=((hs.obj m o ho).2.2 b hb).2
        have:=hblk b hb'
        omega
    by_cases hm:m=k<;>by_cases hm':m'=k
    · rw[hm,hm']
    · subst hm
      rw[e2] at h6
      exact (key m' hm' h5 h7 h6).elim
    · subst hm'
      rw[e2] at h7
      exact (key m hm h4 h6 h7).elim
    · rw[hget m hm] at h4;rw[hget m' hm'] at h5
      rw[e3 m hm] at h6;rw[e3 m' hm'] at h7
      exact hs.inj m m' b h4 h5 h6 h7
  · exact { kle:=Nat.le_succ _,os:=h3.os,tape:=h3.tape,output:=h3.output,size:=hsz,fz:=h3.fz
            fzNew:=fun b o h=>(hnew b o h).imp id .inr
            frame:=fun b hb _=>hfr b hb
            names:=fun m hm _=>e3 m (Nat.ne_of_lt hm)
            dom:=fun m hm h=>by rw[hget m (Nat.ne_of_lt hm)];exact h
            compat:=fun m o o' hm h h'=>by
              rw[hget m (Nat.ne_of_lt hm),h] at h';cases h'
              rw[e3 m (Nat.ne_of_lt hm)];exact Compat.refl _ _
            blks:=fun m b h h'=>by
              by_cases hm:m=k
              · subst hm
                rw[e2] at h'
                exact .inr (hblk b h')
              · rw[hget m hm] at h
                rw[e3 m hm] at h'
                exact .inl ⟨m,h,h'⟩}
theorem renA_p (n:Nat) (x:PV):renA n (.p x)= .p x:=rfl
theorem renA_os (n off len:Nat):renA n (.os 0 off len)= .os n off len:=rfl
theorem renA_fn (n:Nat) (f:Fn) (a b:List AV):renA n (.fn f a b)= .fn f a b:=rfl
theorem renA_tup (n:Nat) (l:List AV):renA n (.tup l)= .tup l:=rfl
theorem own1_p (x:PV):own1 (.p x)=True:=rfl
theorem own1_os (off len:Nat):own1 (.os 0 off len)=True:=eq_true rfl
theorem own1_fn (f:Fn) (a b:List AV):own1 (.fn f a b)=(ZaC 0 a∧ZaC 0 b):=rfl
theorem own1_tup (l:List AV):own1 (.tup l)=ZaC 0 l:=rfl
attribute [go_sem] renA_p renA_os renA_fn renA_tup own1_p own1_os own1_fn own1_tup own1L FinM FinO
end Go.Abs
namespace Go.Abs
open Go
def Out {τ ρ:Type} (B:τ→Prop) (R:ρ→Prop):Sum τ ρ→Prop
 | .inl t=>B t
 | .inr r=>R r
def OutE {σ τ ρ:Type} (N:σ→Prop) (B:τ→Prop) (R:ρ→Prop):Ex σ τ ρ→Prop
 | .next s=>N s
 | .brk t=>B t
 | .ret r=>R r
theorem ZaZ {σ τ ρ:Type} {body:σ→Option (Ex σ τ ρ)} (I:σ→Prop) (μ:σ→Nat) {B:τ→Prop} {R:ρ→Prop}
  (h:∀s,I s→∃z,body s=some z∧OutE (fun s'=>I s'∧μ s'<μ s) B R z):∀s,I s→∃y,loopW body s=some y∧Out B R y:=by
 have:∀n s,μ s≤n→I s→∃y,loopW body s=some y∧Out B R y:=by
  intro n
  induction n with
  | zero =>
   intro s hn hs
   obtain⟨z,h1,h2⟩:=h s hs
   rw[Zd9,h1]
   cases z with
   | next s'=>exact absurd h2.2 (by omega)
   | brk t=>exact⟨_,rfl,h2⟩
   | ret r=>exact⟨_,rfl,h2⟩
  | succ n ih =>
   intro s hn hs
   obtain⟨z,h1,h2⟩:=h s hs
   rw[Zd9,h1]
   cases z with
   | next s'=>exact ih s' (by have:=h2.2;omega) h2.1
   | brk t=>exact⟨_,rfl,h2⟩
   | ret r=>exact⟨_,rfl,h2⟩
 exact fun s hs=>this _ s (Nat.le_refl _) hs
theorem forN_inv' {σ τ ρ:Type} {body:Nat→σ→Option (Ex σ τ ρ)} {fin:σ→τ} (N:Nat) (I:Nat→σ→Prop) {B:τ→Prop} {R:ρ→Prop}
  (h:∀i s,i<N→I i s→∃z,body i s=some z∧OutE (I (i+1)) B R z) (he:∀s,I N s→B (fin s)):∀n i s,i+n=N→I i s→∃y,forN body fin n i s=some y∧Out B R y:=by
 intro n
 induction n with
 | zero=>intro i s hn hs;exact⟨_,rfl,he s (by rw[←hn];exact hs)⟩
 | succ n ih =>
  intro i s hn hs
  obtain⟨z,h1,h2⟩:=h i s (by omega) hs
  simp only[forN,h1,Option.bind_some]
  cases z with
  | next s'=>exact ih (i+1) s' (by omega) h2
  | brk t=>exact⟨_,rfl,h2⟩
  | ret r=>exact⟨_,rfl,h2⟩
theorem forN_inv {σ τ ρ:Type} {body:Nat→σ→Option (Ex σ τ ρ)} {fin:σ→τ} {N:Nat} (I:Nat→σ→Prop) {B:τ→Prop} {R:ρ→Prop} {s:σ} (h0:I 0 s)
  (h:∀i s,i<N→I i s→∃z,body i s=some z∧OutE (I (i+1)) B R z) (he:∀s,I N s→B (fin s)):∃y,forN body fin N 0 s=some y∧Out B R y :=
 forN_inv' N I h he N 0 s (by omega) h0
theorem ZaL {τ ρ:Type} {o:Option (Sum τ ρ)} {k:τ→Option ρ} {B:τ→Prop} {R:ρ→Prop} {Q:ρ→Prop} (h:∃y,o=some y∧Out B R y) (hk:∀t,B t→∃r,k t=some r∧Q r) (hr:∀r,R r→Q r):∃r,seqK o k=some r∧Q r:=by
 obtain⟨y,rfl,hy⟩:=h
 cases y with
 | inl t=>exact hk t hy
 | inr r=>exact⟨r,rfl,hr r hy⟩
def sw (i j k:Nat):Nat:=if k=i then j else if k=j then i else k
theorem sw_l (i j:Nat):sw i j i=j:=if_pos rfl
theorem sw_r (i j:Nat):sw i j j=i:=by
 unfold sw;split
 ·assumption
 ·exact if_pos rfl
theorem sw_o {i j k:Nat} (h1:k≠i) (h2:k≠j):sw i j k=k:=by unfold sw;rw[if_neg h1,if_neg h2]
theorem Zcz {α:Type} {d:List α} {i j:Nat} {x y:α} (hi:d[i]? =some x) (hj:d[j]? =some y) (k:Nat):((d.set i y).set j x)[k]? =d[sw i j k]? :=by
 have h1:=ZaB hi
 have h2:=ZaB hj
 simp only[List.getElem?_set,List.length_set,sw]
 by_cases h:j=k
 ·subst h
  by_cases h':j=i
  ·subst h';simp[h1,←hi]
  ·simp[h2,h',hi]
 ·by_cases h':i=k
  ·subst h';simp[h,h1,hj]
  ·simp[h,h',Ne.symm h,Ne.symm h']
theorem Zgd {α:Type} {d:List α} {i j:Nat} {x y:α} (hi:d[i]? =some x) (hj:d[j]? =some y):d.Perm ((d.set i y).set j x):=by
 have h1:=ZaB hi
 have h2:=ZaB hj
 rw[List.getElem?_eq_getElem h1] at hi;cases hi
 rw[List.getElem?_eq_getElem h2] at hj;cases hj
 exact (List.set_set_perm h1 h2).symm
structure RP {α:Type} (a b:Nat) (d e:List α):Prop where
 perm:d.Perm e
 out:∀i,(i<a∨b≤i)→e[i]? =d[i]?
theorem RP.refl {α:Type} (a b:Nat) (d:List α):RP a b d d:=⟨.refl _,fun _ _=>rfl⟩
theorem RP.trans {α:Type} {a b:Nat} {d e f:List α} (h:RP a b d e) (h':RP a b e f):RP a b d f:=⟨h.perm.trans h'.perm,fun i hi=>(h'.out i hi).trans (h.out i hi)⟩
theorem RP.mono {α:Type} {a b a' b':Nat} {d e:List α} (h:RP a b d e) (ha:a'≤a) (hb:b≤b'):RP a' b' d e:=⟨h.perm,fun i hi=>h.out i (by omega)⟩
theorem RP.len {α:Type} {a b:Nat} {d e:List α} (h:RP a b d e):e.length=d.length:=h.perm.length_eq.symm
theorem RP.swap {α:Type} {a b:Nat} {d:List α} {i j:Nat} {x y:α} (hi:d[i]? =some x) (hj:d[j]? =some y) (h1:a≤i∧i<b) (h2:a≤j∧j<b):RP a b d ((d.set i y).set j x) :=
 ⟨Zgd hi hj,fun k hk=>by rw[Zcz hi hj,sw,if_neg (by omega),if_neg (by omega)]⟩
theorem RP.mid {α:Type} {a b:Nat} {d e:List α} (h:RP a b d e) (hab:a≤b):((d.take b).drop a).Perm ((e.take b).drop a):=by
 have ht:e.take a=d.take a:=List.ext_getElem? fun i=>by
  simp only[List.getElem?_take]
  split
  ·rw[h.out i (by omega)]
  ·rfl
 have hd:e.drop b=d.drop b:=List.ext_getElem? fun i=>by
  simp only[List.getElem?_drop]
  rw[h.out _ (by omega)]
 have key:∀l:List α,l.take a++((l.take b).drop a++l.drop b)=l:=fun l=>by
  rw[←List.append_assoc]
  have:l.take a++(l.take b).drop a=l.take b:=by
   conv=>rhs;rw[←List.take_append_drop a (l.take b)]
   rw[List.take_take,Nat.min_eq_left hab]
  rw[this,List.take_append_drop]
 have hp:=h.perm
 rw[←key d,←key e,ht,hd] at hp
 exact (List.perm_append_right_iff _).1 ((List.perm_append_left_iff _).1 hp)
theorem RP.all {α:Type} {a b:Nat} {d e:List α} (h:RP a b d e) {p:α→Prop} (hp:∀i x,a≤i→i<b→d[i]? =some x→p x):∀i x,a≤i→i<b→e[i]? =some x→p x:=by
 intro i x h1 h2 h3
 have hm:x∈(e.take b).drop a:=by
  rw[List.mem_iff_getElem?]
  exact⟨i - a,by rw[List.getElem?_drop,List.getElem?_take,if_pos (by omega),show a+(i - a)=i by omega];exact h3⟩
 have:=(h.mid (by omega)).symm.subset hm
 rw[List.mem_iff_getElem?] at this
 obtain⟨k,hk⟩:=this
 rw[List.getElem?_drop,List.getElem?_take] at hk
 split at hk
 ·exact hp _ _ (by omega) (by assumption) hk
 ·cases hk
end Go.Abs
namespace Go.Abs
open Go
variable {P:Program}
def remO (ord:List Nat) (listed:Array Bool):List Nat:=ord.filter fun i=> !listed.getD i true
theorem idxOf_ne {a b:Nat} {l:List Nat} (h:b≠a):(b :: l).idxOf a=l.idxOf a+1:=by
 rw[List.idxOf_cons,show (b == a)=false by simp[h]];rfl
theorem mem_remO {i:Nat} {ord:List Nat} {listed:Array Bool}:i∈remO ord listed↔i∈ord∧listed.getD i true=false:=by
 simp[remO]
theorem draw_goO {nt:Nat} {ops:Array Oper} {ls:List LOp} (hls:ops.toList.mapM (lowOper P nt ops)=some ls) (hback:∀i o,ops[i]? =some o→∀e∈o.after,Region.binds .any e=true→e.on<i) {sf:St} {kk:Nat} {ord:List Nat} {pp qq:Nat} (hne:pp≠qq) {B:Nat→Nat→Prop} (hpw:ord.Pairwise B) (hnd:ord.Nodup) (hmo:∀i,i∈ord↔i<ops.size) (hpair:∀i j a b,B j i→ls[j]? =some a→ls[i]? =some b→((masks ops.toList #[]).getD i 0).testBit j=true∨Comm P sf kk a b∨(j=pp∧i=qq)) {Q:St→Prop} (hQ:∀s s',St.Same s s'→Q s→Q s') {R:Exit→Act→World→Prop} (g0:G) (w0:World) (H0:Heap) (k0:Nat)
    (hR:∀g w st a,Q st→a.tmps.size=nt→a.defers= []→Sim g w st a.tmps→Evo g0 w0 H0 k0 g w st.H st.k→R .normal a w) :
    ∀(fuel t:Nat) (listed:Array Bool) (g:G) (w:World) (st:St) (a:Act),listed.size=ops.size→(remO ord listed).length≤fuel→(listed.getD pp true=true∨(Region.linearise.go .any ops fuel t listed []).idxOf pp≤(Region.linearise.go .any ops fuel t listed []).idxOf qq)→DownC ops listed→a.tmps.size=nt→a.defers= []→Sim g w st a.tmps→Evo g0 w0 H0 k0 g w st.H st.k →
      vSE P sf kk ((remO ord listed).filterMap (ls[·]?)) st Q→wpOps P ops R (Region.linearise.go .any ops fuel t listed []) a w:=by
  have hall:=ZdT hls
  intro fuel
  induction fuel with
  | zero =>
    intro t listed g w st a hsz hle hx hd h1 h2 h3 h4 hv
    have e:remO ord listed= []:=List.eq_nil_of_length_eq_zero (by omega)
    rw[e] at hv
    simp only[Region.linearise.go,List.reverse_nil,wpOps]
    exact hR g w st a hv.2 h1 h2 h3 h4
  | succ fuel ih =>
    intro t listed g w st a hsz hle hx hd h1 h2 h3 h4 hv
    simp only[Region.linearise.go] at hx ⊢
    change listed.getD pp true=true∨(match (Region.ready .any ops listed)[t % (Region.ready .any ops listed).length]? with
      | some i=>Region.linearise.go .any ops fuel (t / (Region.ready .any ops listed).length) (listed.setIfInBounds i true) [i]
      | none=> [].reverse).idxOf pp≤(match (Region.ready .any ops listed)[t % (Region.ready .any ops listed).length]? with
      | some i=>Region.linearise.go .any ops fuel (t / (Region.ready .any ops listed).length) (listed.setIfInBounds i true) [i]
      | none=> [].reverse).idxOf qq at hx
    change wpOps P ops R (match (Region.ready .any ops listed)[t % (Region.ready .any ops listed).length]? with
      | some i=>Region.linearise.go .any ops fuel (t / (Region.ready .any ops listed).length) (listed.setIfInBounds i true) [i]
      | none=> [].reverse) a w
    cases hi:(Region.ready .any ops listed)[t % (Region.ready .any ops listed).length]? with
    | none =>
      have hnil:Region.ready .any ops listed= []:=by
        cases hr:Region.ready .any ops listed with
        | nil=>rfl
        | cons x xs =>
          rw[hr] at hi
          have hlt:t % (x :: xs).length<(x :: xs).length:=Nat.mod_lt _ (by simp)
          simp at hi
          simp at hlt
          omega
      have e:remOf ops.size listed= []:=by
        cases hr:remOf ops.size listed with
        | nil=>rfl
        | cons x xs =>
          exfalso
          have hx:=Zek.1 (show x∈remOf ops.size listed by rw[hr];simp)
          have hs:=ZeN ops.size listed
          rw[hr,List.pairwise_cons] at hs
          have:x∈Region.ready .any ops listed:=mem_ready.2 ⟨hx.2,ops[x],by simp[hx.1],fun e he hb=>by
            have hlt:=hback x ops[x] (by simp[hx.1]) e he hb
            cases hl:listed.getD e.on true with
            | true =>
              have hlt2:e.on<listed.size:=by rw[hsz];omega
              simp[Array.getD_eq_getD_getElem?,hlt2] at hl ⊢
              exact hl
            | false =>
              have hmem:e.on∈remOf ops.size listed:=Zek.2 ⟨by omega,hl⟩
              rw[hr] at hmem
              cases hmem with
              | head=>exact absurd hlt (Nat.lt_irrefl _)
              | tail _ hm=>exact absurd (hs.1 _ hm) (by omega)⟩
          rw[hnil] at this
          cases this
      have e:remO ord listed= []:=by
        cases hr:remO ord listed with
        | nil=>rfl
        | cons x xs =>
          have hx:=mem_remO.1 (show x∈remO ord listed by rw[hr];simp)
          have:x∈remOf ops.size listed:=Zek.2 ⟨(hmo x).1 hx.1,hx.2⟩
          rw[e] at this;cases this
      rw[e] at hv
      simp only[List.reverse_nil,wpOps]
      exact hR g w st a hv.2 h1 h2 h3 h4
    | some i =>
      rw[hi] at hx
      simp only[] at hx ⊢
      rw[linearise_go_acc,List.reverse_singleton,List.singleton_append] at hx ⊢
      obtain⟨hun,o,ho,hpre⟩:=mem_ready.1 (List.mem_of_getElem? hi)
      have hin:i<ops.size:=(Array.getElem?_eq_some_iff.1 ho).1
      have hmem:i∈remO ord listed:=mem_remO.2 ⟨(hmo i).2 hin,hun⟩
      obtain⟨l1,l2,hsplit⟩:=List.append_of_mem hmem
      have hs:(remO ord listed).Pairwise B:=hpw.filter _
      have hnd':(remO ord listed).Nodup:=hnd.filter _
      rw[hsplit,List.pairwise_append,List.pairwise_cons] at hs
      obtain⟨_,_,hs4⟩:=hs
      rw[hsplit] at hnd'
      have hil:i ∉ l1∧i ∉ l2:=by
        have h9:=hnd'.sublist (List.Sublist.refl _)
        rw[List.nodup_append] at h9
        obtain⟨_,h92,h93⟩:=h9
        exact⟨fun h=>h93 i h i (by simp) rfl,(List.nodup_cons.1 h92).1⟩
      have hrem:remO ord (listed.setIfInBounds i true)=l1++l2:=by
        have e1:remO ord (listed.setIfInBounds i true)=(remO ord listed).filter (· != i):=by
          simp only[remO,List.filter_filter]
          apply List.filter_congr
          intro j hj
          by_cases hji:j=i
          · subst hji
            have:j<listed.size:=by rw[hsz];exact hin
            simp[this]
          · rw[getD_set_ne true (Ne.symm hji)]
            simp[hji]
        rw[e1,hsplit,List.filter_append,List.filter_cons_of_neg (by simp)]
        rw[List.filter_eq_self.2 (fun x hm=>by simp;rintro rfl;exact hil.1 hm),List.filter_eq_self.2 (fun x hm=>by simp;rintro rfl;exact hil.2 hm)]
      obtain⟨l,hl1,hl2⟩:=mapM_get hls i o (by simpa using ho)
      rw[hsplit,List.filterMap_append,List.filterMap_cons_some (by exact hl1)] at hv
      have hap:∀x∈l1.filterMap (ls[·]?),Comm P sf kk x l:=by
        intro x hx
        obtain⟨j,hj1,hj2⟩:=List.mem_filterMap.1 hx
        have hjlt:B j i:=hs4 j hj1 i (by simp)
        rcases hpair i j x l hjlt hj2 hl1 with hb | hb | ⟨hb1,hb2⟩
        · exfalso
          have hlisted:=Zgo hd hback i o ho hpre j hb
          have hjm:=mem_remO.1 (show j∈remO ord listed by rw[hsplit];simp[hj1])
          have hjun:=hjm.2
          have hlt2:j<listed.size:=by rw[hsz];exact (hmo j).1 hjm.1
          simp[Array.getD_eq_getD_getElem?,hlt2] at hlisted hjun
          rw[hlisted] at hjun;cases hjun
        · exact hb
        · exfalso
          subst hb1 hb2
          have hjun:=(mem_remO.1 (show j∈remO ord listed by rw[hsplit];simp[hj1])).2
          rcases hx with hx | hx
          · rw[hjun] at hx;cases hx
          · rw[List.idxOf_cons_self,idxOf_ne (Ne.symm hne)] at hx
            omega
      obtain⟨_,_,v,H,k,hst,_,hv'⟩:=vSE_front hQ hap hv
      refine stepS_ok hall ho hl2 h1 h3 hst _ fun x g' w' q1 q2 q3=>?_
      have hput:=env_put (H0:=H) (k0:=k) h1 (fun t=>ARep.keeps q3.keeps _ _ (h3.env t)) (dst:=l.dst) (by rw[(Zbs hl2).2.1];exact (Zbs hl2).2.2.1) q1
      have hdst:=(Zbs hl2).2.1
      refine ih _ _ g' w' (St.put ⟨st.env,H,k⟩ l.dst v) _ (by simp[hsz]) ?_ ?_ ?_ (by rw[put_size];exact h1) (by rw[Zfv];exact h2) ⟨?_,?_⟩ ?_ ?_
      · rw[hrem]
        rw[hsplit] at hle
        simp at hle ⊢
        omega
      · rcases hx with hx | hx
        · left
          by_cases hji:pp=i
          · subst hji
            simp[hsz,hin]
          · rw[getD_set_ne true (Ne.symm hji)];exact hx
        · by_cases hji:pp=i
          · subst hji
            left
            simp[hsz,hin]
          · by_cases hqi:qq=i
            · subst hqi
              rw[List.idxOf_cons_self,idxOf_ne (Ne.symm hji)] at hx
              omega
            · right
              rw[idxOf_ne (Ne.symm hji),idxOf_ne (Ne.symm hqi)] at hx
              omega
      · intro j oj hoj hlj e he hb
        by_cases hji:j=i
        · subst hji
          rw[ho] at hoj;cases hoj
          exact getD_set_true (hpre e he hb)
        · rw[getD_set_ne false (Ne.symm hji)] at hlj
          exact getD_set_true (hd j oj hoj hlj e he hb)
      · rw[St.put_H,St.put_k,←hdst];exact hput
      · rw[St.put_H,St.put_k];exact q2
      · rw[St.put_H,St.put_k];exact h4.trans q3
      · rw[hrem,List.filterMap_append];exact hv'
theorem len_of {n:Nat} {l:List Nat} (h:∀i,i∈l↔i<n) (hn:l.Nodup):l.length=n:=by
 have:l.Perm (List.range n):=(List.perm_ext_iff_of_nodup hn List.nodup_range).2 fun i=>by rw[h,List.mem_range]
 simpa using this.length_eq
def SoftBut (P:Program) (ps:List (Nat × Nat)) (ls:List LOp) (pq:Nat × Nat) (s:St) (k0:Nat):Prop:=∀p∈ps,p≠pq→∀a b,ls[p.1]? =some a→ls[p.2]? =some b→SoftOK P s.ev k0 a b
theorem aw_soft2 {nt:Nat} {ls:List LOp} {Q:RExit→St→Prop} {st:St} {ps:List (Nat × Nat)} (p q:Nat) (hpq:p<q) (ord:List Nat) (hord:ord.Pairwise (fun j i=>(j<i∧(j,i)≠(p,q))∨(j=q∧i=p))) (hmo:∀i,i∈ord↔i<ls.length)
    (hst2:stable (ord.filterMap (ls[·]?))=true)
    (h1:vS P ls st (fun s=>SoftBut P ps ls (p,q) s st.k∧Q .normal s)) (h2:vS P (ord.filterMap (ls[·]?)) st (fun s=>SoftBut P ps ls (p,q) s st.k∧Q .normal s)):AWr P nt (.soft ps ls) Q st:=by
  intro c hc g w a ha1 ha2 ha3
  obtain⟨id,ops,rfl,hl,hok,rfl⟩:=lower_soft hc
  simp only[okSoft,Bool.and_eq_true,List.all_eq_true] at hok
  obtain⟨⟨⟨hm,hst⟩,hbk⟩,hsp⟩:=hok
  have hback:∀i o,ops[i]? =some o→∀e∈o.after,Region.binds .any e=true→e.on<i:=fun i o ho e he hb=>by
    have:=hbk i (List.mem_range.2 (Array.getElem?_eq_some_iff.1 ho).1)
    rw[ho] at this
    simp only[Array.all_eq_true_iff_forall_mem,Bool.or_eq_true,Bool.not_eq_true',decide_eq_true_eq] at this
    rcases this e he with h | h
    · rw[hb] at h;cases h
    · exact h
  have hlen:ls.length=ops.size:=by
    have:=mapM_len hl
    simpa using this
  have hpair:∀sf,SoftBut P (softPairs ops ls) ls (p,q) sf st.k→∀i j a b,i<ops.size→j<i→(j,i)≠(p,q)→ls[j]? =some a→ls[i]? =some b→((masks ops.toList #[]).getD i 0).testBit j=true∨Comm P sf st.k a b:=fun sf hsf i j a b hi hj hne ha hb=>by
    by_cases h1:((masks ops.toList #[]).getD i 0).testBit j=true
    · exact .inl h1
    by_cases h2:a.apart b=true
    · exact .inr (.inl h2)
    have hmem:(j,i)∈softPairs ops ls:=by
      simp only[softPairs,List.mem_flatMap,List.mem_range,List.mem_filterMap]
      refine⟨i,hi,j,hj,?_⟩
      rw[ha,hb,if_neg]
      simp only[Bool.or_eq_true,not_or]
      exact⟨h1,h2⟩
    have h3:=hsp (j,i) hmem
    simp only[ha,hb,LOp.soft,Bool.and_eq_true,Option.isNone_iff_eq_none] at h3
    exact .inr (.inr ⟨h3.1.1.1,h3.1.1.2,h3.1.2,hsf (j,i) hmem hne a b ha hb⟩)
  refine wp_region_draw fun t=>?_
  simp only[Region.schedule,hm,Bool.true_or,if_true,Region.linearise]
  have hev:Evo g w st.H st.k g {w with drawn:=w.drawn+1} st.H st.k :=
    ⟨Nat.le_refl _,rfl,rfl,rfl,Nat.le_refl _,fun _ _ h=>h,fun _ _ h=> .inl h,fun _ _ _=>rfl,fun _ _ _=>rfl,fun _ _ h=>h,fun n o o' _ h h'=>by rw[h] at h';cases h';exact Compat.refl _ _,fun n b h h'=> .inl ⟨n,h,h'⟩⟩
  have hsim:SimH g {w with drawn:=w.drawn+1} st.H st.k:=by
    refine⟨fun n o h=>?_,ha3.h.inj,ha3.h.fz⟩
    obtain⟨q1,q2,q3⟩:=ha3.h.obj n o h
    refine⟨q1,?_,q3⟩
    cases o<;>simpa only[ORep] using q2
  have hall:∀ord:List Nat,(∀i,i∈ord↔i<ops.size)→remO ord (Array.replicate ops.size false)=ord:=by
    intro ord ho
    apply List.filter_eq_self.2
    intro i hi
    simp[(ho i).1 hi]
  have hdown:DownC ops (Array.replicate ops.size false):=by
    intro i o ho hli
    simp only[Array.getD_eq_getD_getElem?] at hli
    rcases Nat.lt_or_ge i ops.size with h | h
    · simp[h] at hli
    · simp[Nat.not_lt.2 h] at hli
  have hfr:∀(f t:Nat),True:=fun _ _=>trivial
  rcases Nat.le_total ((Region.linearise.go .any ops ops.size t (Array.replicate ops.size false) []).idxOf p) ((Region.linearise.go .any ops ops.size t (Array.replicate ops.size false) []).idxOf q) with hx | hx
  · obtain⟨sf,⟨hsf,_⟩,_,hE⟩:=vS_E (k0:=st.k) hst (Nat.le_refl _) h1
    refine draw_goO (P:=P) hl hback (ord:=List.range ops.size) (pp:=p) (qq:=q) (sf:=sf) (kk:=st.k) (by omega) (B:=(· < ·)) List.pairwise_lt_range List.nodup_range (fun i=>List.mem_range)
      (fun i j a b hj ha hb=>by
        have hi:i<ops.size:=by rw[←hlen];exact ZaB hb
        by_cases e:(j,i)=(p,q)
        · cases e;exact .inr (.inr ⟨rfl,rfl⟩)
        · rcases hpair sf hsf i j a b hi hj e ha hb with h | h
          · exact .inl h
          · exact .inr (.inl h)) (Q:=fun s'=>∃s,St.Same s s'∧Q .normal s) (fun s s' e ⟨s0,e0,h0⟩=>⟨s0,e0.trans e,h0⟩) g w st.H st.k (fun g' w' st' a' ⟨s,e,q1⟩ q2 q3 q4 q5=>⟨.normal,s,g',trivial,q1,q2,q3,q4.same e.symm,by rw[e.H,e.k];exact q5⟩) ops.size t _ g _ st a (by simp) (by rw[hall _ (fun i=>List.mem_range)];simp) (.inr hx) hdown ha1 ha2 ⟨ha3.env,hsim⟩ hev ?_
    rw[hall _ (fun i=>List.mem_range),List.range_eq_range',ZcH ls ops.size 0 (by omega)]
    have hE':=vSE_mono (Q':=fun s'=>∃s,St.Same s s'∧Q .normal s) (fun s hs=>⟨s,⟨fun _=>rfl,rfl,rfl⟩,hs.2⟩) hE
    simpa using hE'
  · obtain⟨sf,⟨hsf,_⟩,_,hE⟩:=vS_E (k0:=st.k) hst2 (Nat.le_refl _) h2
    have hmo':∀i,i∈ord↔i<ops.size:=fun i=>by rw[hmo,hlen]
    refine draw_goO (P:=P) hl hback (ord:=ord) (pp:=q) (qq:=p) (sf:=sf) (kk:=st.k) (by omega) hord (hord.imp (fun {x y} h=>by rcases h with h | h<;>omega)) hmo'
      (fun i j a b hj ha hb=>by
        have hi:i<ops.size:=by rw[←hlen];exact ZaB hb
        rcases hj with ⟨hj,e⟩ | hj
        · rcases hpair sf hsf i j a b hi hj e ha hb with h | h
          · exact .inl h
          · exact .inr (.inl h)
        · exact .inr (.inr hj)) (Q:=fun s'=>∃s,St.Same s s'∧Q .normal s) (fun s s' e ⟨s0,e0,h0⟩=>⟨s0,e0.trans e,h0⟩) g w st.H st.k (fun g' w' st' a' ⟨s,e,q1⟩ q2 q3 q4 q5=>⟨.normal,s,g',trivial,q1,q2,q3,q4.same e.symm,by rw[e.H,e.k];exact q5⟩) ops.size t _ g _ st a (by simp) (by rw[hall _ hmo'];exact Nat.le_of_eq (len_of hmo' (hord.imp (fun {x y} h=>by rcases h with h | h<;>omega)))) (.inr hx) hdown ha1 ha2 ⟨ha3.env,hsim⟩ hev ?_
    rw[hall _ hmo']
    exact vSE_mono (Q':=fun s'=>∃s,St.Same s s'∧Q .normal s) (fun s hs=>⟨s,⟨fun _=>rfl,rfl,rfl⟩,hs.2⟩) hE
theorem Za8 {ns ms:List Nat} {k0:Nat} (h:(ns.all fun n=>Nat.blt n k0 && !(ms.contains n))=true):∀n∈ns,n<k0∧n ∉ ms:=by
 intro n hn
 have:=List.all_eq_true.1 h n hn
 simp only[Bool.and_eq_true,Nat.blt_eq,Bool.not_eq_true',List.contains_eq_mem,decide_eq_false_iff_not] at this
 exact this
theorem soft_but {ps:List (Nat × Nat)} {ls:List LOp} {pq:Nat × Nat} {s:St} {k0:Nat} (h:SoftAll P ls s.ev k0 (ps.filter (· != pq))):SoftBut P ps ls pq s k0:=by
 intro x hx hne a b ha hb
 exact SoftAll.at h x (List.mem_filter.2 ⟨hx,by simpa using hne⟩) a b ha hb
theorem aw_sx2 {nt:Nat} {ls:List LOp} {y:RCode} {Q:RExit→St→Prop} {st:St} {ps:List (Nat × Nat)} (p q:Nat) (hpq:p<q) (ord:List Nat) (hord:ord.Pairwise (fun j i=>(j<i∧(j,i)≠(p,q))∨(j=q∧i=p))) (hmo:∀i,i∈ord↔i<ls.length)
  (hst2:stable (ord.filterMap (ls[·]?))=true)
  (h1:∀K,IsK K (fun s=>SoftAll P ls s.ev st.k (ps.filter (· != (p,q)))∧AWr P nt y Q s)→vD P ls st K)
  (h2:∀K,IsK K (fun s=>SoftAll P ls s.ev st.k (ps.filter (· != (p,q)))∧AWr P nt y Q s)→vD P (ord.filterMap (ls[·]?)) st K):AWr P nt (.seq (.soft ps ls) y) Q st :=
 ZgA (aw_soft2 p q hpq ord hord hmo hst2 (vS_mono (fun _ hs=>⟨soft_but hs.1,hs.2⟩) (vD_vS (h1 _ ⟨rfl⟩))) (vS_mono (fun _ hs=>⟨soft_but hs.1,hs.2⟩) (vD_vS (h2 _ ⟨rfl⟩))))
theorem take_len_map {α β:Type} (f:α→β) (l:List α):List.take l.length (l.map f)=l.map f:=by rw[←List.map_take,List.take_length]
attribute [go_sem] take_len_map
mutual
theorem belowA_up {k:Nat}:∀(x:AV),ZaH 0 x→ZaH k x
 | .p _,_=>trivial
 | .junk,_=>trivial
 | .agg cs,h=>by simp only[ZaH] at *;exact Zeh cs h
 | .tup cs,h=>by simp only[ZaH] at *;exact Zeh cs h
 | .bp _ _,h=>by simp[ZaH] at h
 | .ep _ _ _ _,h=>by simp[ZaH] at h
 | .os _ _ _,h=>by simp[ZaH] at h
 | .mp _,h=>by simp[ZaH] at h
 | .fn _ a b,h=>by simp only[ZaH] at *;exact⟨Zeh a h.1,Zeh b h.2⟩
 | .ifc _ x,h=>by simp only[ZaH] at *;exact belowA_up x h
theorem Zeh {k:Nat}:∀(x:List AV),ZaC 0 x→ZaC k x
 | [],_=>trivial
 | x :: xs,h=>by simp only[ZaC] at *;exact⟨belowA_up x h.1,Zeh xs h.2⟩
end
theorem Zch {x y:List AV} (h:ZaC 0 x∧ZaC 0 y):(∀k,ZaC k x=True)∧∀k,ZaC k y=True:=⟨fun _=>eq_true (Zeh _ h.1),fun _=>eq_true (Zeh _ h.2)⟩
attribute [go_sem] List.length_set
theorem ZfT {Q:St→Prop}:∀ {a b:List LOp} {st:St},vOps P (a++b) st Q=vOps P a st (fun s=>vOps P b s Q)
 | [],b,st=>rfl
 | o :: a,b,st=>by
  simp only[List.cons_append,vOps]
  split
  ·simp only[ZfT]
  ·split<;>simp only[ZfT]
theorem vD_append {Q:St→Prop}:∀ {a b:List LOp} {st:St},vD P (a++b) st Q=vD P a st (fun s=>vD P b s Q)
 | [],b,st=>rfl
 | o :: a,b,st=>by
  simp only[List.cons_append,vD]
  split
  ·simp only[vD_append]
  ·split<;>simp only[vD_append]
theorem vOps_cut (n:Nat) {ls:List LOp} {st:St} {K:St→Prop} (h:∀K',IsK K' (fun s=>vOps P (ls.drop n) s K)→vOps P (ls.take n) st K'):vOps P ls st K:=by
 have:=h _ ⟨rfl⟩
 rw[←ZfT,List.take_append_drop] at this
 exact this
theorem Zb9 (n:Nat) {ls:List LOp} {st:St} {K:St→Prop} (h:∀K',IsK K' (fun s=>vD P (ls.drop n) s K)→vD P (ls.take n) st K'):vD P ls st K:=by
 have:=h _ ⟨rfl⟩
 rw[←vD_append,List.take_append_drop] at this
 exact this
theorem calls_frz {f:FuncId} {avs:List AV} {H:Heap} {k:Nat} {K:AV→Heap→Nat→Prop} (q:Nat→Bool) (h:ACalls P f (frzL q H avs) (H.frz q H) k K):ACalls P f avs H k K:=fun g w args hs ha =>
 (h (shutG q g w H) w args hs.frz (Zeu hs _ _ ha)).mono fun _ _ ⟨v,r,g',H',k',e1,hK,h1,h2,h3⟩=>⟨v,r,g',H',k',e1,hK,h1,h2,(Evo.refl.frz hs).trans h3⟩
def inL:List Nat→Nat→Bool
 | [],_=>false
 | x :: r,m=>match Nat.beq x m with | true=>true | false=>inL r m
attribute [go_sem] inL
end Go.Abs
namespace Go.Abs
open Go Go.Proofs Go.Shelf
variable {P:Program} {ρ:Ren}
theorem calls_frz2 {f:FuncId} {avs:List AV} {H:Heap} {k:Nat} {K:AV→Heap→Nat→Prop} (q:Nat→Bool) (h:ACalls P f avs H k (fun r H' k'=>K (r.frz q H') (H'.frz q H') k')):ACalls P f avs H k K:=fun g w args hs ha =>
 (h g w args hs ha).mono fun _ _ ⟨v,r,g',H',k',e1,hK,h1,h2,h3⟩=>⟨v,r.frz q H',shutG q g' _ H',H'.frz q H',k',e1,hK,ZhR h2 _ _ h1,h2.frz,h3.frz h2⟩
structure Only (w w':World) (b:Nat):Prop where
 os:w'.os=w.os
 tape:w'.tape=w.tape
 out:w'.output=w.output
 size:w.heap.size≤w'.heap.size
 same:∀b',b'<w.heap.size→b'≠b→w'.heap[b']? =w.heap[b']?
theorem Only.refl (w:World) (b:Nat):Only w w b:=⟨rfl,rfl,rfl,Nat.le_refl _,fun _ _ _=>rfl⟩
theorem Only.trans {w w' w'':World} {b:Nat} (h:Only w w' b) (h':Only w' w'' b):Only w w'' b :=
 ⟨h'.os.trans h.os,h'.tape.trans h.tape,h'.out.trans h.out,Nat.le_trans h.size h'.size,fun b' hb hn=>(h'.same b' (Nat.lt_of_lt_of_le hb h.size) hn).trans (h.same b' hb hn)⟩
theorem Only.drew (w:World) (b:Nat):Only w w.drew b:=⟨rfl,rfl,rfl,Nat.le_refl _,fun _ _ _=>rfl⟩
theorem Zhj (b:Nat):∀(vs:List Value) (o:Nat) (w:World) {cs:Array Value} {t:TypeId} {fr:Nat × Nat},w.heap[b]? =some (.cells cs t fr) →
  Only w (w.setCells b o vs) b∧∃cs',(w.setCells b o vs).heap[b]? =some (.cells cs' t fr)∧cs'.size=cs.size∧(w.setCells b o vs).heap.size=w.heap.size ∧
   ∀j,j<cs.size→cs'[j]? =if o≤j∧j<o+vs.length then vs[j - o]? else cs[j]?
 | [],o,w,cs,t,fr,h=>⟨Only.refl w b,cs,h,rfl,rfl,fun j _=>by rw[if_neg (by simp only[List.length_nil];omega)]⟩
 | v :: vs,o,w,cs,t,fr,h=>by
  have hb:b<w.heap.size:=by
   rcases Nat.lt_or_ge b w.heap.size with h' | h'
   ·exact h'
   ·rw[Array.getElem?_eq_none h'] at h;cases h
  have h1:(w.setCell ⟨b,o,none⟩ v).heap[b]? =some (.cells (cs.setIfInBounds o v) t fr):=by
   simp[World.setCell,Array.getElem?_modify,h]
  obtain⟨p1,cs',p2,p3,p4,p5⟩:=Zhj b vs (o+1) (w.setCell ⟨b,o,none⟩ v) h1
  have hsz:(w.setCell ⟨b,o,none⟩ v).heap.size=w.heap.size:=by simp[World.setCell]
  rw[World.setCells]
  refine⟨Only.trans (w':=w.setCell ⟨b,o,none⟩ v) ⟨rfl,rfl,rfl,by omega,fun b' _ hn=>?_⟩ p1,cs',p2,by simpa using p3,by rw[p4,hsz],fun j hj=>?_⟩
  ·simp[World.setCell,Array.getElem?_modify,Ne.symm hn]
  ·rw[p5 j (by simpa using hj)]
   by_cases e:j=o
   ·subst e
    rw[if_neg (by omega),if_pos (by simp)]
    simp[hj]
   ·by_cases e2:o+1≤j∧j<o+1+vs.length
    ·rw[if_pos e2,if_pos (by simp;omega),show j - o=(j - (o+1))+1 by omega,List.getElem?_cons_succ]
    ·rw[if_neg e2,if_neg (by simp;omega),Array.getElem?_setIfInBounds_ne (Ne.symm e)]
theorem repInts {fz:Nat→Option Obj}:∀ {l:List Int} {vals:List (List Value)},PRepLL fz (l.map cI) vals→vals=l.map fun x=> [Value.int .i64 x]
 | [],vals,h=>by simpa [PRepLL] using h
 | x :: l,vals,h=>by
  simp only[List.map_cons,PRepLL,cI,PRepL,PRep] at h
  obtain⟨v,r,rfl,⟨u,s,rfl,rfl,rfl⟩,h⟩:=h
  rw[repInts h];rfl
theorem intsRep {fz:Nat→Option Obj}:∀(l:List Int),PRepLL fz (l.map cI) (l.map fun x=> [Value.int .i64 x])
 | []=>by simp[PRepLL]
 | x :: l=>by
  simp only[List.map_cons,PRepLL,cI,PRepL,PRep]
  exact⟨_,_,rfl,⟨_,_,rfl,rfl,rfl⟩,intsRep l⟩
theorem ints_at {cs:Array Value} {off:Nat} {l:List Int} (h:∀j v,(l.map (Value.int .i64))[j]? =some v→cs[off+j]? =some v):RowsAt cs off 1 (l.map fun x=> [Value.int .i64 x]):=by
 intro i r hr
 rw[List.getElem?_map,Option.map_eq_some_iff] at hr
 obtain⟨x,hx,rfl⟩:=hr
 refine⟨rfl,fun j y hj=>?_⟩
 cases j with
 | zero =>
  simp only[List.getElem?_cons_zero,Option.some.injEq] at hj
  subst hj
  have:=h i (.int .i64 x) (by rw[List.getElem?_map,hx];rfl)
  simpa using this
 | succ j=>simp at hj
theorem ins_end {g:G} {w w':World} {H:Heap} {k n b' off c':Nat} {rows rows':List Int} {arr:Array Value} {t:TypeId} (hs:SimH g w H k) (hH:H.get n=some (.slice (rows.map cI))) (hl:rows'.length=rows.length+1) (hlim:rows'.length≤lim)
    (hb:w'.heap[b']? =some (.cells arr t (0,0))) (ho:Only w w' b') (hw:(g.ρ n).blk=some b'∨w.heap.size≤b') (hv:∀j v,(rows'.map (Value.int .i64))[j]? =some v→arr[off+j]? =some v)
    (hc:rows'.length≤c') (hct:c'≤top) (hsz:off+c'≤arr.size) :
    ∃g',ARep g' (H.set n (.slice (rows'.map cI))) k (.os n 0 rows'.length) (.slice (some ⟨b',off,none⟩) rows'.length c')∧SimH g' w' (H.set n (.slice (rows'.map cI))) k∧Evo g w H k g' w' (H.set n (.slice (rows'.map cI))) k:=by
  have hHn:(H.set n (.slice (rows'.map cI))).get n=some (.slice (rows'.map cI)):=by simp[Heap.get_set,hH]
  have hnk:=(hs.obj n _ hH).1
  refine⟨{g with ρ:=fun m=>if m=n then ⟨some b',off,0,c',1⟩ else g.ρ m},?_,?_⟩
  · simp only[ARep]
    refine⟨hnk,rfl,fun r h=>?_⟩
    rw[hHn] at h;cases h
    refine⟨by simp,fun _=>⟨some ⟨b',off,none⟩,c',rfl,hc,.inr ⟨b',by simp,by simp,by simp,by simp⟩⟩⟩
  · have hlt:b'<w'.heap.size:=by
      rcases Nat.lt_or_ge b' w'.heap.size with h' | h'
      · exact h'
      · rw[Array.getElem?_eq_none h'] at hb;cases hb
    refine SimH.gen hs n (.slice (rows'.map cI)) (Nat.le_refl _) rfl (fun m e=>by simp[e]) (fun m e=>by simp[Heap.get_set,Ne.symm e]) hHn hnk (fun o h=>by
      rw[hH] at h;cases h;exact .inr (by simp;omega)) (fun h=>by rw[hH] at h;cases h) ho.os ho.tape ho.out ho.size (fun b hb hnb=>?_) (fun b hb2=>?_) (fun _=>?_)
    · refine ho.same b hb (fun e=>?_)
      subst e
      rcases hw with hw | hw
      · exact hnb (by rw[hH];simp) hw
      · omega
    · simp only[if_true,Option.some.injEq] at hb2
      subst hb2
      refine⟨?_,hlt⟩
      rcases hw with hw | hw
      · exact .inl ⟨by rw[hH];simp,hw⟩
      · exact .inr hw
    · simp only[ORep,if_true]
      refine⟨by simpa using hlim,Nat.zero_le _,fun _=>by simp,fun r hr=>?_,fun h=>?_,fun b hb2=>?_⟩
      · obtain⟨x,_,rfl⟩:=List.mem_map.1 hr
        rfl
      · have:=congrArg List.length h
        simp at this;rw[this] at hl;simp at hl
      · simp only[Option.some.injEq] at hb2
        subst hb2
        exact⟨arr,t,rows'.map fun x=> [Value.int .i64 x],hb,⟨by simpa using hc,by simpa using hct⟩,by simpa using intsRep rows',ints_at hv,by simpa using hsz⟩
def insI (rows:List Int) (i:Nat) (x:Int):List Int:=rows.take i++x :: rows.drop i
theorem insI_len {rows:List Int} {i:Nat} (x:Int) (h:i≤rows.length):(insI rows i x).length=rows.length+1:=by
 simp[insI];omega
theorem rep_os {g:G} {H:Heap} {k n len:Nat} {v:Value} {rows:List (List PV)} (h:ARep g H k (.os n 0 len) v) (hH:H.get n=some (.slice rows)) (hl:rows.length=len):OsRep (g.ρ n) 0 len v:=by
 simp only[ARep] at h
 exact (h.2.2 rows hH).2 (by omega)
theorem one_ints (l:List Int):∀v∈l.map (Value.int .i64),v.oneCell'=true:=fun v hv=>by
 obtain⟨x,_,rfl⟩:=List.mem_map.1 hv
 rfl
theorem ins_calls (L:Lays2.n21 P ρ) {n m:Nat} {rows:List Int} {i:Nat} {x:Int} {H:Heap} {k:Nat} (hH:H.get n=some (.slice (rows.map cI))) (hM:H.get m=some (.slice [cI x])) (hmn:m≠n)
    (hi:i≤rows.length) (hb:(rows.length+1)*8≤lim) :
    ACalls P (ρ.f 21) [.os n 0 rows.length,.p (vi i),.os m 0 1] H k (fun r H' k'=>r= .os n 0 (insI rows i x).length∧H'=H.set n (.slice ((insI rows i x).map cI))∧k'=k):=by
  intro g w args hs ha
  obtain⟨args⟩:=args
  simp only[ARepL] at ha
  obtain⟨v0,r0,rfl,h0,v1,r1,rfl,h1,v2,r2,rfl,h2,rfl⟩:=ha
  simp only[ARep,PRep] at h1
  subst h1
  obtain⟨a2,c2,rfl,hc2,hos2⟩:=rep_os h2 hM rfl
  obtain⟨a0,c,rfl,hc,hos⟩:=rep_os h0 hH (by simp)
  rcases hos2 with rfl | ⟨vb,hvb,hd2,hcc2,rfl⟩
  · omega
  obtain⟨_,hm1,hm2⟩:=hs.obj m _ hM
  simp only[ORep] at hm1
  obtain⟨_,_,_,mw,_,mo⟩:=hm1
  obtain⟨mc,mt,mv,mheap,_,mvals,mat,msz⟩:=mo vb hvb
  have hmw:(g.ρ m).w=1:=(mw (cI x) (by simp)).symm
  have hmd:(g.ρ m).drop=0:=by omega
  rw[hmd,List.drop_zero] at mvals
  have:=repInts (l:= [x]) mvals
  subst this
  obtain⟨Vo,hVo⟩:∃Vo,Vo=(g.ρ m).base+(0 - (g.ρ m).drop)*(g.ρ m).w:=⟨_,rfl⟩
  have hVo':Vo=(g.ρ m).base:=by rw[hVo];simp
  have hvx:mc[Vo]? =some (.int .i64 x):=by
    have:=(mat 0 [.int .i64 x] rfl).2 0 (.int .i64 x) rfl
    rw[hVo'];simpa using this
  have hvcell:w.cell? ⟨vb,Vo,none⟩=some (.int .i64 x):=by simp[World.cell?,mheap,hvx]
  have hvs:∀j v,[Value.int .i64 x][j]? =some v→w.cell? ⟨vb,Vo+j,none⟩=some v:=fun j v hj=>by
    cases j with
    | zero=>simp at hj;subst hj;exact hvcell
    | succ j=>simp at hj
  rw[←hVo]
  have hlen:=insI_len x hi
  obtain⟨_,hn1,hn2⟩:=hs.obj n _ hH
  simp only[ORep] at hn1
  obtain⟨o1,o2,o3,o4,o6,o5⟩:=hn1
  have hlim:(insI rows i x).length≤lim:=by rw[hlen];unfold lim at *;omega
  obtain⟨cs,hcs⟩:∃cs,cs=rows.map (Value.int .i64):=⟨_,rfl⟩
  have hcl:cs.length=rows.length:=by rw[hcs];simp
  have hnew:∀(j:Nat) (v:Value),((insI rows i x).map (Value.int .i64))[j]? =some v→(cs.take i++Value.int .i64 x :: cs.drop i)[j]? =some v:=fun j v hj=>by
    rw[insI,List.map_append,List.map_cons,List.map_take,List.map_drop,←hcs] at hj
    exact hj
  have hnl:(cs.take i++Value.int .i64 x :: cs.drop i).length=rows.length+1:=by simp[hcl];omega
  have key:∀(w':World) (b' off c':Nat) (arr:Array Value) (t:TypeId),w'.heap[b']? =some (.cells arr t (0,0))→Only w w' b'→((g.ρ n).blk=some b'∨w.heap.size≤b') →
      (∀(j:Nat) (v:Value),(cs.take i++Value.int .i64 x :: cs.drop i)[j]? =some v→arr[off+j]? =some v)→rows.length+1≤c'→c'≤top→off+c'≤arr.size →
      ∃v r g' H' k',Ending.returned (.slice (some ⟨b',off,none⟩) (rows.length+1) c')= .returned v∧(r= .os n 0 (insI rows i x).length∧H'=H.set n (.slice ((insI rows i x).map cI))∧k'=k)∧ARep g' H' k' r v∧SimH g' w' H' k'∧Evo g w H k g' w' H' k':=by
    intro w' b' off c' arr t q1 q2 q3 q4 q5 q6 q7
    obtain⟨g',e1,e2,e3⟩:=ins_end hs hH hlen hlim q1 q2 q3 (fun j v hj=>q4 j v (hnew j v hj)) (by omega) q6 q7
    rw[hlen] at e1
    exact⟨_,_,g',_,_,rfl,⟨by rw[hlen],rfl,rfl⟩,e1,e2,e3⟩
  have hbig:(rows.length+1)*8≤140737488355328:=hb
  have hal:∀(w0:World) (ob:Obj) (b:Nat),Only w (w.drew.alloc ob) w.heap.size:=fun _ ob _=>⟨rfl,rfl,rfl,by rw[da_size];omega,fun b' hb' _=>da_old w ob hb'⟩
  have hgt:∀c0,grownCap w (rows.length+1) c0 (ρ.t 3)≤top:=fun c0=>grown_top w _ _ _ (by unfold lim at hlim;omega)
  have hzc:∀(z:Array Value) n,z.size=1→(Builtin.zeroCells z n).size=n:=fun z n hz=>by rw[size_zeroCells,hz,Nat.mul_one]
  have hend:∀(a:Option Addr) (c:Nat),i=rows.length→rows.length≤c→c<rows.length+1→(a=none→rows.length=0)→(∀(ad:Addr),a=some ad→∀(j:Nat) (v:Value),cs[j]? =some v→w.cell? (ad.add j)=some v) →
      Calls P (ρ.f 21) #[.slice a rows.length c,.int .i64 i,.slice (some ⟨vb,Vo,none⟩) 1 c2] w fun e w'=>∃v r g' H' k',e= .returned v∧(r= .os n 0 (insI rows i x).length∧H'=H.set n (.slice ((insI rows i x).map cI))∧k'=k)∧ARep g' H' k' r v∧SimH g' w' H' k'∧Evo g w H k g' w' H' k':=by
    intro a c hie hac hca hnil hcells
    have:=Any2.slices_Insert_int_end_grow L a rows.length c vb Vo 1 c2 cs [.int .i64 x] w (by omega) hac hca hbig hcl rfl hnil hcells hvs (by simp[Value.oneCell'])
    have hii:Value.int .i64 (i:Int)=Value.int .i64 (rows.length:Int):=by rw[hie]
    rw[hii]
    refine this.mono ?_
    rintro e w' ⟨rfl,rfl⟩
    have hge:=Zhz w (rows.length+1) c (ρ.t 3)
    refine key _ _ 0 _ _ _ (da_new w _) (hal w _ 0) (.inr (Nat.le_refl _)) (fun j v hj=>?_) hge (hgt c) ?_
    · rw[List.take_of_length_le (by omega),List.drop_eq_nil_of_le (by omega)] at hj
      have hjl:j<(cs++ [Value.int .i64 x]).length:=by
        rcases Nat.lt_or_ge j (cs++ [Value.int .i64 x]).length with h | h
        · exact h
        · rw[List.getElem?_eq_none h] at hj;cases hj
      rw[Nat.zero_add,Array.getElem?_append_left (by simpa using hjl),List.getElem?_toArray]
      exact hj
    · rw[Array.size_append,hzc _ _ rfl]
      simp[hcl];omega
  rcases hos with rfl | ⟨b,hnb,hd,hcc,rfl⟩
  · have hr0:rows= []:=List.eq_nil_of_length_eq_zero (by omega)
    refine hend a0 0 (by omega) (by omega) (by omega) (fun _=>by omega) (fun ad _ j v hj=>?_)
    rw[hcs,hr0] at hj;simp at hj
  · obtain⟨ac,t,vals,hheap,hcap,hvals,hat,hsz⟩:=o5 b hnb
    have hdr:(g.ρ n).drop=0:=by omega
    rw[hdr,List.drop_zero] at hvals
    have:=repInts hvals
    subst this
    obtain⟨off,hoff⟩:∃off,off=(g.ρ n).base+(0 - (g.ρ n).drop)*(g.ρ n).w:=⟨_,rfl⟩
    have hoff':off=(g.ρ n).base:=by rw[hoff];simp
    rw[←hoff]
    have hcpos:rows≠ []:=by
      intro e
      have:=o6 (by rw[e];rfl)
      rw[this] at hnb;cases hnb
    have hwd:(g.ρ n).w=1:=by
      cases rows with
      | nil=>exact absurd rfl hcpos
      | cons y l=>exact (o4 (cI y) (by simp)).symm
    rw[hwd,←hoff'] at hat
    rw[hwd,←hoff',hdr] at hsz
    have hcapc:c=(g.ρ n).cap:=by omega
    have hct:c≤top:=by have:=hcap.2;rw[hdr] at this;omega
    have hroomA:off+c≤ac.size:=by rw[hcapc];simpa using hsz
    have hac:∀j v,cs[j]? =some v→ac[off+j]? =some v:=fun j v hj=>by
      rw[hcs,List.getElem?_map,Option.map_eq_some_iff] at hj
      obtain⟨y,hy,rfl⟩:=hj
      have:=(hat j [.int .i64 y] (by rw[List.getElem?_map,hy];rfl)).2 0 (.int .i64 y) rfl
      simpa using this
    have hcell:∀j v,cs[j]? =some v→w.cell? ⟨b,off+j,none⟩=some v:=fun j v hj=>by simp[World.cell?,hheap,hac j v hj]
    have hthere:∀j,j<c→(w.cell? ⟨b,off+j,none⟩).isSome=true:=fun j hj=>by
      have:off+j<ac.size:=by omega
      simp[World.cell?,hheap,this]
    have hfro:∀j,w.frozen? ⟨b,j,none⟩=false:=fun j=>by simp[World.frozen?,hheap]
    have hfrv:∀j,w.frozen? ⟨vb,j,none⟩=false:=fun j=>by simp[World.frozen?,mheap]
    have hbv:vb≠b:=fun e=>hmn (hs.inj m n b (by rw[hM];simp) (by rw[hH];simp) (by rw[←e];exact hvb) hnb)
    have hblt:b<w.heap.size:=(hn2 b hnb).2
    have hone:=one_ints rows
    rw[←hcs] at hone
    have h63:c≤9223372036854775807:=hct
    by_cases hie:i=rows.length
    · by_cases hroom:rows.length+1≤c
      · have:=Any2.slices_Insert_int_end_room L b off rows.length c vb Vo 1 c2 [.int .i64 x] w (by omega) hroom h63 rfl (fun j hj=>by rw[Nat.add_assoc];exact hthere _ (by omega)) (fun j _=>hfro _) hvs (by simp[Value.oneCell'])
        have hii:Value.int .i64 (i:Int)=Value.int .i64 (rows.length:Int):=by rw[hie]
        rw[hii]
        refine this.mono ?_
        rintro e w' ⟨rfl,rfl⟩
        obtain⟨p1,ac',p2,p3,p4,p5⟩:=Zhj b [Value.int .i64 x] (off+rows.length) w hheap
        refine key _ _ off c ac' t p2 p1 (.inl hnb) (fun j v hj=>?_) hroom hct (by omega)
        rw[List.take_of_length_le (by omega),List.drop_eq_nil_of_le (by omega)] at hj
        have hjl:j<(cs++ [Value.int .i64 x]).length:=by
          rcases Nat.lt_or_ge j (cs++ [Value.int .i64 x]).length with h | h
          · exact h
          · rw[List.getElem?_eq_none h] at hj;cases hj
        simp only[List.length_append,List.length_cons,List.length_nil,hcl] at hjl
        rw[p5 _ (by omega)]
        by_cases hjr:j<rows.length
        · rw[if_neg (by omega)]
          rw[List.getElem?_append_left (by omega)] at hj
          exact hac j v hj
        · rw[if_pos (by simp;omega)]
          rw[List.getElem?_append_right (by omega),hcl] at hj
          rw[show off+j - (off+rows.length)=j - rows.length by omega]
          exact hj
      · exact hend _ c hie hc (by omega) (fun h=>by cases h) (fun ad had j v hj=>by
          cases had
          rw[Zdv]
          exact hcell j v hj)
    · have hilt:i<rows.length:=by omega
      by_cases hroom:rows.length+1≤c
      · have:=Any2.slices_Insert_int_shift L b off rows.length c i vb Vo 1 c2 cs [.int .i64 x] w hilt (by omega) hroom h63 hbv hcl rfl hcell (fun j hj=>hthere _ (by omega)) (fun j _=>hfro _) hvs hone (by simp[Value.oneCell'])
          mt t mc.size ac.size (by simp[World.shape?,mheap]) (by simp[World.shape?,hheap]) (by omega) (hfrv _) (hfrv _)
        refine this.mono ?_
        rintro e w' ⟨rfl,rfl⟩
        obtain⟨p1,ac1,p2,p3,p4,p5⟩:=Zhj b (cs.drop i) (off+(i+1)) w.drew (cs:=ac) hheap
        obtain⟨q1,ac2,q2,q3,q4,q5⟩:=Zhj b [Value.int .i64 x] (off+i) _ p2
        refine key _ _ off c ac2 t q2 (Only.trans (Only.trans (Only.drew w b) p1) q1) (.inl hnb) (fun j v hj=>?_) hroom hct (by omega)
        have hjl:j<rows.length+1:=by
          rcases Nat.lt_or_ge j (rows.length+1) with h | h
          · exact h
          · rw[List.getElem?_eq_none (by omega)] at hj;cases hj
        rw[q5 _ (by omega)]
        rcases Nat.lt_trichotomy j i with h | h | h
        · rw[if_neg (by omega),p5 _ (by omega),if_neg (by omega)]
          rw[List.getElem?_append_left (by simp;omega),List.getElem?_take,if_pos h] at hj
          exact hac j v hj
        · subst h
          rw[if_pos (by simp)]
          rw[List.getElem?_append_right (by simp;omega)] at hj
          simp only[List.length_take,hcl,Nat.min_eq_left hi,Nat.sub_self,List.getElem?_cons_zero] at hj
          simpa using hj
        · rw[if_neg (by simp;omega),p5 _ (by omega),if_pos (by simp[hcl];omega)]
          rw[List.getElem?_append_right (by simp;omega)] at hj
          simp only[List.length_take,hcl,Nat.min_eq_left hi] at hj
          rw[show j - i=(j - (i+1))+1 by omega,List.getElem?_cons_succ] at hj
          rw[show off+j - (off+(i+1))=j - (i+1) by omega]
          exact hj
      · have:=Any2.slices_Insert_int_grow L b off rows.length c i vb Vo 1 c2 cs [.int .i64 x] w hilt (by omega) hc (by omega) hbig hcl rfl hcell hvs hone (by simp[Value.oneCell'])
        refine this.mono ?_
        rintro e w' ⟨rfl,rfl⟩
        have hge:=Zhz w (rows.length+1) c (ρ.t 3)
        obtain⟨W,hW⟩:∃W,W=w.alloc (.cells ((cs.take i).toArray++Builtin.zeroCells (Value.int .i64 0).cells (rows.length+1 - i)++Builtin.zeroCells (Value.int .i64 0).cells (grownCap w (rows.length+1) c (ρ.t 3) - (rows.length+1))) (ρ.t 3)):=⟨_,rfl⟩
        have hWh:W.drew.heap[w.heap.size]? =some (.cells ((cs.take i).toArray++Builtin.zeroCells (Value.int .i64 0).cells (rows.length+1 - i)++Builtin.zeroCells (Value.int .i64 0).cells (grownCap w (rows.length+1) c (ρ.t 3) - (rows.length+1))) (ρ.t 3) (0,0)):=by
          rw[hW];exact da_new w _
        have hO:Only w W.drew w.heap.size:=by
          rw[hW]
          exact⟨rfl,rfl,rfl,by show _≤(w.heap.push _).size;simp,fun b' hb' _=>da_old w _ hb'⟩
        rw[←hW]
        obtain⟨p1,ac1,p2,p3,p4,p5⟩:=Zhj w.heap.size [Value.int .i64 x] i W.drew hWh
        have p2':(W.drew.setCells w.heap.size i [Value.int .i64 x]).drew.heap[w.heap.size]? =some (.cells ac1 (ρ.t 3) (0,0)):=p2
        obtain⟨q1,ac2,q2,q3,q4,q5⟩:=Zhj w.heap.size (cs.drop i) (i+1) _ p2'
        have hs0:((cs.take i).toArray++Builtin.zeroCells (Value.int .i64 0).cells (rows.length+1 - i)++Builtin.zeroCells (Value.int .i64 0).cells (grownCap w (rows.length+1) c (ρ.t 3) - (rows.length+1))).size=grownCap w (rows.length+1) c (ρ.t 3):=by
          rw[Array.size_append,Array.size_append,hzc _ _ rfl,hzc _ _ rfl]
          simp[hcl];omega
        rw[hs0] at p3 p5
        refine key _ _ 0 _ ac2 _ q2 (Only.trans (Only.trans hO p1) (Only.trans (Only.drew _ _) q1)) (.inr (Nat.le_refl _)) (fun j v hj=>?_) hge (hgt c) (by omega)
        have hjl:j<rows.length+1:=by
          rcases Nat.lt_or_ge j (rows.length+1) with h | h
          · exact h
          · rw[List.getElem?_eq_none (by omega)] at hj;cases hj
        rw[Nat.zero_add,q5 _ (by omega)]
        rcases Nat.lt_trichotomy j i with h | h | h
        · rw[if_neg (by omega),p5 _ (by omega),if_neg (by omega)]
          rw[List.getElem?_append_left (by simp;omega)] at hj
          rw[Array.append_assoc,Array.getElem?_append_left (by simp;omega),List.getElem?_toArray]
          exact hj
        · subst h
          rw[if_neg (by omega),p5 _ (by omega),if_pos (by simp)]
          rw[List.getElem?_append_right (by simp;omega)] at hj
          simp only[List.length_take,hcl,Nat.min_eq_left hi,Nat.sub_self,List.getElem?_cons_zero] at hj
          simpa using hj
        · rw[if_pos (by simp[hcl];omega)]
          rw[List.getElem?_append_right (by simp;omega)] at hj
          simp only[List.length_take,hcl,Nat.min_eq_left hi] at hj
          rw[show j - i=(j - (i+1))+1 by omega,List.getElem?_cons_succ] at hj
          exact hj
theorem call_ins (L:Lays2.n21 P ρ) {f n m:Nat} {rows:List Int} {i:Int} {x:Int} {avs:List AV} {H:Heap} {k:Nat} {K:AV→Heap→Nat→Prop} (hf:ρ.f 21=f) (hH:H.get n=some (.slice (rows.map cI)))
  (hM:H.get m=some (.slice [cI x])) (hmn:m≠n) (hx:avs= [.os n 0 rows.length,.p (vi i),.os m 0 1]) (h0:0≤i) (hi:i≤rows.length) (hb:(rows.length+1)*8≤lim)
  (hK:K (.p (.sl ((insI rows i.toNat x).map cI))) ((H.set n (.slice ((insI rows i.toNat x).map cI))).frz (inL [n]) (H.set n (.slice ((insI rows i.toNat x).map cI)))) k):ACalls P f avs H k K:=by
 subst hx hf
 refine calls_frz2 (inL [n]) ?_
 have:=ins_calls L (i:=i.toNat) (x:=x) (k:=k) hH hM hmn (by omega) hb
 rw[Int.toNat_of_nonneg h0] at this
 intro g w args hs ha
 refine (this g w args hs ha).mono ?_
 rintro e w' ⟨v,r,g',H',k',e1,⟨rfl,rfl,rfl⟩,h1,h2,h3⟩
 refine⟨v,_,g',_,_,e1,?_,h1,h2,h3⟩
 have hg:(H.set n (.slice ((insI rows i.toNat x).map cI))).get n=some (.slice ((insI rows i.toNat x).map cI)):=by simp[Heap.get_set,hH]
 have hq:inL [n] n=true:=by simp[inL]
 have:AV.frz (inL [n]) (H.set n (.slice ((insI rows i.toNat x).map cI))) (.os n 0 (insI rows i.toNat x).length)= .p (.sl ((insI rows i.toNat x).map cI)):=by
  simp[AV.frz,hq,hg]
 dsimp only
 rw[this]
 exact hK
end Go.Abs
