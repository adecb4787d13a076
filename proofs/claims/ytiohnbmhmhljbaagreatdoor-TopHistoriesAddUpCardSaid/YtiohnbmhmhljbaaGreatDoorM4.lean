/-
  Abs,part 27:calls that write into one own slice of their caller. Abs,part 29:the walk of a region whose order is open,where some pairs change places because they are not at the same block. Abs,part 30:functions that write into one own slice of their caller:how such a function ends. (and more of this kind).
-/
import Derived.Test.YtiohnbmhmhljbaaGreatDoorM3
namespace Go.Abs
open Go
variable {P:Program}
def AMut (P:Program) (f:FuncId) (xs:List AV) (rows:List (List PV)) (r:AV) (rows':List (List PV)):Prop :=
 ACalls P f xs [(0,.slice rows)] 1 (fun r' H' k'=>r'=r∧H'= [(0,.slice rows')]∧k'=1)
def renA (n:Nat):AV→AV
 | .os 0 off len=> .os n off len
 | x=>x
def own1:AV→Prop
 | .os m _ _=>m=0
 | x=>ZaH 0 x
def own1L:List AV→Prop
 | []=>True
 | x :: r=>own1 x∧own1L r
theorem own1_cases {x:AV} (h:own1 x):(∃off len,x= .os 0 off len)∨ZaH 0 x∧∀n,renA n x=x:=by
 cases x<;>simp only[own1] at h
 case os m off len=>subst h;exact .inl ⟨off,len,rfl⟩
 all_goals exact .inr ⟨h,fun _=>rfl⟩
theorem ren_in {g g0:G} {H:Heap} {k n:Nat} {rows:List (List PV)} (hf:g0.fz=g.fz) (hρ:g0.ρ 0=g.ρ n) (hn:H.get n=some (.slice rows)):∀(xs:List AV) (vs:List Value),own1L xs→ARepL g H k (xs.map (renA n)) vs→ARepL g0 [(0,.slice rows)] 1 xs vs
 | [],_,_,h=>by simpa only[List.map_nil,ARepL] using h
 | x :: xs,vs,ho,h=>by
  simp only[List.map_cons,ARepL,own1L] at *
  obtain⟨v,r,rfl,h1,h2⟩:=h
  refine⟨v,r,rfl,?_,ren_in hf hρ hn xs r ho.2 h2⟩
  rcases own1_cases ho.1 with ⟨off,len,rfl⟩ | ⟨hb,hr⟩
  ·simp only[renA,ARep] at h1 ⊢
   obtain⟨_,h3,h4⟩:=h1
   refine⟨Nat.one_pos,h3,fun rows' hr=>?_⟩
   simp only[Heap.get,if_true,Option.some.injEq,AObj.slice.injEq] at hr
   subst hr
   rw[hρ];exact h4 _ hn
  ·rw[hr] at h1
   exact Zew hf x v hb h1
open Classical in
theorem ZaV {f:FuncId} {xs:List AV} {r:AV} {rows rows':List (List PV)} {avs:List AV} {H:Heap} {k:Nat} {K:AV→Heap→Nat→Prop} (hc:AMut P f xs rows r rows') (n:Nat) (hn:H.get n=some (.slice rows)) (hx:avs=xs.map (renA n)) (hxs:own1L xs) (hr:own1 r)
    (hK:K (renA n r) (H.set n (.slice rows')) k):ACalls P f avs H k K:=by
  subst hx
  intro g w args hs ha
  obtain⟨q1,q2,q3⟩:=hs.obj n _ hn
  let g0:G:=⟨fun _=>g.ρ n,g.fz⟩
  have h0get:∀m,Heap.get [(0,AObj.slice rows)] m≠none→m=0:=fun m h=>by
    simp only[Heap.get] at h
    split at h
    · rename_i e;exact e.symm
    · exact absurd rfl h
  have hs0:SimH g0 w [(0,.slice rows)] 1:=by
    refine⟨fun m o h=>?_,fun m m' b h1 h2 _ _=>by rw[h0get m h1,h0get m' h2],hs.fz⟩
    have hm:m=0:=h0get m (by rw[h];simp)
    subst hm
    simp only[Heap.get,if_true,Option.some.injEq] at h
    subst h
    refine⟨Nat.one_pos,?_,fun b hb=>q3 b hb⟩
    simp only[ORep] at q2 ⊢
    exact q2
  refine (hc g0 w args hs0 (ren_in (g:=g) (g0:=g0) (n:=n) rfl rfl hn _ _ hxs ha)).mono ?_
  rintro e w' ⟨v,r',g',H',k',rfl,⟨rfl,rfl,rfl⟩,h1,h2,h3⟩
  have hname:∀b,(g'.ρ 0).has b→(g.ρ n).has b∨w.heap.size≤b:=fun b hb=>by
    rcases h3.blks 0 b (by simp[Heap.get]) hb with ⟨m,_,h5⟩ | h5
    · exact .inl h5
    · exact .inr h5
  have hnew:∀b o,g'.fz b=some o→g.fz b=some o∨(g.ρ n).has b∨w.heap.size≤b:=fun b o h=>by
    rcases h3.fzNew b o h with h | ⟨m,_,h5⟩ | h5
    · exact .inl h
    · exact .inr (.inl h5)
    · exact .inr (.inr h5)
  have hcomp:Compat (g.ρ n) (g'.ρ 0) (.slice rows) (.slice rows'):=h3.compat 0 _ _ Nat.one_pos (by simp[Heap.get]) (by simp[Heap.get])
  obtain⟨p1,p2,p3⟩:=h2.obj 0 (.slice rows') (by simp[Heap.get])
  let g2:G:=⟨fun m=>if m=n then g'.ρ 0 else g.ρ m,g'.fz⟩
  have e2:g2.ρ n=g'.ρ 0:=if_pos rfl
  have e3:∀m,m≠n→g2.ρ m=g.ρ m:=fun m h=>if_neg h
  have hget:∀m,(H.set n (.slice rows')).get m=if n=m then some (.slice rows') else H.get m:=fun m=>by
    rw[Heap.get_set]
    by_cases h:n=m
    · rw[if_pos ⟨h,by rw[hn];simp⟩,if_pos h]
    · rw[if_neg (fun e=>h e.1),if_neg h]
  have hk:Keeps g H k g2 (H.set n (.slice rows')) k:=by
    refine⟨Nat.le_refl _,h3.fz,fun m o' hm ho=>?_⟩
    rw[hget] at ho
    by_cases h:n=m
    · subst h
      rw[if_pos rfl] at ho;cases ho
      exact⟨_,hn,by rw[e2];exact hcomp⟩
    · rw[if_neg h] at ho
      exact⟨o',ho,by rw[e3 m (Ne.symm h)];exact Compat.refl _ _⟩
  have hother:∀m o,m≠n→H.get m=some o→∀b,(g.ρ m).has b→g'.fz b=none∧¬(g.ρ n).has b∧b<w.heap.size:=fun m o hm ho b hb=>by
    obtain⟨_,_,t3⟩:=hs.obj m o ho
    have hne:¬(g.ρ n).has b:=fun e=>hm (hs.inj m n b (by rw[ho];simp) (by rw[hn];simp) hb e)
    refine⟨?_,hne,(t3 b hb).2⟩
    cases e:g'.fz b with
    | none=>rfl
    | some o' =>
      rcases hnew b o' e with h5 | h5 | h5
      · rw[(t3 b hb).1] at h5;cases h5
      · exact absurd h5 hne
      · have:=(t3 b hb).2;omega
  have hfr:∀b,b<w.heap.size→¬(g.ρ n).has b→w'.heap[b]? =w.heap[b]? :=fun b hb hne=>h3.frame b hb (fun m hm=>hne)
  have hsz:=h3.size
  refine⟨v,renA n r',g2,H.set n (.slice rows'),k,rfl,hK,?_,⟨fun m o h=>?_,fun m m' b h4 h5 h6 h7=>?_,h2.fz⟩,?_⟩
  · rcases own1_cases hr with ⟨off,len,rfl⟩ | ⟨hb,hr⟩
    · simp only[renA,ARep] at h1 ⊢
      obtain⟨_,h4,h5⟩:=h1
      refine⟨q1,h4,fun rows2 hr=>?_⟩
      rw[hget,if_pos rfl] at hr
      cases hr
      rw[e2];exact h5 _ (by simp[Heap.get])
    · rw[hr];exact Zew (g:=g') (g':=g2) rfl _ _ hb h1
  · rw[hget] at h
    by_cases hm:n=m
    · subst hm
      rw[if_pos rfl] at h;cases h
      refine⟨q1,?_,fun b hb=>by rw[e2] at hb;exact p3 b hb⟩
      simp only[ORep] at p2 ⊢
      rw[e2];exact p2
    · rw[if_neg hm] at h
      obtain⟨t1,t2,t3⟩:=hs.obj m o h
      have ho:=hother m o (Ne.symm hm) h
      refine⟨t1,ORep.keeps hk (e3 m (Ne.symm hm)) (fun b hb=>hfr b (ho b hb).2.2 (ho b hb).2.1) t2,fun b hb=>?_⟩
      rw[e3 m (Ne.symm hm)] at hb
      exact⟨(ho b hb).1,Nat.lt_of_lt_of_le (ho b hb).2.2 hsz⟩
  · have key:∀m,m≠n→H.get m≠none→(g.ρ m).has b→(g'.ρ 0).has b→False:=fun m hm hg hb hb'=>by
      cases ho:H.get m with
      | none=>exact hg ho
      | some o =>
        have ht:=hother m o hm ho b hb
        rcases hname b hb' with h8 | h8
        · exact ht.2.1 h8
        · have:=ht.2.2;omega
    rw[hget] at h4 h5
    by_cases hm:n=m<;>by_cases hm':n=m'
    · rw[←hm,←hm']
    · subst hm
      rw[if_neg hm'] at h5
      rw[e2] at h6;rw[e3 m' (Ne.symm hm')] at h7
      exact (key m' (Ne.symm hm') h5 h7 h6).elim
    · subst hm'
      rw[if_neg hm] at h4
      rw[e2] at h7;rw[e3 m (Ne.symm hm)] at h6
      exact (key m (Ne.symm hm) h4 h6 h7).elim
    · rw[if_neg hm] at h4;rw[if_neg hm'] at h5
      rw[e3 m (Ne.symm hm)] at h6;rw[e3 m' (Ne.symm hm')] at h7
      exact hs.inj m m' b h4 h5 h6 h7
  · exact { kle:=Nat.le_refl _,os:=h3.os,tape:=h3.tape,output:=h3.output,size:=hsz,fz:=h3.fz
            fzNew:=fun b o h=>(hnew b o h).imp id (Or.imp (fun h5=>⟨n,by rw[hn];simp,h5⟩) id)
            frame:=fun b hb hno=>hfr b hb (hno n (by rw[hn];simp))
            names:=fun m _ hm=>e3 m (fun e=>by subst e;rw[hn] at hm;cases hm)
            dom:=fun m _ hm=>by
              rw[hget,if_neg (fun e=>by subst e;rw[hn] at hm;cases hm)];exact hm
            compat:=fun m o o' _ h h'=>by
              rw[hget] at h'
              by_cases hm:n=m
              · subst hm
                rw[if_pos rfl] at h';cases h'
                rw[hn] at h;cases h
                rw[e2];exact hcomp
              · rw[if_neg hm,h] at h';cases h'
                rw[e3 m (Ne.symm hm)];exact Compat.refl _ _
            blks:=fun m b h h'=>by
              rw[hget] at h
              by_cases hm:n=m
              · subst hm
                rw[e2] at h'
                exact (hname b h').imp (fun h5=>⟨n,by rw[hn];simp,h5⟩) id
              · rw[if_neg hm] at h
                rw[e3 m (Ne.symm hm)] at h'
                exact .inl ⟨m,h,h'⟩}
end Go.Abs
namespace Go.Abs
open Go
variable {P:Program}
def SoftAll (P:Program) (ls:List LOp) (e:RX→AV) (k0:Nat):List (Nat × Nat)→Prop
 | []=>True
 | p :: r=>(match ls[p.1]?,ls[p.2]? with | some a,some b=>SoftOK P e k0 a b | _,_=>True)∧SoftAll P ls e k0 r
theorem SoftAll.at {ls:List LOp} {e:RX→AV} {k0:Nat}:∀ {ps:List (Nat × Nat)},SoftAll P ls e k0 ps→∀p∈ps,∀a b,ls[p.1]? =some a→ls[p.2]? =some b→SoftOK P e k0 a b
 | [],_,p,hp,_,_,_,_=>by cases hp
 | q :: r,h,p,hp,a,b,ha,hb=>by
  cases hp with
  | head=>have:=h.1;rw[ha,hb] at this;exact this
  | tail _ hp=>exact SoftAll.at h.2 p hp a b ha hb
theorem aw_x {nt:Nat} {ps:List (Nat × Nat)} {ls:List LOp} {Q:RExit→St→Prop} {st:St} (h:vD P ls st (fun s=>SoftAll P ls s.ev st.k ps∧Q .normal s)):AWr P nt (.soft ps ls) Q st :=
 aw_soft (vS_mono (fun _ hs=>⟨SoftAll.at hs.1,hs.2⟩) (vD_vS h))
theorem aw_sx {nt:Nat} {ps:List (Nat × Nat)} {ls:List LOp} {y:RCode} {Q:RExit→St→Prop} {st:St} (h:vD P ls st (fun s=>SoftAll P ls s.ev st.k ps∧AWr P nt y Q s)):AWr P nt (.seq (.soft ps ls) y) Q st:=ZgA (aw_x h)
theorem aw_sxH {nt:Nat} {ps:List (Nat × Nat)} {ls:List LOp} {y:RCode} {Q:RExit→St→Prop} {st:St} (h:∀K,IsK K (fun s=>SoftAll P ls s.ev st.k ps∧AWr P nt y Q s)→vD P ls st K):AWr P nt (.seq (.soft ps ls) y) Q st :=
 aw_sx (h _ ⟨rfl⟩)
theorem SoftOK.rw {e:RX→AV} {k0:Nat} {a b:LOp} {ns ms:List Nat} (h1:rdN e a.op=some ns) (h2:wrN e b.op=some ms) (h:∀n∈ns,n<k0∧n ∉ ms):SoftOK P e k0 a b:= .inl ⟨ns,ms,.inl ⟨h1,h2⟩,h⟩
theorem SoftOK.wr {e:RX→AV} {k0:Nat} {a b:LOp} {ns ms:List Nat} (h1:rdN e b.op=some ns) (h2:wrN e a.op=some ms) (h:∀n∈ns,n<k0∧n ∉ ms):SoftOK P e k0 a b:= .inl ⟨ns,ms,.inr ⟨h1,h2⟩,h⟩
theorem CallOK.mk {e:RX→AV} {o:LOp} {f:FuncId} {args:List RX} {xs:List AV} {r:AV} (ho:o.op= .call f args) (hc:APure P f xs r) (hx:args.map e=xs) (hxs:ZaC 0 xs) (hr:ZaH 0 r) (hd:∀d,o.dst=some d→e (.t d)=r):CallOK P e o :=
 ⟨f,args,r,ho,fun _ _=>Zar hc hx hxs hr ⟨rfl,rfl,rfl⟩,hd⟩
theorem SoftOK.ca {e:RX→AV} {k0:Nat} {a b:LOp} (h:CallOK P e a) (hm:b.op.moves=true):SoftOK P e k0 a b:= .inr (.inl ⟨h,hm⟩)
theorem SoftOK.cb {e:RX→AV} {k0:Nat} {a b:LOp} (h:CallOK P e b) (hm:a.op.moves=true):SoftOK P e k0 a b:= .inr (.inr ⟨h,hm⟩)
end Go.Abs
namespace Go.Abs
open Go
variable {P:Program}
def FinM (rs:List RRes) (s:St) (r:AV) (rows':List (List PV)):Prop :=
 match resv rs s with
 | some r'=>r'=r∧ZaH 1 r∧s.H.get 0=some (.slice rows')
 | none=>False
theorem amut {f:FuncId} {rf:RFun} (hl:lowF P f=some rf) {xs:List AV} {r:AV} {rows rows':List (List PV)} (hn:xs.length=rf.np)
  (h:AWr P rf.nt rf.code (fun e s=>match e with | .exit _=>False | _=>FinM rf.res s r rows') ⟨ZaG 0 xs,[(0,.slice rows)],1⟩):AMut P f xs rows r rows':=by
 have key:∀s,FinM rf.res s r rows'→Fin rf.res s 1 (fun r' H' k'=>r'=r∧H'= [(0,.slice rows')]∧k'=1):=by
  intro s h
  unfold FinM at h
  unfold Fin
  cases hr:resv rf.res s with
  | none=>rw[hr] at h;exact h.elim
  | some r' =>
   rw[hr] at h
   obtain⟨rfl,h2,h3⟩:=h
   exact⟨r',[(0,.slice rows')],1,RUpd.sub (Nat.le_refl _) h2 ⟨h3,Nat.one_pos,trivial,trivial⟩,rfl,rfl,rfl⟩
 refine afun hl hn (Zd5 h ?_)
 intro e s hs
 cases e with
 | exit id=>exact hs
 | normal=>exact key s hs
 | ret=>exact key s hs
def chk (b:Bool):Option Unit:=if b=true then some () else none
theorem chk_some {b:Bool} {u:Unit} (h:chk b=some u):b=true:=by
 unfold chk at h;split at h
 ·assumption
 ·cases h
theorem Za9 {m n:Nat} {u:Unit} (h:chk (m == n)=some u):m=n:=by simpa using chk_some h
theorem ZbB {m n:Nat} (h:m=n):chk (m == n)=some ():=if_pos (by simpa using h)
def AOwn (P:Program) (f:FuncId) (xs:List AV) (rows:List (List PV)):Prop :=
 ACalls P f xs [] 0 (fun r' H' k'=>∃n,r'= .os n 0 rows.length∧H'= [(n,.slice rows)]∧k'=n+1)
def FinO (rs:List RRes) (s:St) (rows:List (List PV)):Prop :=
 match resv rs s with
 | some (.os n off len)=>off=0∧len=rows.length∧s.H.get n=some (.slice rows)
 | some (.p (.c (.slice none 0 0)))=>rows= []
 | _=>False
theorem aown {f:FuncId} {rf:RFun} (hl:lowF P f=some rf) {xs:List AV} {rows:List (List PV)} (hn:xs.length=rf.np)
  (h:AWr P rf.nt rf.code (fun e s=>match e with | .exit _=>False | _=>FinO rf.res s rows) ⟨ZaG 0 xs,[],0⟩):AOwn P f xs rows:=by
 have key:∀s,FinO rf.res s rows→Fin rf.res s 0 (fun r' H' k'=>∃n,r'= .os n 0 rows.length∧H'= [(n,.slice rows)]∧k'=n+1):=by
  intro s h
  unfold FinO at h
  unfold Fin
  cases hr:resv rf.res s with
  | none=>rw[hr] at h;exact h.elim
  | some r' =>
   rw[hr] at h
   split at h
   ·rename_i n off len e
    cases e
    obtain⟨rfl,rfl,h3⟩:=h
    exact⟨_,[(n,.slice rows)],n+1,RUpd.sub (Nat.zero_le _) (Nat.lt_succ_self n) ⟨h3,Nat.lt_succ_self n,trivial,trivial⟩,n,rfl,rfl,rfl⟩
   ·rename_i e
    cases e
    subst h
    refine⟨_,[(s.k,.slice [])],s.k+1,fun g w v hs hv=>?_,s.k,rfl,rfl,rfl⟩
    obtain⟨g',h1,h2,h3,h4⟩:=own_new hs
    have hH:∀n o,Heap.get [(s.k,AObj.slice [])] n=some o→Heap.get ((s.k,AObj.slice []) :: s.H) n=some o:=fun n o h=>by
     simp only[Heap.get] at h ⊢
     split
     ·rename_i e;rw[if_pos e] at h;exact h
     ·rename_i e;rw[if_neg e] at h;cases h
    rw[Zdm hv]
    refine⟨g',h2.sub hH (fun n o h=>?_),ARep.sub hH _ _ h4 (Nat.lt_succ_self _),fun g0 w0 H0 e=>(e.trans h3).sub hH (Nat.zero_le _)⟩
    simp only[Heap.get] at h
    split at h
    ·rename_i e;cases h;exact⟨by omega,trivial⟩
    ·cases h
   ·exact h.elim
 refine afun hl hn (Zd5 h ?_)
 intro e s hs
 cases e with
 | exit id=>exact hs
 | normal=>exact key s hs
 | ret=>exact key s hs
theorem call_new {f:FuncId} {xs:List AV} {rows:List (List PV)} {avs:List AV} {H:Heap} {k:Nat} {K:AV→Heap→Nat→Prop} (hc:AOwn P f xs rows) (hx:avs=xs) (hxs:ZaC 0 xs)
    (hK:K (.os k 0 rows.length) ((k,.slice rows) :: H) (k+1)):ACalls P f avs H k K:=by
  subst hx
  intro g w args hs ha
  refine (hc g w args (hs.nil 0) (Zdp rfl _ _ hxs ha)).mono ?_
  rintro e w' ⟨v,r',g',H',k',rfl,⟨n,rfl,rfl,rfl⟩,h1,h2,h3⟩
  have hfr:∀b,b<w.heap.size→w'.heap[b]? =w.heap[b]? :=fun b hb=>h3.frame b hb (fun n h=>absurd rfl h)
  have hgetn:Heap.get [(n,AObj.slice rows)] n=some (.slice rows):=by simp[Heap.get]
  have hblk:∀b,(g'.ρ n).has b→w.heap.size≤b:=fun b hb=>by
    rcases h3.blks n b (by rw[hgetn];simp) hb with ⟨m,h5,_⟩ | h5
    · exact absurd rfl h5
    · exact h5
  have hnew:∀b o,g'.fz b=some o→g.fz b=some o∨w.heap.size≤b:=fun b o h=>by
    rcases h3.fzNew b o h with h | ⟨m,h5,_⟩ | h5
    · exact .inl h
    · exact absurd rfl h5
    · exact .inr h5
  have hkn:H.get k=none:=by
    cases h:H.get k with
    | none=>rfl
    | some o=>have:=(hs.obj k o h).1;omega
  let g2:G:=⟨fun m=>if m=k then g'.ρ n else g.ρ m,g'.fz⟩
  have e2:g2.ρ k=g'.ρ n:=if_pos rfl
  have e3:∀m,m≠k→g2.ρ m=g.ρ m:=fun m h=>if_neg h
  have hget:∀m,m≠k→Heap.get ((k,AObj.slice rows) :: H) m=H.get m:=fun m h=>by simp[Heap.get,Ne.symm h]
  have hgetk:Heap.get ((k,AObj.slice rows) :: H) k=some (.slice rows):=by simp[Heap.get]
  have hlt:∀m,H.get m≠none→m≠k:=fun m h e=>h (e▸hkn)
  have hk:Keeps g H k g2 ((k,.slice rows) :: H) (k+1):=by
    refine⟨Nat.le_succ _,h3.fz,fun m o' hm ho=>?_⟩
    have hne:m≠k:=Nat.ne_of_lt hm
    rw[hget m hne] at ho
    exact⟨o',ho,by rw[e3 m hne];exact Compat.refl _ _⟩
  obtain⟨p1,p2,p3⟩:=h2.obj n _ hgetn
  have hsz:=h3.size
  refine⟨v,_,g2,_,_,rfl,hK,?_,⟨fun m o h=>?_,fun m m' b h4 h5 h6 h7=>?_,h2.fz⟩,?_⟩
  · simp only[ARep] at h1 ⊢
    obtain⟨_,h4,h5⟩:=h1
    refine⟨Nat.lt_succ_self _,h4,fun rows2 hr=>?_⟩
    rw[hgetk] at hr
    cases hr
    rw[e2];exact h5 _ hgetn
  · by_cases hm:m=k
    · subst hm
      rw[hgetk] at h;cases h
      refine⟨Nat.lt_succ_self _,?_,fun b hb=>by rw[e2] at hb;exact p3 b hb⟩
      simp only[ORep] at p2 ⊢
      rw[e2];exact p2
    · rw[hget m hm] at h
      obtain⟨t1,t2,t3⟩:=hs.obj m o h
      refine⟨Nat.lt_succ_of_lt t1,ORep.keeps hk (e3 m hm) (fun b hb=>hfr b (t3 b hb).2) t2,fun b hb=>?_⟩
      rw[e3 m hm] at hb
      refine⟨?_,Nat.lt_of_lt_of_le (t3 b hb).2 hsz⟩
      cases e:g'.fz b with
      | none=>rfl
      | some o' =>
        rcases hnew b o' e with h5 | h5
        · rw[(t3 b hb).1] at h5;cases h5
        · have:=(t3 b hb).2;omega
  · have key:∀m,m≠k→Heap.get ((k,AObj.slice rows) :: H) m≠none→(g2.ρ m).has b→(g'.ρ n).has b→False:=fun m hm hg hb hb'=>by
      rw[hget m hm] at hg
      rw[e3 m hm] at hb
      cases ho:H.get m with
      | none=>exact hg ho
      | some o =>
        have h8:=((hs.obj m o ho).2.2 b hb).2
        have:=hblk b hb'
        omega
    by_cases hm:m=k<;>by_cases hm':m'=k
    · rw[hm,hm']
    · subst hm
      rw[e2] at h6
      exact (key m' hm' h5 h7 h6).elim
    · subst hm'
      rw[e2] at h7
      exact (key m hm h4 h6 h7).elim
    · rw[hget m hm] at h4;rw[hget m' hm'] at h5
      rw[e3 m hm] at h6;rw[e3 m' hm'] at h7
      exact hs.inj m m' b h4 h5 h6 h7
  · exact { kle:=Nat.le_succ _,os:=h3.os,tape:=h3.tape,output:=h3.output,size:=hsz,fz:=h3.fz
            fzNew:=fun b o h=>(hnew b o h).imp id .inr
            frame:=fun b hb _=>hfr b hb
            names:=fun m hm _=>e3 m (Nat.ne_of_lt hm)
            dom:=fun m hm h=>by rw[hget m (Nat.ne_of_lt hm)];exact h
            compat:=fun m o o' hm h h'=>by
              rw[hget m (Nat.ne_of_lt hm),h] at h';cases h'
              rw[e3 m (Nat.ne_of_lt hm)];exact Compat.refl _ _
            blks:=fun m b h h'=>by
              by_cases hm:m=k
              · subst hm
                rw[e2] at h'
                exact .inr (hblk b h')
              · rw[hget m hm] at h
                rw[e3 m hm] at h'
                exact .inl ⟨m,h,h'⟩}
theorem renA_p (n:Nat) (x:PV):renA n (.p x)= .p x:=rfl
theorem renA_os (n off len:Nat):renA n (.os 0 off len)= .os n off len:=rfl
theorem renA_fn (n:Nat) (f:Fn) (a b:List AV):renA n (.fn f a b)= .fn f a b:=rfl
theorem renA_tup (n:Nat) (l:List AV):renA n (.tup l)= .tup l:=rfl
theorem own1_p (x:PV):own1 (.p x)=True:=rfl
theorem own1_os (off len:Nat):own1 (.os 0 off len)=True:=eq_true rfl
theorem own1_fn (f:Fn) (a b:List AV):own1 (.fn f a b)=(ZaC 0 a∧ZaC 0 b):=rfl
theorem own1_tup (l:List AV):own1 (.tup l)=ZaC 0 l:=rfl
attribute [go_sem] renA_p renA_os renA_fn renA_tup own1_p own1_os own1_fn own1_tup own1L FinM FinO
end Go.Abs
namespace Go.Abs
open Go
def Out {τ ρ:Type} (B:τ→Prop) (R:ρ→Prop):Sum τ ρ→Prop
 | .inl t=>B t
 | .inr r=>R r
def OutE {σ τ ρ:Type} (N:σ→Prop) (B:τ→Prop) (R:ρ→Prop):Ex σ τ ρ→Prop
 | .next s=>N s
 | .brk t=>B t
 | .ret r=>R r
theorem ZaZ {σ τ ρ:Type} {body:σ→Option (Ex σ τ ρ)} (I:σ→Prop) (μ:σ→Nat) {B:τ→Prop} {R:ρ→Prop}
  (h:∀s,I s→∃z,body s=some z∧OutE (fun s'=>I s'∧μ s'<μ s) B R z):∀s,I s→∃y,loopW body s=some y∧Out B R y:=by
 have:∀n s,μ s≤n→I s→∃y,loopW body s=some y∧Out B R y:=by
  intro n
  induction n with
  | zero =>
   intro s hn hs
   obtain⟨z,h1,h2⟩:=h s hs
   rw[Zd9,h1]
   cases z with
   | next s'=>exact absurd h2.2 (by omega)
   | brk t=>exact⟨_,rfl,h2⟩
   | ret r=>exact⟨_,rfl,h2⟩
  | succ n ih =>
   intro s hn hs
   obtain⟨z,h1,h2⟩:=h s hs
   rw[Zd9,h1]
   cases z with
   | next s'=>exact ih s' (by have:=h2.2;omega) h2.1
   | brk t=>exact⟨_,rfl,h2⟩
   | ret r=>exact⟨_,rfl,h2⟩
 exact fun s hs=>this _ s (Nat.le_refl _) hs
theorem forN_inv' {σ τ ρ:Type} {body:Nat→σ→Option (Ex σ τ ρ)} {fin:σ→τ} (N:Nat) (I:Nat→σ→Prop) {B:τ→Prop} {R:ρ→Prop}
  (h:∀i s,i<N→I i s→∃z,body i s=some z∧OutE (I (i+1)) B R z) (he:∀s,I N s→B (fin s)):∀n i s,i+n=N→I i s→∃y,forN body fin n i s=some y∧Out B R y:=by
 intro n
 induction n with
 | zero=>intro i s hn hs;exact⟨_,rfl,he s (by rw[←hn];exact hs)⟩
 | succ n ih =>
  intro i s hn hs
  obtain⟨z,h1,h2⟩:=h i s (by omega) hs
  simp only[forN,h1,Option.bind_some]
  cases z with
  | next s'=>exact ih (i+1) s' (by omega) h2
  | brk t=>exact⟨_,rfl,h2⟩
  | ret r=>exact⟨_,rfl,h2⟩
theorem forN_inv {σ τ ρ:Type} {body:Nat→σ→Option (Ex σ τ ρ)} {fin:σ→τ} {N:Nat} (I:Nat→σ→Prop) {B:τ→Prop} {R:ρ→Prop} {s:σ} (h0:I 0 s)
  (h:∀i s,i<N→I i s→∃z,body i s=some z∧OutE (I (i+1)) B R z) (he:∀s,I N s→B (fin s)):∃y,forN body fin N 0 s=some y∧Out B R y :=
 forN_inv' N I h he N 0 s (by omega) h0
theorem forL_inv' {α σ τ ρ:Type} {l:List α} {body:Nat→α→σ→Option (Ex σ τ ρ)} {fin:σ→τ} (I:Nat→σ→Prop) {B:τ→Prop} {R:ρ→Prop} {s:σ} (h0:I 0 s)
  (h:∀i x s,l[i]? =some x→I i s→∃z,body i x s=some z∧OutE (I (i+1)) B R z) (he:∀s,I l.length s→B (fin s)):∃y,forL l body fin s=some y∧Out B R y:=by
 unfold forL
 refine forN_inv I h0 (fun i s hi hs=>?_) he
 have hx:l[i]? =some l[i]:=List.getElem?_eq_getElem hi
 rw[hx]
 exact h i _ s hx hs
theorem ZaL {τ ρ:Type} {o:Option (Sum τ ρ)} {k:τ→Option ρ} {B:τ→Prop} {R:ρ→Prop} {Q:ρ→Prop} (h:∃y,o=some y∧Out B R y) (hk:∀t,B t→∃r,k t=some r∧Q r) (hr:∀r,R r→Q r):∃r,seqK o k=some r∧Q r:=by
 obtain⟨y,rfl,hy⟩:=h
 cases y with
 | inl t=>exact hk t hy
 | inr r=>exact⟨r,rfl,hr r hy⟩
def sw (i j k:Nat):Nat:=if k=i then j else if k=j then i else k
theorem sw_l (i j:Nat):sw i j i=j:=if_pos rfl
theorem sw_r (i j:Nat):sw i j j=i:=by
 unfold sw;split
 ·assumption
 ·exact if_pos rfl
theorem sw_o {i j k:Nat} (h1:k≠i) (h2:k≠j):sw i j k=k:=by unfold sw;rw[if_neg h1,if_neg h2]
theorem Zcz {α:Type} {d:List α} {i j:Nat} {x y:α} (hi:d[i]? =some x) (hj:d[j]? =some y) (k:Nat):((d.set i y).set j x)[k]? =d[sw i j k]? :=by
 have h1:=ZaB hi
 have h2:=ZaB hj
 simp only[List.getElem?_set,List.length_set,sw]
 by_cases h:j=k
 ·subst h
  by_cases h':j=i
  ·subst h';simp[h1,←hi]
  ·simp[h2,h',hi]
 ·by_cases h':i=k
  ·subst h';simp[h,h1,hj]
  ·simp[h,h',Ne.symm h,Ne.symm h']
theorem Zgd {α:Type} {d:List α} {i j:Nat} {x y:α} (hi:d[i]? =some x) (hj:d[j]? =some y):d.Perm ((d.set i y).set j x):=by
 have h1:=ZaB hi
 have h2:=ZaB hj
 rw[List.getElem?_eq_getElem h1] at hi;cases hi
 rw[List.getElem?_eq_getElem h2] at hj;cases hj
 exact (List.set_set_perm h1 h2).symm
structure RP {α:Type} (a b:Nat) (d e:List α):Prop where
 perm:d.Perm e
 out:∀i,(i<a∨b≤i)→e[i]? =d[i]?
theorem RP.refl {α:Type} (a b:Nat) (d:List α):RP a b d d:=⟨.refl _,fun _ _=>rfl⟩
theorem RP.trans {α:Type} {a b:Nat} {d e f:List α} (h:RP a b d e) (h':RP a b e f):RP a b d f:=⟨h.perm.trans h'.perm,fun i hi=>(h'.out i hi).trans (h.out i hi)⟩
theorem RP.mono {α:Type} {a b a' b':Nat} {d e:List α} (h:RP a b d e) (ha:a'≤a) (hb:b≤b'):RP a' b' d e:=⟨h.perm,fun i hi=>h.out i (by omega)⟩
theorem RP.len {α:Type} {a b:Nat} {d e:List α} (h:RP a b d e):e.length=d.length:=h.perm.length_eq.symm
theorem RP.swap {α:Type} {a b:Nat} {d:List α} {i j:Nat} {x y:α} (hi:d[i]? =some x) (hj:d[j]? =some y) (h1:a≤i∧i<b) (h2:a≤j∧j<b):RP a b d ((d.set i y).set j x) :=
 ⟨Zgd hi hj,fun k hk=>by rw[Zcz hi hj,sw,if_neg (by omega),if_neg (by omega)]⟩
theorem RP.mid {α:Type} {a b:Nat} {d e:List α} (h:RP a b d e) (hab:a≤b):((d.take b).drop a).Perm ((e.take b).drop a):=by
 have ht:e.take a=d.take a:=List.ext_getElem? fun i=>by
  simp only[List.getElem?_take]
  split
  ·rw[h.out i (by omega)]
  ·rfl
 have hd:e.drop b=d.drop b:=List.ext_getElem? fun i=>by
  simp only[List.getElem?_drop]
  rw[h.out _ (by omega)]
 have key:∀l:List α,l.take a++((l.take b).drop a++l.drop b)=l:=fun l=>by
  rw[←List.append_assoc]
  have:l.take a++(l.take b).drop a=l.take b:=by
   conv=>rhs;rw[←List.take_append_drop a (l.take b)]
   rw[List.take_take,Nat.min_eq_left hab]
  rw[this,List.take_append_drop]
 have hp:=h.perm
 rw[←key d,←key e,ht,hd] at hp
 exact (List.perm_append_right_iff _).1 ((List.perm_append_left_iff _).1 hp)
theorem RP.all {α:Type} {a b:Nat} {d e:List α} (h:RP a b d e) {p:α→Prop} (hp:∀i x,a≤i→i<b→d[i]? =some x→p x):∀i x,a≤i→i<b→e[i]? =some x→p x:=by
 intro i x h1 h2 h3
 have hm:x∈(e.take b).drop a:=by
  rw[List.mem_iff_getElem?]
  exact⟨i - a,by rw[List.getElem?_drop,List.getElem?_take,if_pos (by omega),show a+(i - a)=i by omega];exact h3⟩
 have:=(h.mid (by omega)).symm.subset hm
 rw[List.mem_iff_getElem?] at this
 obtain⟨k,hk⟩:=this
 rw[List.getElem?_drop,List.getElem?_take] at hk
 split at hk
 ·exact hp _ _ (by omega) (by assumption) hk
 ·cases hk
end Go.Abs
namespace Go.Abs
open Go
variable {P:Program}
def remO (ord:List Nat) (listed:Array Bool):List Nat:=ord.filter fun i=> !listed.getD i true
theorem idxOf_ne {a b:Nat} {l:List Nat} (h:b≠a):(b :: l).idxOf a=l.idxOf a+1:=by
 rw[List.idxOf_cons,show (b == a)=false by simp[h]];rfl
theorem mem_remO {i:Nat} {ord:List Nat} {listed:Array Bool}:i∈remO ord listed↔i∈ord∧listed.getD i true=false:=by
 simp[remO]
theorem len_of {n:Nat} {l:List Nat} (h:∀i,i∈l↔i<n) (hn:l.Nodup):l.length=n:=by
 have:l.Perm (List.range n):=(List.perm_ext_iff_of_nodup hn List.nodup_range).2 fun i=>by rw[h,List.mem_range]
 simpa using this.length_eq
def SoftBut (P:Program) (ps:List (Nat × Nat)) (ls:List LOp) (pq:Nat × Nat) (s:St) (k0:Nat):Prop:=∀p∈ps,p≠pq→∀a b,ls[p.1]? =some a→ls[p.2]? =some b→SoftOK P s.ev k0 a b
theorem Za8 {ns ms:List Nat} {k0:Nat} (h:(ns.all fun n=>Nat.blt n k0 && !(ms.contains n))=true):∀n∈ns,n<k0∧n ∉ ms:=by
 intro n hn
 have:=List.all_eq_true.1 h n hn
 simp only[Bool.and_eq_true,Nat.blt_eq,Bool.not_eq_true',List.contains_eq_mem,decide_eq_false_iff_not] at this
 exact this
theorem take_len_map {α β:Type} (f:α→β) (l:List α):List.take l.length (l.map f)=l.map f:=by rw[←List.map_take,List.take_length]
attribute [go_sem] take_len_map
mutual
theorem belowA_up {k:Nat}:∀(x:AV),ZaH 0 x→ZaH k x
 | .p _,_=>trivial
 | .junk,_=>trivial
 | .agg cs,h=>by simp only[ZaH] at *;exact Zeh cs h
 | .tup cs,h=>by simp only[ZaH] at *;exact Zeh cs h
 | .bp _ _,h=>by simp[ZaH] at h
 | .ep _ _ _ _,h=>by simp[ZaH] at h
 | .os _ _ _,h=>by simp[ZaH] at h
 | .mp _,h=>by simp[ZaH] at h
 | .fn _ a b,h=>by simp only[ZaH] at *;exact⟨Zeh a h.1,Zeh b h.2⟩
 | .ifc _ x,h=>by simp only[ZaH] at *;exact belowA_up x h
theorem Zeh {k:Nat}:∀(x:List AV),ZaC 0 x→ZaC k x
 | [],_=>trivial
 | x :: xs,h=>by simp only[ZaC] at *;exact⟨belowA_up x h.1,Zeh xs h.2⟩
end
theorem Zch {x y:List AV} (h:ZaC 0 x∧ZaC 0 y):(∀k,ZaC k x=True)∧∀k,ZaC k y=True:=⟨fun _=>eq_true (Zeh _ h.1),fun _=>eq_true (Zeh _ h.2)⟩
attribute [go_sem] List.length_set
theorem ZfT {Q:St→Prop}:∀ {a b:List LOp} {st:St},vOps P (a++b) st Q=vOps P a st (fun s=>vOps P b s Q)
 | [],b,st=>rfl
 | o :: a,b,st=>by
  simp only[List.cons_append,vOps]
  split
  ·simp only[ZfT]
  ·split<;>simp only[ZfT]
theorem vD_append {Q:St→Prop}:∀ {a b:List LOp} {st:St},vD P (a++b) st Q=vD P a st (fun s=>vD P b s Q)
 | [],b,st=>rfl
 | o :: a,b,st=>by
  simp only[List.cons_append,vD]
  split
  ·simp only[vD_append]
  ·split<;>simp only[vD_append]
theorem vOps_cut (n:Nat) {ls:List LOp} {st:St} {K:St→Prop} (h:∀K',IsK K' (fun s=>vOps P (ls.drop n) s K)→vOps P (ls.take n) st K'):vOps P ls st K:=by
 have:=h _ ⟨rfl⟩
 rw[←ZfT,List.take_append_drop] at this
 exact this
theorem Zb9 (n:Nat) {ls:List LOp} {st:St} {K:St→Prop} (h:∀K',IsK K' (fun s=>vD P (ls.drop n) s K)→vD P (ls.take n) st K'):vD P ls st K:=by
 have:=h _ ⟨rfl⟩
 rw[←vD_append,List.take_append_drop] at this
 exact this
theorem calls_frz {f:FuncId} {avs:List AV} {H:Heap} {k:Nat} {K:AV→Heap→Nat→Prop} (q:Nat→Bool) (h:ACalls P f (frzL q H avs) (H.frz q H) k K):ACalls P f avs H k K:=fun g w args hs ha =>
 (h (shutG q g w H) w args hs.frz (Zeu hs _ _ ha)).mono fun _ _ ⟨v,r,g',H',k',e1,hK,h1,h2,h3⟩=>⟨v,r,g',H',k',e1,hK,h1,h2,(Evo.refl.frz hs).trans h3⟩
def inL:List Nat→Nat→Bool
 | [],_=>false
 | x :: r,m=>match Nat.beq x m with | true=>true | false=>inL r m
attribute [go_sem] inL
end Go.Abs
namespace Go.Abs
open Go
variable {P:Program}
theorem draw_goN {nt:Nat} {ops:Array Oper} {ls:List LOp} (hls:ops.toList.mapM (lowOper P nt ops)=some ls) (hback:∀i o,ops[i]? =some o→∀e∈o.after,Region.binds .any e=true→e.on<i) {sf:St} {kk:Nat} {ord:List Nat} {L:Nat→Nat→Prop} (hne:∀j i,L j i→j≠i) {B:Nat→Nat→Prop} (hpw:ord.Pairwise B) (hnd:ord.Nodup) (hmo:∀i,i∈ord↔i<ops.size) (hpair:∀i j a b,B j i→ls[j]? =some a→ls[i]? =some b→((masks ops.toList #[]).getD i 0).testBit j=true∨Comm P sf kk a b∨L j i) {Q:St→Prop} (hQ:∀s s',St.Same s s'→Q s→Q s') {R:Exit→Act→World→Prop} (g0:G) (w0:World) (H0:Heap) (k0:Nat)
    (hR:∀g w st a,Q st→a.tmps.size=nt→a.defers= []→Sim g w st a.tmps→Evo g0 w0 H0 k0 g w st.H st.k→R .normal a w) :
    ∀(fuel t:Nat) (listed:Array Bool) (g:G) (w:World) (st:St) (a:Act),listed.size=ops.size→(remO ord listed).length≤fuel→(∀pp qq,L pp qq→listed.getD pp true=true∨(Region.linearise.go .any ops fuel t listed []).idxOf pp≤(Region.linearise.go .any ops fuel t listed []).idxOf qq)→DownC ops listed→a.tmps.size=nt→a.defers= []→Sim g w st a.tmps→Evo g0 w0 H0 k0 g w st.H st.k →
      vSE P sf kk ((remO ord listed).filterMap (ls[·]?)) st Q→wpOps P ops R (Region.linearise.go .any ops fuel t listed []) a w:=by
  have hall:=ZdT hls
  intro fuel
  induction fuel with
  | zero =>
    intro t listed g w st a hsz hle hx hd h1 h2 h3 h4 hv
    have e:remO ord listed= []:=List.eq_nil_of_length_eq_zero (by omega)
    rw[e] at hv
    simp only[Region.linearise.go,List.reverse_nil,wpOps]
    exact hR g w st a hv.2 h1 h2 h3 h4
  | succ fuel ih =>
    intro t listed g w st a hsz hle hx hd h1 h2 h3 h4 hv
    simp only[Region.linearise.go] at hx ⊢
    change ∀pp qq,L pp qq→listed.getD pp true=true∨(match (Region.ready .any ops listed)[t % (Region.ready .any ops listed).length]? with
      | some i=>Region.linearise.go .any ops fuel (t / (Region.ready .any ops listed).length) (listed.setIfInBounds i true) [i]
      | none=> [].reverse).idxOf pp≤(match (Region.ready .any ops listed)[t % (Region.ready .any ops listed).length]? with
      | some i=>Region.linearise.go .any ops fuel (t / (Region.ready .any ops listed).length) (listed.setIfInBounds i true) [i]
      | none=> [].reverse).idxOf qq at hx
    change wpOps P ops R (match (Region.ready .any ops listed)[t % (Region.ready .any ops listed).length]? with
      | some i=>Region.linearise.go .any ops fuel (t / (Region.ready .any ops listed).length) (listed.setIfInBounds i true) [i]
      | none=> [].reverse) a w
    cases hi:(Region.ready .any ops listed)[t % (Region.ready .any ops listed).length]? with
    | none =>
      have hnil:Region.ready .any ops listed= []:=by
        cases hr:Region.ready .any ops listed with
        | nil=>rfl
        | cons x xs =>
          rw[hr] at hi
          have hlt:t % (x :: xs).length<(x :: xs).length:=Nat.mod_lt _ (by simp)
          simp at hi
          simp at hlt
          omega
      have e:remOf ops.size listed= []:=by
        cases hr:remOf ops.size listed with
        | nil=>rfl
        | cons x xs =>
          exfalso
          have hx:=Zek.1 (show x∈remOf ops.size listed by rw[hr];simp)
          have hs:=ZeN ops.size listed
          rw[hr,List.pairwise_cons] at hs
          have:x∈Region.ready .any ops listed:=mem_ready.2 ⟨hx.2,ops[x],by simp[hx.1],fun e he hb=>by
            have hlt:=hback x ops[x] (by simp[hx.1]) e he hb
            cases hl:listed.getD e.on true with
            | true =>
              have hlt2:e.on<listed.size:=by rw[hsz];omega
              simp[Array.getD_eq_getD_getElem?,hlt2] at hl ⊢
              exact hl
            | false =>
              have hmem:e.on∈remOf ops.size listed:=Zek.2 ⟨by omega,hl⟩
              rw[hr] at hmem
              cases hmem with
              | head=>exact absurd hlt (Nat.lt_irrefl _)
              | tail _ hm=>exact absurd (hs.1 _ hm) (by omega)⟩
          rw[hnil] at this
          cases this
      have e:remO ord listed= []:=by
        cases hr:remO ord listed with
        | nil=>rfl
        | cons x xs =>
          have hx:=mem_remO.1 (show x∈remO ord listed by rw[hr];simp)
          have:x∈remOf ops.size listed:=Zek.2 ⟨(hmo x).1 hx.1,hx.2⟩
          rw[e] at this;cases this
      rw[e] at hv
      simp only[List.reverse_nil,wpOps]
      exact hR g w st a hv.2 h1 h2 h3 h4
    | some i =>
      rw[hi] at hx
      simp only[] at hx ⊢
      rw[linearise_go_acc,List.reverse_singleton,List.singleton_append] at hx ⊢
      obtain⟨hun,o,ho,hpre⟩:=mem_ready.1 (List.mem_of_getElem? hi)
      have hin:i<ops.size:=(Array.getElem?_eq_some_iff.1 ho).1
      have hmem:i∈remO ord listed:=mem_remO.2 ⟨(hmo i).2 hin,hun⟩
      obtain⟨l1,l2,hsplit⟩:=List.append_of_mem hmem
      have hs:(remO ord listed).Pairwise B:=hpw.filter _
      have hnd':(remO ord listed).Nodup:=hnd.filter _
      rw[hsplit,List.pairwise_append,List.pairwise_cons] at hs
      obtain⟨_,_,hs4⟩:=hs
      rw[hsplit] at hnd'
      have hil:i ∉ l1∧i ∉ l2:=by
        have h9:=hnd'.sublist (List.Sublist.refl _)
        rw[List.nodup_append] at h9
        obtain⟨_,h92,h93⟩:=h9
        exact⟨fun h=>h93 i h i (by simp) rfl,(List.nodup_cons.1 h92).1⟩
      have hrem:remO ord (listed.setIfInBounds i true)=l1++l2:=by
        have e1:remO ord (listed.setIfInBounds i true)=(remO ord listed).filter (· != i):=by
          simp only[remO,List.filter_filter]
          apply List.filter_congr
          intro j hj
          by_cases hji:j=i
          · subst hji
            have:j<listed.size:=by rw[hsz];exact hin
            simp[this]
          · rw[getD_set_ne true (Ne.symm hji)]
            simp[hji]
        rw[e1,hsplit,List.filter_append,List.filter_cons_of_neg (by simp)]
        rw[List.filter_eq_self.2 (fun x hm=>by simp;rintro rfl;exact hil.1 hm),List.filter_eq_self.2 (fun x hm=>by simp;rintro rfl;exact hil.2 hm)]
      obtain⟨l,hl1,hl2⟩:=mapM_get hls i o (by simpa using ho)
      rw[hsplit,List.filterMap_append,List.filterMap_cons_some (by exact hl1)] at hv
      have hap:∀x∈l1.filterMap (ls[·]?),Comm P sf kk x l:=by
        intro x hxm
        obtain⟨j,hj1,hj2⟩:=List.mem_filterMap.1 hxm
        have hjlt:B j i:=hs4 j hj1 i (by simp)
        rcases hpair i j x l hjlt hj2 hl1 with hb | hb | hb
        · exfalso
          have hlisted:=Zgo hd hback i o ho hpre j hb
          have hjm:=mem_remO.1 (show j∈remO ord listed by rw[hsplit];simp[hj1])
          have hjun:=hjm.2
          have hlt2:j<listed.size:=by rw[hsz];exact (hmo j).1 hjm.1
          simp[Array.getD_eq_getD_getElem?,hlt2] at hlisted hjun
          rw[hlisted] at hjun;cases hjun
        · exact hb
        · exfalso
          have hne':=hne j i hb
          have hx':=hx j i hb
          have hjun:=(mem_remO.1 (show j∈remO ord listed by rw[hsplit];simp[hj1])).2
          rcases hx' with hx' | hx'
          · rw[hjun] at hx';cases hx'
          · rw[List.idxOf_cons_self,idxOf_ne (Ne.symm hne')] at hx'
            omega
      obtain⟨_,_,v,H,k,hst,_,hv'⟩:=vSE_front hQ hap hv
      refine stepS_ok hall ho hl2 h1 h3 hst _ fun x g' w' q1 q2 q3=>?_
      have hput:=env_put (H0:=H) (k0:=k) h1 (fun t=>ARep.keeps q3.keeps _ _ (h3.env t)) (dst:=l.dst) (by rw[(Zbs hl2).2.1];exact (Zbs hl2).2.2.1) q1
      have hdst:=(Zbs hl2).2.1
      refine ih _ _ g' w' (St.put ⟨st.env,H,k⟩ l.dst v) _ (by simp[hsz]) ?_ ?_ ?_ (by rw[put_size];exact h1) (by rw[Zfv];exact h2) ⟨?_,?_⟩ ?_ ?_
      · rw[hrem]
        rw[hsplit] at hle
        simp at hle ⊢
        omega
      · intro pp qq hL
        rcases hx pp qq hL with hx | hx
        · left
          by_cases hji:pp=i
          · subst hji
            simp[hsz,hin]
          · rw[getD_set_ne true (Ne.symm hji)];exact hx
        · by_cases hji:pp=i
          · subst hji
            left
            simp[hsz,hin]
          · by_cases hqi:qq=i
            · subst hqi
              rw[List.idxOf_cons_self,idxOf_ne (Ne.symm hji)] at hx
              omega
            · right
              rw[idxOf_ne (Ne.symm hji),idxOf_ne (Ne.symm hqi)] at hx
              omega
      · intro j oj hoj hlj e he hb
        by_cases hji:j=i
        · subst hji
          rw[ho] at hoj;cases hoj
          exact getD_set_true (hpre e he hb)
        · rw[getD_set_ne false (Ne.symm hji)] at hlj
          exact getD_set_true (hd j oj hoj hlj e he hb)
      · rw[St.put_H,St.put_k,←hdst];exact hput
      · rw[St.put_H,St.put_k];exact q2
      · rw[St.put_H,St.put_k];exact h4.trans q3
      · rw[hrem,List.filterMap_append];exact hv'
def SoftMp (P:Program) (ps:List (Nat × Nat)) (ls:List LOp) (mp:List (Nat × Nat)) (s:St) (k0:Nat):Prop:=∀p∈ps,mp.contains p=false→∀a b,ls[p.1]? =some a→ls[p.2]? =some b→SoftOK P s.ev k0 a b
def insAll (x:Nat):List Nat→List (List Nat)
 | []=> [[x]]
 | y :: l=>(x :: y :: l) :: (insAll x l).map (y :: ·)
def permsN:List Nat→List (List Nat)
 | []=> [[]]
 | x :: l=>(permsN l).flatMap (insAll x)
def insS (f:Nat→Nat) (x:Nat):List Nat→List Nat
 | []=> [x]
 | y :: l=>if f x≤f y then x :: y :: l else y :: insS f x l
theorem insS_mem (f:Nat→Nat) (x:Nat):∀l,insS f x l∈insAll x l
 | []=>by simp[insS,insAll]
 | y :: l=>by
  simp only[insS,insAll]
  split
  ·exact List.mem_cons_self ..
  ·exact List.mem_cons_of_mem _ (List.mem_map.2 ⟨_,insS_mem f x l,rfl⟩)
theorem insS_in (f:Nat→Nat) (x z:Nat):∀l,z∈insS f x l→z=x∨z∈l
 | [],h=>by simp[insS] at h;exact .inl h
 | y :: l,h=>by
  simp only[insS] at h
  split at h
  ·simpa using h
  ·rcases List.mem_cons.1 h with h | h
   ·exact .inr (by simp[h])
   ·rcases insS_in f x z l h with h | h
    ·exact .inl h
    ·exact .inr (List.mem_cons_of_mem _ h)
theorem insS_sorted (f:Nat→Nat) (x:Nat):∀l,l.Pairwise (fun a b=>f a≤f b)→(insS f x l).Pairwise (fun a b=>f a≤f b)
 | [],_=>by simp[insS]
 | y :: l,h=>by
  rw[List.pairwise_cons] at h
  simp only[insS]
  split
  ·rename_i hle
   rw[List.pairwise_cons,List.pairwise_cons]
   refine⟨fun z hz=>?_,h.1,h.2⟩
   rcases List.mem_cons.1 hz with rfl | hz
   ·exact hle
   ·exact Nat.le_trans hle (h.1 z hz)
  ·rename_i hle
   rw[List.pairwise_cons]
   refine⟨fun z hz=>?_,insS_sorted f x l h.2⟩
   rcases insS_in f x z l hz with rfl | hz
   ·omega
   ·exact h.1 z hz
theorem perm_sorted (f:Nat→Nat):∀l:List Nat,∃π∈permsN l,π.Pairwise (fun a b=>f a≤f b)
 | []=>⟨[],by simp[permsN],List.Pairwise.nil⟩
 | x :: l=>by
  obtain⟨π,h1,h2⟩:=perm_sorted f l
  exact⟨insS f x π,List.mem_flatMap.2 ⟨π,h1,insS_mem f x π⟩,insS_sorted f x π h2⟩
def ordB (ls:List LOp) (mp:List (Nat × Nat)) (π:List Nat) (j i:Nat):Bool :=
 if mp.contains (j,i) || mp.contains (i,j) then j != i && decide (π.idxOf j<π.idxOf i) && decide (π.idxOf i<π.length)
 else decide (j<i) || (j != i && match ls[j]?,ls[i]? with | some a,some b=>a.apart b | _,_=>false)
def pairsB (B:Nat→Nat→Bool):List Nat→Bool
 | []=>true
 | j :: r=>r.all (B j) && pairsB B r
theorem pairsB_ok {B:Nat→Nat→Bool}:∀ {l:List Nat},pairsB B l=true→l.Pairwise (fun j i=>B j i=true)
 | [],_=>List.Pairwise.nil
 | j :: r,h=>by
  simp only[pairsB,Bool.and_eq_true] at h
  exact List.Pairwise.cons (fun i hi=>List.all_eq_true.1 h.1 i hi) (pairsB_ok h.2)
def okOrd (ls:List LOp) (mp:List (Nat × Nat)) (π ord:List Nat):Bool :=
 (List.range ls.length).all (fun i=>ord.contains i) && ord.all (fun i=>decide (i<ls.length)) && pairsB (ordB ls mp π) ord && stable (ord.filterMap (ls[·]?))
theorem ordB_ne {ls:List LOp} {mp:List (Nat × Nat)} {π:List Nat} {j i:Nat} (h:ordB ls mp π j i=true):j≠i:=by
 unfold ordB at h
 split at h
 ·simp only[Bool.and_eq_true,bne_iff_ne] at h;exact h.1.1
 ·simp only[Bool.or_eq_true,decide_eq_true_eq,Bool.and_eq_true,bne_iff_ne] at h
  rcases h with h | h
  ·omega
  ·exact h.1
theorem idx_pw {R:Nat→Nat→Prop} {π:List Nat} (h:π.Pairwise R) {j i:Nat} (h1:π.idxOf j<π.idxOf i) (h2:π.idxOf i<π.length):R j i:=by
 have:=List.pairwise_iff_getElem.1 h (π.idxOf j) (π.idxOf i) (by omega) h2 h1
 rwa [List.getElem_idxOf,List.getElem_idxOf] at this
theorem aw_softN {nt:Nat} {ls:List LOp} {Q:RExit→St→Prop} {st:St} {ps:List (Nat × Nat)} (mp:List (Nat × Nat)) (M:List Nat)
    (h:∀π∈permsN M,∃ord,okOrd ls mp π ord=true∧vS P (ord.filterMap (ls[·]?)) st (fun s=>SoftMp P ps ls mp s st.k∧Q .normal s)):AWr P nt (.soft ps ls) Q st:=by
  intro c hc g w a ha1 ha2 ha3
  obtain⟨id,ops,rfl,hl,hok,rfl⟩:=lower_soft hc
  simp only[okSoft,Bool.and_eq_true,List.all_eq_true] at hok
  obtain⟨⟨⟨hm,hst⟩,hbk⟩,hsp⟩:=hok
  have hback:∀i o,ops[i]? =some o→∀e∈o.after,Region.binds .any e=true→e.on<i:=fun i o ho e he hb=>by
    have:=hbk i (List.mem_range.2 (Array.getElem?_eq_some_iff.1 ho).1)
    rw[ho] at this
    simp only[Array.all_eq_true_iff_forall_mem,Bool.or_eq_true,Bool.not_eq_true',decide_eq_true_eq] at this
    rcases this e he with h | h
    · rw[hb] at h;cases h
    · exact h
  have hlen:ls.length=ops.size:=by
    have:=mapM_len hl
    simpa using this
  have hpair:∀sf,SoftMp P (softPairs ops ls) ls mp sf st.k→∀i j a b,i<ops.size→j<i→mp.contains (j,i)=false→ls[j]? =some a→ls[i]? =some b→((masks ops.toList #[]).getD i 0).testBit j=true∨Comm P sf st.k a b:=fun sf hsf i j a b hi hj hne ha hb=>by
    by_cases h1:((masks ops.toList #[]).getD i 0).testBit j=true
    · exact .inl h1
    by_cases h2:a.apart b=true
    · exact .inr (.inl h2)
    have hmem:(j,i)∈softPairs ops ls:=by
      simp only[softPairs,List.mem_flatMap,List.mem_range,List.mem_filterMap]
      refine⟨i,hi,j,hj,?_⟩
      rw[ha,hb,if_neg]
      simp only[Bool.or_eq_true,not_or]
      exact⟨h1,h2⟩
    have h3:=hsp (j,i) hmem
    simp only[ha,hb,LOp.soft,Bool.and_eq_true,Option.isNone_iff_eq_none] at h3
    exact .inr (.inr ⟨h3.1.1.1,h3.1.1.2,h3.1.2,hsf (j,i) hmem hne a b ha hb⟩)
  refine wp_region_draw fun t=>?_
  simp only[Region.schedule,hm,Bool.true_or,if_true,Region.linearise]
  have hev:Evo g w st.H st.k g {w with drawn:=w.drawn+1} st.H st.k :=
    ⟨Nat.le_refl _,rfl,rfl,rfl,Nat.le_refl _,fun _ _ h=>h,fun _ _ h=> .inl h,fun _ _ _=>rfl,fun _ _ _=>rfl,fun _ _ h=>h,fun n o o' _ h h'=>by rw[h] at h';cases h';exact Compat.refl _ _,fun n b h h'=> .inl ⟨n,h,h'⟩⟩
  have hsim:SimH g {w with drawn:=w.drawn+1} st.H st.k:=by
    refine⟨fun n o h=>?_,ha3.h.inj,ha3.h.fz⟩
    obtain⟨q1,q2,q3⟩:=ha3.h.obj n o h
    refine⟨q1,?_,q3⟩
    cases o<;>simpa only[ORep] using q2
  have hall:∀ord:List Nat,(∀i,i∈ord↔i<ops.size)→remO ord (Array.replicate ops.size false)=ord:=by
    intro ord ho
    apply List.filter_eq_self.2
    intro i hi
    simp[(ho i).1 hi]
  have hdown:DownC ops (Array.replicate ops.size false):=by
    intro i o ho hli
    simp only[Array.getD_eq_getD_getElem?] at hli
    rcases Nat.lt_or_ge i ops.size with h | h
    · simp[h] at hli
    · simp[Nat.not_lt.2 h] at hli
  obtain⟨lin,hlin⟩:∃lin,lin=Region.linearise.go .any ops ops.size t (Array.replicate ops.size false) []:=⟨_,rfl⟩
  obtain⟨π,hπ,hsort⟩:=perm_sorted (fun i=>lin.idxOf i) M
  obtain⟨ord,hok2,h2⟩:=h π hπ
  simp only[okOrd,Bool.and_eq_true,List.all_eq_true,List.mem_range,List.contains_iff_mem,decide_eq_true_eq] at hok2
  obtain⟨⟨⟨ho1,ho2⟩,ho3⟩,hst2⟩:=hok2
  have hmo:∀i,i∈ord↔i<ls.length:=fun i=>⟨ho2 i,ho1 i⟩
  have hpw:=pairsB_ok ho3
  obtain⟨sf,⟨hsf,_⟩,_,hE⟩:=vS_E (k0:=st.k) hst2 (Nat.le_refl _) h2
  have hmo':∀i,i∈ord↔i<ops.size:=fun i=>by rw[hmo,hlen]
  have hnd:ord.Nodup:=by rw[List.nodup_iff_pairwise_ne];exact hpw.imp ordB_ne
  refine draw_goN (P:=P) hl hback (ord:=ord) (L:=fun j i=>j≠i∧lin.idxOf j≤lin.idxOf i∧(mp.contains (j,i) || mp.contains (i,j))=true) (sf:=sf) (kk:=st.k) (fun _ _ h=>h.1) hpw hnd hmo'
    (fun i j a b hj ha hb=>by
      have hi:i<ops.size:=by rw[←hlen];exact ZaB hb
      have hne:=ordB_ne hj
      unfold ordB at hj
      split at hj
      · rename_i hm
        simp only[Bool.and_eq_true,decide_eq_true_eq] at hj
        exact .inr (.inr ⟨hne,idx_pw hsort hj.1.2 hj.2,hm⟩)
      · rename_i hm
        simp only[Bool.or_eq_true,not_or,Bool.not_eq_true] at hm
        rw[ha,hb] at hj
        simp only[Bool.or_eq_true,decide_eq_true_eq,Bool.and_eq_true] at hj
        rcases hj with hj | hj
        · rcases hpair sf hsf i j a b hi hj hm.1 ha hb with h | h
          · exact .inl h
          · exact .inr (.inl h)
        · exact .inr (.inl (.inl hj.2))) (Q:=fun s'=>∃s,St.Same s s'∧Q .normal s) (fun s s' e ⟨s0,e0,h0⟩=>⟨s0,e0.trans e,h0⟩) g w st.H st.k (fun g' w' st' a' ⟨s,e,q1⟩ q2 q3 q4 q5=>⟨.normal,s,g',trivial,q1,q2,q3,q4.same e.symm,by rw[e.H,e.k];exact q5⟩) ops.size t _ g _ st a (by simp) (by rw[hall _ hmo'];exact Nat.le_of_eq (len_of hmo' hnd)) (fun pp qq hL=> .inr (by rw[←hlin];exact hL.2.1)) hdown ha1 ha2 ⟨ha3.env,hsim⟩ hev ?_
  rw[hall _ hmo']
  exact vSE_mono (Q':=fun s'=>∃s,St.Same s s'∧Q .normal s) (fun s hs=>⟨s,⟨fun _=>rfl,rfl,rfl⟩,hs.2⟩) hE
end Go.Abs
namespace Go.Abs
open Go
variable {P:Program}
abbrev EvCall:=FuncId→List AV→Heap→Nat→Option (List (AV × Heap × Nat))
def bindL {α β:Type} (f:α→Option (List β)):List α→Option (List β)
 | []=>some []
 | x :: r=>match f x,bindL f r with
  | some a,some b=>some (a++b)
  | _,_=>none
theorem Zho {α β:Type} {f:α→Option (List β)}:∀ {l:List α} {r:List β},bindL f l=some r→∀x∈l,∃a,f x=some a∧∀y∈a,y∈r
 | [],_,_,x,hx=>by cases hx
 | z :: l,r,h,x,hx=>by
  simp only[bindL] at h
  split at h
  ·rename_i a b ha hb
   cases h
   rcases List.mem_cons.1 hx with rfl | hx
   ·exact⟨a,ha,fun y hy=>List.mem_append_left _ hy⟩
   ·obtain⟨c,h1,h2⟩:=Zho hb x hx
    exact⟨c,h1,fun y hy=>List.mem_append_right _ (h2 y hy)⟩
  ·cases h
def shutA:AV→Bool
 | .p _=>true
 | .tup cs=>shutL cs
 | .agg cs=>shutL cs
 | _=>false
where shutL:List AV→Bool
 | []=>true
 | .p _ :: r=>shutL r
 | _=>false
theorem Zhr:∀ {l:List AV},shutA.shutL l=true→ZaC 0 l
 | [],_=>trivial
 | .p _ :: r,h=>⟨trivial,Zhr (l:=r) h⟩
theorem shutA_below {x:AV} (h:shutA x=true):ZaH 0 x:=by
 cases x<;>simp only[shutA,reduceCtorEq] at h
 ·trivial
 ·exact Zhr h
 ·exact Zhr h
def evOp (call:EvCall) (op:ROp) (st:St):Option (List (AV × Heap × Nat)) :=
 match op with
 | .call f args=>call f (args.map st.ev) st.H st.k
 | .callv x args=>match st.ev x with
  | .fn (.func f) first cap=>call f (first++args.map st.ev++cap) st.H st.k
  | _=>none
 | .snil neg x=>match rowsOf st.H (st.ev x) with
  | some (_ :: _)=>some [(.p (.c (.bool (false != neg))),st.H,st.k)]
  | _=>none
 | op=>(aop op st.ev st.H st.k).map fun x=> [x]
def evOps (call:EvCall):List LOp→St→Option (List St)
  | [],st=>some [st]
  | o :: r,st=>match o.g with
    | none=>match evOp call o.op st with
      | some l=>bindL (fun x=>evOps call r (St.put ⟨st.env,x.2.1,x.2.2⟩ o.dst x.1)) l
      | none=>none
    | some (d,b)=>match st.env.get d with
      | .p (.c (.bool x))=>if x=b then (match evOp call o.op st with
          | some l=>bindL (fun x=>evOps call r (St.put ⟨st.env,x.2.1,x.2.2⟩ o.dst x.1)) l
          | none=>none) else evOps call r (st.put o.dst (.tup []))
      | .tup _=>evOps call r (st.put o.dst (.tup []))
      | _=>none
def evDop (call:EvCall) (op:ROp) (st:St):Option (AV × Heap × Nat) :=
 match op with
 | .call f args=>if shutA.shutL (args.map st.ev) then match call f (args.map st.ev) [] 0 with
   | some [(r,_,_)]=>if shutA r then some (r,st.H,st.k) else none
   | _=>none else none
 | .callv _ _=>none
 | .snil _ _=>none
 | op=>aop op st.ev st.H st.k
def evD (call:EvCall):List LOp→St→Option St
  | [],st=>some st
  | o :: r,st=>match o.g with
    | none=>match evDop call o.op st with
      | some (v,H,k)=>evD call r (St.put ⟨st.env,H,k⟩ o.dst v)
      | none=>none
    | some (d,b)=>match st.env.get d with
      | .p (.c (.bool x))=>if x=b then (match evDop call o.op st with
          | some (v,H,k)=>evD call r (St.put ⟨st.env,H,k⟩ o.dst v)
          | none=>none) else evD call r (st.put o.dst (.tup []))
      | .tup _=>evD call r (st.put o.dst (.tup []))
      | _=>none
def softB (e:RX→AV) (k0:Nat) (ls:List LOp):List (Nat × Nat)→Bool
  | []=>true
  | p :: r=>(match ls[p.1]?,ls[p.2]? with
    | some a,some b=>(match rdN e a.op,wrN e b.op with | some ns,some ms=>ns.all fun n=>decide (n<k0) && !ms.contains n | _,_=>false) || (match wrN e a.op,rdN e b.op with | some ms,some ns=>ns.all fun n=>decide (n<k0) && !ms.contains n | _,_=>false)
    | _,_=>true) && softB e k0 ls r
def makerPairs (ls:List LOp) (ps:List (Nat × Nat)):List (Nat × Nat):=ps.filter fun p=>match ls[p.1]?,ls[p.2]? with | some a,some b=>a.op.fresh && b.op.fresh | _,_=>false
def makers (mp:List (Nat × Nat)):List Nat:=mp.foldl (fun l p=>let l:=if l.contains p.1 then l else l++ [p.1];if l.contains p.2 then l else l++ [p.2]) []
def mkOrd (ls:List LOp) (mp:List (Nat × Nat)) (π:List Nat):Nat→List Nat→List Nat
 | 0,_=> []
 | n+1,rem =>
  match rem.find? (fun i=>rem.all fun j=>j == i || (if mp.contains (j,i) || mp.contains (i,j) then decide (π.idxOf i<π.idxOf j) else decide (i<j) || (match ls[j]?,ls[i]? with | some a,some b=>a.apart b | _,_=>false))) with
  | some i=>i :: mkOrd ls mp π n (rem.filter (· != i))
  | none=> []
def evSoft (call:EvCall) (ps:List (Nat × Nat)) (ls:List LOp) (st:St) (mp:List (Nat × Nat)) (π:List Nat):Option (List (RExit × St)) :=
 let ord:=mkOrd ls mp π ls.length (List.range ls.length)
 if okOrd ls mp π ord then match evD call (ord.filterMap (ls[·]?)) st with
  | some s=>if softB s.ev st.k ls (ps.filter fun p=> !mp.contains p) then some [(.normal,s)] else none
  | none=>none
 else none
def evC (call:EvCall):Nat→RCode→St→Option (List (RExit × St))
 | 0,_,_=>none
 | _+1,.skip,st=>some [(.normal,st)]
 | _+1,.ret,st=>some [(.ret,st)]
 | _+1,.exit id,st=>some [(.exit id,st)]
 | _+1,.bad,_=>none
 | _+1,.region false ls,st=>(evOps call ls st).map fun l=>l.map fun s=>(.normal,s)
 | _+1,.region true ls,st=>(evD call ls st).map fun s=> [(.normal,s)]
 | _+1,.soft ps ls,st=>bindL (evSoft call ps ls st (makerPairs ls ps)) (permsN (makers (makerPairs ls ps)))
 | n+1,.seq a b,st=>match evC call n a st with
  | some l=>bindL (fun x=>match x with | (.normal,s)=>evC call n b s | e=>some [e]) l
  | none=>none
 | n+1,.cond c a b,st=>match st.ev c with
  | .p (.c (.bool true))=>evC call n a st
  | .p (.c (.bool false))=>evC call n b st
  | _=>none
 | n+1,.block id a,st=>(evC call n a st).map fun l=>l.map fun x=>match x with | (.exit id',s)=>if id'=id then (.normal,s) else (.exit id',s) | e=>e
 | n+1,.loop a,st=>match evC call n a st with
  | some l=>bindL (fun x=>match x with | (.normal,s)=>evC call n (.loop a) s | e=>some [e]) l
  | none=>none
def tblGet:List (Nat × RFun)→Nat→Option RFun
 | [],_=>none
 | (g,rf) :: r,f=>if Nat.beq g f then some rf else tblGet r f
def evF (tbl:List (Nat × RFun)) (ext:EvCall) (fz fe:List Nat) (m:Nat):Nat→EvCall
  | 0,_,_,_,_=>none
  | n+1,f,args0,H0,k=>match tblGet tbl f with
    | none=>ext f args0 H0 k
    | some rf =>
      let args:=if fe.contains f then frzL (fun _=>true) H0 args0 else args0
      let H:=if fe.contains f then H0.frz (fun _=>true) H0 else H0
      if args.length=rf.np then match evC (evF tbl ext fz fe m n) m rf.code ⟨ZaG 0 args,H,k⟩ with
      | some l=>bindL (fun x=>match x with
        | (.exit _,_)=>none
        | (_,s)=>match resv rf.res s with | some r=>some [if fz.contains f then (r.frz (Nat.ble k) s.H,s.H.frz (Nat.ble k) s.H,s.k) else (r,s.H,s.k)] | none=>none) l
      | none=>none else none
def EvOK (P:Program) (call:EvCall):Prop:=∀f args H k l,call f args H k=some l→enters P f=true∧ACalls P f args H k (fun r' H2 k2=>(r',H2,k2)∈l)
theorem shut_pure {f:FuncId} {xs:List AV} {r:AV} {H':Heap} {k':Nat} (hr:ZaH 0 r) (h:ACalls P f xs [] 0 (fun r' H2 k2=>r'=r∧H2=H'∧k2=k')):APure P f xs r:=by
 intro g w args hs ha
 refine (h g w args hs ha).mono ?_
 rintro e w' ⟨v,r',g',H2,k2,e1,⟨rfl,rfl,rfl⟩,a1,a2,a3⟩
 obtain⟨g'',b1,b2,b3⟩:=(RUpd.sub (k0:=0) (H:=H2) (H':= []) (k:=k2) (k':=0) (Nat.le_refl _) hr trivial) g' w' v a2 a1
 exact⟨v,r',g'',[],0,e1,⟨rfl,rfl,rfl⟩,b2,b1,b3 _ _ _ a3⟩
theorem evOp_ok {call:EvCall} (hc:EvOK P call) {op:ROp} {st:St} {l:List (AV × Heap × Nat)} (h:evOp call op st=some l) {K:AV→Heap→Nat→Prop} (hK:∀x∈l,K x.1 x.2.1 x.2.2):vOp P op st K:=by
 cases op
 case call f args =>
  simp only[evOp] at h
  exact (hc _ _ _ _ _ h).2.mono (fun r H k hm=>hK _ hm)
 case callv x args =>
  simp only[evOp] at h
  simp only[vOp]
  split at h
  ·rename_i hx
   rw[hx]
   have:=hc _ _ _ _ _ h
   exact⟨this.1,this.2.mono (fun r H k hm=>hK _ hm)⟩
  ·cases h
 case snil neg x =>
  simp only[evOp] at h
  simp only[vOp]
  split at h
  ·rename_i hr
   rw[hr]
   cases h
   intro b hb
   rw[hb (by simp)]
   exact hK _ (List.mem_singleton.2 rfl)
  ·cases h
 all_goals
  simp only[evOp,Option.map_eq_some_iff] at h
  obtain⟨x,hx,rfl⟩:=h
  simp only[vOp,hx]
  exact hK _ (List.mem_singleton.2 rfl)
theorem evDop_ok {call:EvCall} (hc:EvOK P call) {op:ROp} {st:St} {v:AV} {H:Heap} {k:Nat} (h:evDop call op st=some (v,H,k)) {K:AV→Heap→Nat→Prop} (hK:K v H k):vDop P op st K:=by
  cases op
  case call f args =>
    simp only[evDop] at h
    split at h
    · rename_i hs
      split at h
      · rename_i r H1 k1 hcall
        split at h
        · rename_i hr
          simp only[Option.some.injEq,Prod.mk.injEq] at h
          obtain⟨rfl,rfl,rfl⟩:=h
          have:=(hc _ _ _ _ _ hcall).2
          exact⟨_,Zar (shut_pure (H':=H1) (k':=k1) (shutA_below hr) (this.mono (fun r2 H2 k2 hm=>by
            rw[List.mem_singleton,Prod.mk.injEq,Prod.mk.injEq] at hm;exact hm))) rfl (Zhr hs) (shutA_below hr) ⟨rfl,rfl,rfl⟩,hK⟩
        · cases h
      · cases h
    · cases h
  case callv x args=>simp[evDop] at h
  case snil neg x=>simp[evDop] at h
  all_goals
    simp only[evDop] at h
    simp only[vDop,h]
    exact hK
theorem evOps_ok {call:EvCall} (hc:EvOK P call) {Q:St→Prop}:∀ {ls:List LOp} {st:St} {l:List St},evOps call ls st=some l→(∀s∈l,Q s)→vOps P ls st Q
 | [],st,l,h,hq=>by
  simp only[evOps,Option.some.injEq] at h
  subst h;exact hq _ (List.mem_singleton.2 rfl)
 | o :: r,st,l,h,hq=>by
  have step:∀ {m},evOp call o.op st=some m→bindL (fun x=>evOps call r (St.put ⟨st.env,x.2.1,x.2.2⟩ o.dst x.1)) m=some l→vOp P o.op st fun v H k=>vOps P r (St.put ⟨st.env,H,k⟩ o.dst v) Q:=fun ho hb =>
   evOp_ok hc ho fun x hx=>by
    obtain⟨a,h1,h2⟩:=Zho hb x hx
    exact evOps_ok hc h1 fun s hs=>hq s (h2 s hs)
  simp only[evOps] at h
  simp only[vOps]
  split at h
  ·rename_i hg
   rw[hg]
   split at h
   ·rename_i ho
    exact step ho h
   ·cases h
  ·rename_i d b hg
   rw[hg]
   dsimp only
   split at h
   ·rename_i x hx
    rw[hx]
    dsimp only
    by_cases e:x=b
    ·rw[if_pos e] at h
     split at h
     ·rename_i ho
      exact⟨fun _=>step ho h,fun hn=>absurd e hn⟩
     ·cases h
    ·rw[if_neg e] at h
     exact⟨fun e'=>absurd e' e,fun _=>evOps_ok hc h hq⟩
   ·rename_i hx
    rw[hx]
    exact evOps_ok hc h hq
   ·cases h
theorem evD_ok {call:EvCall} (hc:EvOK P call) {Q:St→Prop}:∀ {ls:List LOp} {st s:St},evD call ls st=some s→Q s→vD P ls st Q
 | [],st,s,h,hq=>by
  simp only[evD,Option.some.injEq] at h
  subst h;exact hq
 | o :: r,st,s,h,hq=>by
  simp only[evD] at h
  simp only[vD]
  split at h
  ·rename_i hg
   rw[hg]
   split at h
   ·rename_i ho
    exact evDop_ok hc ho (evD_ok hc h hq)
   ·cases h
  ·rename_i d b hg
   rw[hg]
   dsimp only
   split at h
   ·rename_i x hx
    rw[hx]
    dsimp only
    by_cases e:x=b
    ·rw[if_pos e] at h
     split at h
     ·rename_i ho
      exact⟨fun _=>evDop_ok hc ho (evD_ok hc h hq),fun hn=>absurd e hn⟩
     ·cases h
    ·rw[if_neg e] at h
     exact⟨fun e'=>absurd e' e,fun _=>evD_ok hc h hq⟩
   ·rename_i hx
    rw[hx]
    exact evD_ok hc h hq
   ·cases h
theorem all_soft {ns ms:List Nat} {k0:Nat} (h:(ns.all fun n=>decide (n<k0) && !ms.contains n)=true):∀n∈ns,n<k0∧n ∉ ms:=fun n hn=>by
 have:=List.all_eq_true.1 h n hn
 simp only[Bool.and_eq_true,decide_eq_true_eq,Bool.not_eq_true',List.contains_eq_mem,decide_eq_false_iff_not] at this
 exact this
theorem softB_ok {e:RX→AV} {k0:Nat} {ls:List LOp}:∀ {ps:List (Nat × Nat)},softB e k0 ls ps=true→SoftAll P ls e k0 ps
 | [],_=>trivial
 | p :: r,h=>by
  simp only[softB,Bool.and_eq_true] at h
  refine⟨?_,softB_ok h.2⟩
  have h1:=h.1
  split
  ·rename_i a b ha hb
   rw[ha,hb] at h1
   simp only[Bool.or_eq_true] at h1
   rcases h1 with h1 | h1
   ·split at h1
    ·rename_i ns ms hr hw
     exact SoftOK.rw hr hw (all_soft h1)
    ·cases h1
   ·split at h1
    ·rename_i ms ns hw hr
     exact SoftOK.wr hr hw (all_soft h1)
    ·cases h1
  ·trivial
theorem softMp_of {ps:List (Nat × Nat)} {ls:List LOp} {mp:List (Nat × Nat)} {s:St} {k0:Nat} (h:SoftAll P ls s.ev k0 (ps.filter fun p=> !mp.contains p)):SoftMp P ps ls mp s k0:=by
 intro x hx hne a b ha hb
 exact SoftAll.at h x (List.mem_filter.2 ⟨hx,by simpa using hne⟩) a b ha hb
theorem evC_ok {call:EvCall} (hc:EvOK P call) {nt:Nat}:∀(n:Nat) (c:RCode) (st:St) (l:List (RExit × St)),evC call n c st=some l→AWr P nt c (fun e' s'=>(e',s')∈l) st:=by
 intro n
 induction n using Nat.strongRecOn with
 | ind n ih =>
  intro c st l h
  cases n with
  | zero=>simp[evC] at h
  | succ n =>
   have one:∀ {x:RExit × St},some [x]=some l→x∈l:=fun h=>by cases h;exact List.mem_singleton.2 rfl
   cases c with
   | skip=>simp only[evC] at h;exact Zan (one h)
   | ret=>simp only[evC] at h;exact Zaw (one h)
   | exit id=>simp only[evC] at h;exact Zax (one h)
   | bad=>simp[evC] at h
   | region d ls =>
    cases d with
    | true =>
     simp only[evC,Option.map_eq_some_iff] at h
     obtain⟨s1,h1,rfl⟩:=h
     exact aw_d (evD_ok hc h1 (List.mem_singleton.2 rfl))
    | false =>
     simp only[evC,Option.map_eq_some_iff] at h
     obtain⟨l1,h1,rfl⟩:=h
     exact Zaj (evOps_ok hc h1 fun s hs=>List.mem_map.2 ⟨s,hs,rfl⟩)
   | soft ps ls =>
    simp only[evC] at h
    refine aw_softN (makerPairs ls ps) (makers (makerPairs ls ps)) fun π hπ=>?_
    obtain⟨a,h1,h2⟩:=Zho h π hπ
    simp only[evSoft] at h1
    split at h1
    ·rename_i hok
     split at h1
     ·rename_i s hs
      split at h1
      ·rename_i hb
       cases h1
       exact⟨_,hok,vD_vS (evD_ok hc hs ⟨softMp_of (softB_ok hb),h2 _ (List.mem_singleton.2 rfl)⟩)⟩
      ·cases h1
     ·cases h1
    ·cases h1
   | seq a b =>
    simp only[evC] at h
    split at h
    ·rename_i l1 h1
     refine ZgA (Zd5 (ih n (Nat.lt_succ_self _) a st _ h1) fun e' s' hm=>?_)
     obtain⟨c,h3,h4⟩:=Zho h _ hm
     cases e' with
     | normal=>exact Zd5 (ih n (Nat.lt_succ_self _) b s' _ h3) fun e s hm=>h4 _ hm
     | exit id=>cases h3;exact h4 _ (List.mem_singleton.2 rfl)
     | ret=>cases h3;exact h4 _ (List.mem_singleton.2 rfl)
    ·cases h
   | cond z a b =>
    simp only[evC] at h
    split at h
    ·rename_i hz
     exact Zay hz (fun _=>ih n (Nat.lt_succ_self _) a st l h) (fun hf=>by cases hf)
    ·rename_i hz
     exact Zay hz (fun hf=>by cases hf) (fun _=>ih n (Nat.lt_succ_self _) b st l h)
    ·cases h
   | block id a =>
    simp only[evC,Option.map_eq_some_iff] at h
    obtain⟨l1,h1,rfl⟩:=h
    refine aw_block (Zd5 (ih n (Nat.lt_succ_self _) a st _ h1) fun e' s' hm=>?_)
    have hm':=List.mem_map_of_mem (f:=fun x:RExit × St=>(match x with | (.exit id',s)=>if id'=id then (.normal,s) else (.exit id',s) | e=>e:RExit × St)) hm
    cases e' with
    | normal=>exact hm'
    | ret=>exact hm'
    | exit id' =>
     dsimp only at hm' ⊢
     split at hm'<;>rename_i he
     ·rw[if_pos he];exact hm'
     ·rw[if_neg he];exact hm'
   | loop a =>
    refine aw_loop (fun m t=>m≤n+1∧∃l',evC call m (.loop a) t=some l'∧∀x∈l',x∈l) (n+1) ⟨Nat.le_refl _,l,h,fun x hx=>hx⟩ ?_
    rintro m t ⟨hm,l',ht,hsub⟩
    cases m with
    | zero=>simp[evC] at ht
    | succ m =>
     simp only[evC] at ht
     split at ht
     ·rename_i l1 h1
      refine Zd5 (ih m (by omega) a t _ h1) fun e' s' hmem=>?_
      obtain⟨c,h3,h4⟩:=Zho ht _ hmem
      cases e' with
      | normal=>exact⟨s',m,Upd.refl _ _,Nat.lt_succ_self _,by omega,c,h3,fun x hx=>hsub x (h4 x hx)⟩
      | exit id=>cases h3;exact hsub _ (h4 _ (List.mem_singleton.2 rfl))
      | ret=>cases h3;exact hsub _ (h4 _ (List.mem_singleton.2 rfl))
     ·cases ht
def TblOK (P:Program):List (Nat × RFun)→Prop
 | []=>True
 | (f,rf) :: r=>(lowF P f=some rf∧enters P f=true)∧TblOK P r
theorem tbl_get {tbl:List (Nat × RFun)} (h:TblOK P tbl) {f:Nat} {rf:RFun} (hf:tblGet tbl f=some rf):lowF P f=some rf∧enters P f=true:=by
 induction tbl with
 | nil=>simp[tblGet] at hf
 | cons a r ih =>
  obtain⟨g,rg⟩:=a
  simp only[tblGet] at hf
  split at hf
  ·rename_i e
   cases hf
   obtain rfl:=Nat.eq_of_beq_eq_true e
   exact h.1
  ·exact ih h.2 hf
theorem evF_ok {tbl:List (Nat × RFun)} (ht:TblOK P tbl) {ext:EvCall} (hx:EvOK P ext) (fz fe:List Nat) (m:Nat):∀n:Nat,EvOK P (evF tbl ext fz fe m n)
  | 0=>fun f args H k l h=>by simp[evF] at h
  | n+1=>fun f args0 H0 k l h=>by
    simp only[evF] at h
    split at h
    · exact hx f args0 H0 k l h
    · rename_i rf hf
      obtain⟨hl,hen⟩:=tbl_get ht hf
      refine⟨hen,?_⟩
      have fin:∀args H,(if args.length=rf.np then match evC (evF tbl ext fz fe m n) m rf.code ⟨ZaG 0 args,H,k⟩ with
          | some l=>bindL (fun x=>match x with
            | (.exit _,_)=>none
            | (_,s)=>match resv rf.res s with | some r=>some [if fz.contains f then (r.frz (Nat.ble k) s.H,s.H.frz (Nat.ble k) s.H,s.k) else (r,s.H,s.k)] | none=>none) l
          | none=>none else none)=some l→ACalls P f args H k (fun r' H2 k2=>(r',H2,k2)∈l):=?_
      · by_cases hfe:fe.contains f=true
        · simp only[hfe,if_true] at h
          exact calls_frz _ (fin _ _ h)
        · simp only[hfe,if_false,Bool.false_eq_true] at h
          exact fin _ _ h
      intro args H h
      split at h
      · rename_i hnp
        refine afun hl hnp ?_
        split at h
        · rename_i l1 hev
          refine Zd5 (evC_ok (evF_ok ht hx fz fe m n) m rf.code _ _ hev) fun e' s' hm=>?_
          obtain⟨c,h3,h4⟩:=Zho h _ hm
          have key:(match resv rf.res s' with | some r=>some [if fz.contains f then (r.frz (Nat.ble k) s'.H,s'.H.frz (Nat.ble k) s'.H,s'.k) else (r,s'.H,s'.k)] | none=>none)=some c→Fin rf.res s' k (fun r2 H2 k2=>(r2,H2,k2)∈l):=fun h3=>by
            unfold Fin
            split at h3
            · rename_i r hr
              rw[hr]
              cases h3
              by_cases hz:fz.contains f=true
              · rw[if_pos hz] at h4
                exact⟨_,_,_,RUpd.frz (Nat.ble k) k _ _ _,h4 _ (List.mem_singleton.2 rfl)⟩
              · rw[if_neg hz] at h4
                exact⟨_,_,_,RUpd.refl _ _ _ _,h4 _ (List.mem_singleton.2 rfl)⟩
            · cases h3
          cases e' with
          | exit id=>cases h3
          | normal=>exact key h3
          | ret=>exact key h3
        · cases h
      · cases h
def evP (tbl:List (Nat × RFun)) (ext:EvCall) (fz fe:List Nat) (m n:Nat) (f:FuncId) (args:List AV) (b:Bool):Bool:=match evF tbl ext fz fe m n f args [] 0 with
 | some l=>l.all fun x=>match x.1 with | .p (.c (.bool b'))=>b' == b | _=>false
 | none=>false
theorem evP_ok {tbl:List (Nat × RFun)} (ht:TblOK P tbl) {ext:EvCall} (hx:EvOK P ext) {fz fe:List Nat} {m n:Nat} {f:FuncId} {args:List AV} {b:Bool} (h:evP tbl ext fz fe m n f args b=true):APure P f args (.p (.c (.bool b))):=by
 unfold evP at h
 split at h
 ·rename_i l he
  have:=(evF_ok ht hx fz fe m n _ _ _ _ _ he).2
  intro g w as hs ha
  refine (this g w as hs ha).mono ?_
  rintro e w' ⟨v,r',g',H2,k2,e1,hm,a1,a2,a3⟩
  have hb:=List.all_eq_true.1 h _ hm
  dsimp only at hb
  have hr:r'= .p (.c (.bool b)):=by
   split at hb
   ·rename_i b'
    have:b'=b:=by simpa using hb
    rw[this]
   ·cases hb
  subst hr
  obtain⟨g'',b1,b2,b3⟩:=(RUpd.sub (k0:=0) (r:= .p (.c (.bool b))) (H:=H2) (H':= []) (k:=k2) (k':=0) (Nat.le_refl _) trivial trivial) g' w' v a2 a1
  exact⟨v,_,g'',[],0,e1,⟨rfl,rfl,rfl⟩,b2,b1,b3 _ _ _ a3⟩
 ·cases h
def noExt:EvCall:=fun _ _ _ _=>none
end Go.Abs
