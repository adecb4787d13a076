/-
  Plain facts of history:windows;the law on Windows.
-/
import Derived.Test.YtiohnbmhmhljbaaGreatDoorFHw
import Derived.Test.YtiohnbmhmhljbaaGreatDoorXHl
import Derived.Test.YtiohnbmhmhljbaaGreatDoorXSo
namespace Go.Abs
open Go
theorem forL_sim {α σ τ ρ γ:Type} {body:Nat→α→σ→Option (Ex σ τ ρ)} {fin:σ→τ} {l:List α} (f:γ→α→γ) (R:Nat→σ→γ→Prop) {s0:σ} {g0:γ} (h0:R 0 s0 g0)
  (h:∀i x s g,l[i]? =some x→R i s g→∃s',body i x s=some (.next s')∧R (i+1) s' (f g x)):∃s',forL l body fin s0=some (.inl (fin s'))∧R l.length s' (l.foldl f g0):=by
 rw[ZcS]
 have key:∀(q:List α) (i:Nat) (s:σ) (g:γ),l.drop i=q→i+q.length=l.length→R i s g→∃s',goL body fin q i s=some (.inl (fin s'))∧R l.length s' (q.foldl f g):=by
  intro q
  induction q with
  | nil=>intro i s g _ hl hr;exact⟨s,rfl,by simp at hl;rw[←hl];exact hr⟩
  | cons x q ih =>
   intro i s g hd hl hr
   have hx:l[i]? =some x:=by rw[←Nat.add_zero i,←List.getElem?_drop,hd];rfl
   obtain⟨s',h1,h2⟩:=h i x s g hx hr
   simp only[goL,h1,Option.bind_some,List.foldl_cons]
   exact ih (i+1) s' _ (by rw[←List.drop_drop,hd];rfl) (by simp at hl;omega) h2
 exact key l 0 s0 g0 rfl (by simp) h0
theorem forL_simE {α σ τ ρ γ:Type} {body:Nat→α→σ→Option (Ex σ τ ρ)} {fin:σ→τ} {l:List α} (f:γ→α→γ) (F:γ→τ) (R:Nat→σ→γ→Prop) {s0:σ} {g0:γ} (h0:R 0 s0 g0) (hfin:∀s g,R l.length s g→fin s=F g)
  (h:∀i x s g,l[i]? =some x→R i s g→∃s',body i x s=some (.next s')∧R (i+1) s' (f g x)):forL l body fin s0=some (.inl (F (l.foldl f g0))):=by
 obtain⟨s',h1,h2⟩:=forL_sim f R h0 h (fin:=fin)
 rw[h1,hfin _ _ h2]
theorem forL_det {α σ τ ρ:Type} {body:Nat→α→σ→Option (Ex σ τ ρ)} {fin:σ→τ} {l:List α} (f:σ→α→σ) (I:Nat→σ→Prop) {s0:σ} (h0:I 0 s0)
    (h:∀i x s,l[i]? =some x→I i s→body i x s=some (.next (f s x))∧I (i+1) (f s x)):forL l body fin s0=some (.inl (fin (l.foldl f s0))) :=
  forL_simE f fin (fun i a b=>a=b∧I i b) ⟨rfl,h0⟩ (fun _ _ h=>by rw[h.1]) (fun i x s g hx ⟨e,hi⟩=>by
    subst e
    obtain⟨h1,h2⟩:=h i x s hx hi
    exact⟨_,h1,rfl,h2⟩)
def strOf (p:Zaa):Zak:=Zak.mk p.x p.from' p.to'
theorem forL_str {ρ:Type} {m:Pubs} {u:Int} {rs:List Zag} {body:Nat→Zag→List Zak→Option (Ex (List Zak) (List Zak) ρ)} (hrs:∀r∈rs,r.Exposures.length≤500)
  (h:∀i x l,rs[i]? =some x→l.length≤500*i→body i x l=some (.next (l++(pcsOf m x (endOf u (rs.drop (i+1)))).map strOf))):forL rs body (fun l=>l) []=some (.inl ((pcs m u rs).map strOf)):=by
 rw[ZcS]
 have key:∀(q:List Zag) (i:Nat) (l:List Zak),rs.drop i=q→l.length≤500*i→goL body (fun l=>l) q i l=some (.inl (l++(pcs m u q).map strOf)):=by
  intro q
  induction q with
  | nil=>intro i l _ _;simp[goL,pcs]
  | cons x q ih =>
   intro i l hd hl
   have hx:rs[i]? =some x:=by rw[←Nat.add_zero i,←List.getElem?_drop,hd];rfl
   have hq:rs.drop (i+1)=q:=by rw[←List.drop_drop,hd];rfl
   have hex:=hrs x (List.mem_of_getElem? hx)
   simp only[goL,h i x l hx hl,Option.bind_some,hq]
   have h3:(pcsOf m x (endOf u q)).length≤x.Exposures.length:=by
    unfold pcsOf;rw[List.length_map];exact List.length_filter_le _ _
   rw[ih (i+1) _ hq (by rw[List.length_append,List.length_map];omega)]
   simp[pcs]
 simpa using key rs 0 [] rfl (by simp)
theorem Zes {s:Zam} (h:StoryOk s):ZbL (Zau.mk s (ZaQ s))=some ((pcs (ZaQ s) s.Until s.Releases).map strOf):=by
  unfold ZbL
  have hlen:=h.lenR
  rw[forL_str (m:=ZaQ s) (u:=s.Until) (ZeT h),Zba]
  intro i x l hx hl
  have hi:=ZaB hx
  have hex:=ZeT h x (List.mem_of_getElem? hx)
  have hend:∀ {ρ:Type},(if decide (((i+1:Nat):Int)<(s.Releases.length:Int))=true then Option.bind (idx s.Releases ((i+1:Nat):Int)) (fun x98=>some (Sum.inl x98.Day)) else some (Sum.inl s.Until))=some (Sum.inl (β:=ρ) (endOf s.Until (s.Releases.drop (i+1)))):=by
    intro ρ
    rw[ZfN]
    by_cases hlt:i+1<s.Releases.length
    · rw[if_pos (by simp;omega),List.drop_eq_getElem_cons hlt,List.getElem?_eq_getElem hlt];rfl
    · rw[if_neg (by simp;omega),List.drop_eq_nil_of_le (by omega)];rfl
  dsimp only
  rw[hend,Zba,Zfs (fun e=>decide (fromOf x.Day (pub (ZaQ s) e)<toOf (endOf s.Until (s.Releases.drop (i+1))) (pub (ZaQ s) e))) (fun e=>strOf (pieceOf (ZaQ s) x.Day (endOf s.Until (s.Releases.drop (i+1))) e)) l,Zba]
  · simp only[pcsOf,List.map_map];rfl
  · intro j e st hj hst
    have hjl:=ZaB hj
    have happ:∀z:Zak,app 56 st [z]=some (st++ [z]):=fun z=>ZfS (n:=251001) (by omega) (by decide) (by decide)
    rw[show (mget kEqS e.Advisory (ZaQ s)).getD (Zac.mk str_ 0 0)=pub (ZaQ s) e from rfl]
    rw[show (if ((pub (ZaQ s) e).Ended != (-1))=true then some (Sum.inl (if (pub (ZaQ s) e).Ended<endOf s.Until (s.Releases.drop (i+1)) then (pub (ZaQ s) e).Ended else endOf s.Until (s.Releases.drop (i+1)))) else some (Sum.inl (endOf s.Until (s.Releases.drop (i+1))))) =
      some (Sum.inl (β:=Ex (List Zak) (List Zak) (Ex (List Zak) (List Zak) (List Zak))) (toOf (endOf s.Until (s.Releases.drop (i+1))) (pub (ZaQ s) e))) by
        unfold toOf
        rcases pub_ended h e with he | he
        · simp[he]
        · have:(pub (ZaQ s) e).Ended≠ -1:=by omega
          simp[he,this]]
    rw[Zba,happ,show (if x.Day<(pub (ZaQ s) e).Day then (pub (ZaQ s) e).Day else x.Day)=fromOf x.Day (pub (ZaQ s) e) from rfl]
    by_cases hc:fromOf x.Day (pub (ZaQ s) e)<toOf (endOf s.Until (s.Releases.drop (i+1))) (pub (ZaQ s) e)
    · simp only[hc,decide_true,if_true,Option.bind_some];rfl
    · simp only[hc,decide_false,Bool.false_eq_true,if_false]
theorem Ze9 {κ β:Type} {eq:κ→κ→Bool} (he:∀a b,eq a b=true↔a=b) (k k':κ) (v:β):∀(m:List (κ × β)),(k=k'→mget eq k (mset eq k' v m)=some v)∧(k≠k'→mget eq k (mset eq k' v m)=mget eq k m)
 | []=>by
  refine⟨fun h=>?_,fun h=>?_⟩
  ·subst h;simp[mset,mget,(he k k).2 rfl]
  ·have:eq k k'=false:=by cases hq:eq k k';rfl;exact absurd ((he _ _).1 hq) h
   simp[mset,mget,this]
 | e :: m=>by
  have ih:=Ze9 he k k' v m
  simp only[mset]
  by_cases h:eq k' e.1=true
  ·have e1:=(he _ _).1 h
   rw[if_pos h]
   simp only[mget]
   refine⟨fun h2=>?_,fun h2=>?_⟩
   ·subst h2;rw[if_pos ((he _ _).2 rfl)]
   ·have h3:¬eq k k'=true:=fun hq=>h2 ((he _ _).1 hq)
    rw[if_neg h3,←e1,if_neg h3]
  ·rw[if_neg h]
   simp only[mget]
   refine⟨fun h2=>?_,fun h2=>?_⟩
   ·subst h2;rw[if_neg h];exact ih.1 rfl
   ·rw[ih.2 h2]
theorem Zhx (a b:Zal):Zal.keq a b=true↔a=b:=by
 cases a;cases b
 simp[Zal.keq,kEqS,Zd3]
theorem exp_eq (a b:Zad):Zad.keq a b=true↔a=b:=by
 cases a;cases b
 simp[Zad.keq,kEqS,kEqI,Zd3]
abbrev Wins:=List Zab
abbrev Lasts:=List (Zal × Int)
def keyP (p:Zaa):Zal:=Zal.mk p.x.Advisory p.x.Component
def newW (p:Zaa):Zab:=Zab.mk p.x.Advisory p.x.Component p.x.Severity p.from' p.to' false
def moreW (p:Zaa) (w:Zab):Zab:=Zab.mk w.Advisory w.Component p.x.Severity w.From p.to' w.Open
def wstep (st:Lasts × Wins) (p:Zaa):Lasts × Wins :=
 match mget Zal.keq (keyP p) st.1 with
 | some i=>match st.2[i.toNat]? with
  | some w=>if w.To=p.from' then (st.1,st.2.set i.toNat (moreW p w)) else (mset Zal.keq (keyP p) (st.2.length:Int) st.1,st.2++ [newW p])
  | none=>(mset Zal.keq (keyP p) (st.2.length:Int) st.1,st.2++ [newW p])
 | none=>(mset Zal.keq (keyP p) (st.2.length:Int) st.1,st.2++ [newW p])
def lastsOk (st:Lasts × Wins):Prop:=∀k i,mget Zal.keq k st.1=some i→0≤i∧i.toNat<st.2.length
theorem wstep_ok {st:Lasts × Wins} (h:lastsOk st) (p:Zaa):lastsOk (wstep st p):=by
 have happ:lastsOk (mset Zal.keq (keyP p) (st.2.length:Int) st.1,st.2++ [newW p]):=by
  intro k i hk
  dsimp only at hk ⊢
  by_cases e:k=keyP p
  ·rw[(Ze9 Zhx k (keyP p) _ st.1).1 e] at hk
   cases hk
   simp
  ·rw[(Ze9 Zhx k (keyP p) _ st.1).2 e] at hk
   have:=h k i hk
   simp;omega
 unfold wstep
 split
 ·split
  ·split
   ·intro k i hk
    simpa using h k i hk
   ·exact happ
  ·exact happ
 ·exact happ
theorem wstep_len (st:Lasts × Wins) (p:Zaa):(wstep st p).2.length≤st.2.length+1:=by
 unfold wstep
 split
 ·split
  ·split<;>simp
  ·simp
 ·simp
def winsOf (ps:List Zaa):Wins:=(ps.foldl wstep ([],[])).2
def setOpen (u:Int) (w:Zab):Zab:=Zab.mk w.Advisory w.Component w.Severity w.From w.To (w.To == u)
theorem open_loop (u:Int) (l:Wins) (hl:l.length≤1000000):forN (σ:=Wins) (τ:=Wins) (ρ:=Wins) (fun i s=>Option.bind (idx s (i:Int)) fun x=>some (.next (s.set i (Zab.mk x.Advisory x.Component x.Severity x.From x.To (x.To == u))))) (fun s=>s) l.length 0 l=some (.inl (l.map (setOpen u))):=by
 have key:∃y,forN (σ:=Wins) (τ:=Wins) (ρ:=Wins) (fun i s=>Option.bind (idx s (i:Int)) fun x=>some (.next (s.set i (Zab.mk x.Advisory x.Component x.Severity x.From x.To (x.To == u))))) (fun s=>s) l.length 0 l=some y∧Out (fun t=>t=l.map (setOpen u)) (fun _=>False) y:=by
  refine forN_inv (I:=fun i s=>s.length=l.length∧∀k,s[k]? =if k<i then (l[k]?).map (setOpen u) else l[k]?) ⟨rfl,fun k=>by simp⟩ ?_ ?_
  ·rintro i s hi ⟨hs1,hs2⟩
   obtain⟨x,hx⟩:=ZaE (l:=s) (i:=i) (by omega)
   simp only[ZaF hx,Option.bind_some]
   refine⟨_,rfl,by simp[hs1],fun k=>?_⟩
   have hxl:l[i]? =some x:=by have:=hs2 i;rw[if_neg (by omega)] at this;rw[←this];exact hx
   rw[List.getElem?_set]
   by_cases hk:i=k
   ·subst hk
    rw[if_pos rfl,if_pos (by omega),if_pos (by omega),hxl];rfl
   ·rw[if_neg hk,hs2]
    by_cases h3:k<i
    ·rw[if_pos h3,if_pos (by omega)]
    ·rw[if_neg h3,if_neg (by omega)]
  ·rintro s ⟨hs1,hs2⟩
   apply List.ext_getElem?
   intro k
   rw[hs2,List.getElem?_map]
   split
   ·rfl
   ·rename_i h;rw[List.getElem?_eq_none (by omega)];rfl
 obtain⟨y,h1,h2⟩:=key
 cases y with
 | inl t=>rw[h1];rw[show t=_ from h2]
 | inr r=>exact h2.elim
theorem foldl_len:∀(ps:List Zaa) (st:Lasts × Wins),(ps.foldl wstep st).2.length≤st.2.length+ps.length
 | [],st=>by simp
 | p :: ps,st=>by
  have h1:=foldl_len ps (wstep st p)
  have h2:=wstep_len st p
  simp only[List.foldl_cons,List.length_cons]
  omega
theorem wins_len (ps:List Zaa):(winsOf ps).length≤ps.length:=by
 have:=foldl_len ps ([],[])
 unfold winsOf
 simpa using this
theorem set_set {α:Type} (l:List α) (i:Nat) (a b:α):(l.set i a).set i b=l.set i b:=by
 apply List.ext_getElem?
 intro k
 simp only[List.getElem?_set,List.length_set]
 split
 ·split<;>rfl
 ·rfl
theorem hist_step {st:Lasts × Wins} (h:lastsOk st) (hl:st.2.length≤1000000) (p:Zaa) :
  (Option.bind (Zcf p.x) fun y43=>Option.bind (gAnd ((mget Zal.keq y43 st.1).isSome) (Option.bind (idx st.2 ((mget Zal.keq y43 st.1).getD 0)) fun x45=>some (x45.To == p.from'))) fun b47=>if b47=true then (Option.bind (idx st.2 ((mget Zal.keq y43 st.1).getD 0)) fun x52=>Option.bind (idx (st.2.set (((mget Zal.keq y43 st.1).getD 0).toNat) (Zab.mk x52.Advisory x52.Component x52.Severity x52.From p.to' x52.Open)) ((mget Zal.keq y43 st.1).getD 0)) fun x54=>some (.next (st.1,((st.2.set (((mget Zal.keq y43 st.1).getD 0).toNat) (Zab.mk x52.Advisory x52.Component x52.Severity x52.From p.to' x52.Open)).set (((mget Zal.keq y43 st.1).getD 0).toNat) (Zab.mk x54.Advisory x54.Component p.x.Severity x54.From x54.To x54.Open))))) else (Option.bind (app 64 st.2 [(Zab.mk p.x.Advisory p.x.Component p.x.Severity p.from' p.to' false)]) fun l56=>some (.next ((mset Zal.keq y43 ((st.2.length:Nat):Int) st.1),l56))))=some (Ex.next (σ:=Lasts × Wins) (τ:=Wins) (ρ:=Wins) (wstep st p)):=by
 have hk:Zcf p.x=some (keyP p):=rfl
 have happ:app 64 st.2 [Zab.mk p.x.Advisory p.x.Component p.x.Severity p.from' p.to' false]=some (st.2++ [newW p]):=ZfS (n:=1000001) (by omega) (by decide) (by decide)
 rw[hk]
 simp only[Option.bind_some,happ]
 unfold wstep
 cases hm:mget Zal.keq (keyP p) st.1 with
 | none=>simp[gAnd]
 | some i =>
  obtain⟨h1,h2⟩:=h _ _ hm
  obtain⟨n,rfl⟩:∃n:Nat,i=(n:Int):=⟨i.toNat,by omega⟩
  simp only[Int.toNat_natCast] at h2
  obtain⟨w,hw⟩:=ZaE h2
  simp only[Option.isSome_some,gAnd,if_true,Option.getD_some,ZaF hw,Option.bind_some,Int.toNat_natCast,hw]
  by_cases e:w.To=p.from'
  ·rw[if_pos (by simpa using e),if_pos e]
   have hw2:(st.2.set n (Zab.mk w.Advisory w.Component w.Severity w.From p.to' w.Open))[n]? =some (Zab.mk w.Advisory w.Component w.Severity w.From p.to' w.Open):=by
    rw[List.getElem?_set,if_pos rfl,if_pos h2]
   simp only[ZaF hw2,Option.bind_some,set_set]
   rfl
  ·rw[if_neg (by simpa using e),if_neg e]
theorem Zf4 {s:Zam} (h:StoryOk s) (fuel:Nat):ZbJ fuel s=Za7 fuel ((winsOf (pcs (ZaQ s) s.Until s.Releases)).map (setOpen s.Until)) Za5:=by
 have hlen:=h.lenR
 have hpl:=pcs_len (ZaQ s) s.Until s.Releases (ZeT h)
 unfold ZbJ
 rw[ZcU h,Option.bind_some]
 have hw:=wins_len (pcs (ZaQ s) s.Until s.Releases)
 rw[forL_det wstep (fun i b=>lastsOk b∧b.2.length≤i),Zba]
 ·refine (congrArg (fun o=>seqK o _) (open_loop s.Until (winsOf (pcs (ZaQ s) s.Until s.Releases)) (by omega))).trans ?_
  rw[Zba]
  cases Za7 fuel (List.map (setOpen s.Until) (winsOf (pcs (ZaQ s) s.Until s.Releases))) Za5<;>rfl
 ·exact⟨fun k i hk=>by simp[mget] at hk,Nat.le_refl _⟩
 ·rintro i p ⟨m,l⟩ hp ⟨hok,hl⟩
  have hi:=ZaB hp
  exact⟨hist_step (st:=(m,l)) hok (by dsimp only at hl ⊢;omega) p,wstep_ok hok p,Nat.le_trans (wstep_len (m,l) p) (by dsimp only at hl ⊢;omega)⟩
def pieceS (x:Zak):Zaa:=Zaa.mk x.x x.from' x.to'
abbrev LastsR:=List (Zad × Int)
def numOf (o:Option Int):Int:=match o with | some i=>i+1 | none=>0
def lastsRel (mh:Lasts) (mr:LastsR):Prop:=∀k:Zal,(mget Zad.keq (Zad.mk k.advisory k.component 0) mr).getD 0=numOf (mget Zal.keq k mh)
theorem rel_set {mh:Lasts} {mr:LastsR} (h:lastsRel mh mr) (p:Zaa) (n:Nat):lastsRel (mset Zal.keq (keyP p) (n:Int) mh) (mset Zad.keq (Zad.mk p.x.Advisory p.x.Component 0) ((n+1:Nat):Int) mr):=by
  intro k
  by_cases e:k=keyP p
  · rw[(Ze9 Zhx k (keyP p) _ mh).1 e]
    subst e
    rw[show Zad.mk (keyP p).advisory (keyP p).component 0=Zad.mk p.x.Advisory p.x.Component 0 from rfl,(Ze9 exp_eq _ _ _ mr).1 rfl]
    simp[numOf]
  · rw[(Ze9 Zhx k (keyP p) _ mh).2 e,(Ze9 exp_eq _ _ _ mr).2 (fun h2=>e (by
      cases k
      simp only[Zad.mk.injEq] at h2
      simp only[keyP,h2.1,h2.2.1]))]
    exact h k
theorem ref_step {mh:Lasts} {mr:LastsR} {l:Wins} (h:lastsOk (mh,l)) (hr:lastsRel mh mr) (hl:l.length≤1000000) (p:Zak) :
  ∃s',(Option.bind (gAnd (decide (((mget Zad.keq (Zad.mk p.x.Advisory p.x.Component 0) mr).getD 0)>0)) (Option.bind (idx l (w64 (((mget Zad.keq (Zad.mk p.x.Advisory p.x.Component 0) mr).getD 0) - 1))) fun x39=>some (x39.To == p.from'))) fun b41=>if b41=true then (Option.bind (idx l (w64 (((mget Zad.keq (Zad.mk p.x.Advisory p.x.Component 0) mr).getD 0) - 1))) fun x46=>Option.bind (idx (l.set ((w64 (((mget Zad.keq (Zad.mk p.x.Advisory p.x.Component 0) mr).getD 0) - 1)).toNat) (Zab.mk x46.Advisory x46.Component x46.Severity x46.From p.to' x46.Open)) (w64 (((mget Zad.keq (Zad.mk p.x.Advisory p.x.Component 0) mr).getD 0) - 1))) fun x48=>some (.next (mr,((l.set ((w64 (((mget Zad.keq (Zad.mk p.x.Advisory p.x.Component 0) mr).getD 0) - 1)).toNat) (Zab.mk x46.Advisory x46.Component x46.Severity x46.From p.to' x46.Open)).set ((w64 (((mget Zad.keq (Zad.mk p.x.Advisory p.x.Component 0) mr).getD 0) - 1)).toNat) (Zab.mk x48.Advisory x48.Component p.x.Severity x48.From x48.To x48.Open))))) else (Option.bind (app 64 l [(Zab.mk p.x.Advisory p.x.Component p.x.Severity p.from' p.to' false)]) fun l50=>some (.next ((mset Zad.keq (Zad.mk p.x.Advisory p.x.Component 0) ((l50.length:Nat):Int) mr),l50))))=some (Ex.next (σ:=LastsR × Wins) (τ:=Wins) (ρ:=Wins) s')∧s'.2=(wstep (mh,l) (pieceS p)).2∧lastsRel (wstep (mh,l) (pieceS p)).1 s'.1:=by
 have happ:app 64 l [Zab.mk p.x.Advisory p.x.Component p.x.Severity p.from' p.to' false]=some (l++ [newW (pieceS p)]):=ZfS (n:=1000001) (by omega) (by decide) (by decide)
 have hset:=rel_set hr (pieceS p) l.length
 have hn:(mget Zad.keq (Zad.mk p.x.Advisory p.x.Component 0) mr).getD 0=numOf (mget Zal.keq (keyP (pieceS p)) mh):=hr (keyP (pieceS p))
 simp only[happ,Option.bind_some]
 have happ2:∃s':LastsR × Wins,some (Ex.next (σ:=LastsR × Wins) (τ:=Wins) (ρ:=Wins) (mset Zad.keq (Zad.mk p.x.Advisory p.x.Component 0) (((l++ [newW (pieceS p)]).length:Nat):Int) mr,l++ [newW (pieceS p)]))=some (Ex.next s')∧s'.2=l++ [newW (pieceS p)]∧lastsRel (mset Zal.keq (keyP (pieceS p)) (l.length:Int) mh) s'.1:=by
  refine⟨_,rfl,rfl,?_⟩
  rw[List.length_append]
  exact hset
 unfold wstep
 dsimp only
 cases hm:mget Zal.keq (keyP (pieceS p)) mh with
 | none =>
  rw[show (mget Zad.keq (Zad.mk p.x.Advisory p.x.Component 0) mr).getD 0=0 from by rw[hn,hm];rfl]
  simp only[gAnd,show decide ((0:Int)>0)=false by decide,Bool.false_eq_true,if_false,Option.bind_some]
  exact happ2
 | some i =>
  obtain⟨h1,h2⟩:=h _ _ hm
  obtain⟨n,rfl⟩:∃n:Nat,i=(n:Int):=⟨i.toNat,by omega⟩
  simp only[Int.toNat_natCast] at h2
  obtain⟨w,hw⟩:=ZaE h2
  have e1:w64 ((n:Int)+1 - 1)=(n:Int):=by rw[ZcW (by omega) (by omega)];omega
  have e2:((n:Int)+1>0):=by omega
  rw[show (mget Zad.keq (Zad.mk p.x.Advisory p.x.Component 0) mr).getD 0=(n:Int)+1 from by rw[hn,hm];rfl]
  simp only[gAnd,e1,ZaF hw,Option.bind_some,Int.toNat_natCast,hw]
  rw[if_pos (by simp only[decide_eq_true_eq];exact e2)]
  simp only[Option.bind_some]
  by_cases e:w.To=p.from'
  ·rw[if_pos (show (w.To == p.from')=true by simpa using e),if_pos (show w.To=(pieceS p).from' from e)]
   have hw2:(l.set n (Zab.mk w.Advisory w.Component w.Severity w.From p.to' w.Open))[n]? =some (Zab.mk w.Advisory w.Component w.Severity w.From p.to' w.Open):=by
    rw[List.getElem?_set,if_pos rfl,if_pos h2]
   simp only[ZaF hw2,Option.bind_some,set_set]
   exact⟨_,rfl,rfl,hr⟩
  ·rw[if_neg (show ¬(w.To == p.from')=true by simpa using e),if_neg (show ¬w.To=(pieceS p).from' from e)]
   exact happ2
theorem ZgQ {s:Zam} (h:StoryOk s) (fuel:Nat):Zb4 fuel s=Zb5 fuel ((winsOf (pcs (ZaQ s) s.Until s.Releases)).map (setOpen s.Until)):=by
 have hlen:=h.lenR
 have hpl:=pcs_len (ZaQ s) s.Until s.Releases (ZeT h)
 have hw:=wins_len (pcs (ZaQ s) s.Until s.Releases)
 unfold Zb4
 rw[ref11_viewOf_eq,Option.bind_some,Zes h,Option.bind_some]
 rw[forL_simE (γ:=Lasts × Wins) (g0:=([],[])) (fun g x=>wstep g (pieceS x)) (fun g=>g.2) (fun i a b=>a.2=b.2∧lastsOk b∧b.2.length≤i∧lastsRel b.1 a.1),Zba,List.foldl_map]
 ·refine (congrArg (fun o=>seqK o _) (open_loop s.Until (winsOf (pcs (ZaQ s) s.Until s.Releases)) (by omega))).trans ?_
  rw[Zba]
  cases Zb5 fuel (List.map (setOpen s.Until) (winsOf (pcs (ZaQ s) s.Until s.Releases)))<;>rfl
 ·exact⟨rfl,fun k i hk=>by simp[mget] at hk,Nat.le_refl _,fun k=>rfl⟩
 ·rintro a b ⟨h1,_⟩;exact h1
 ·rintro i p ⟨mr,l⟩ ⟨mh,l'⟩ hp ⟨e,hok,hl,hr⟩
  dsimp only at e;subst e
  have hi:=ZaB hp
  rw[List.length_map] at hi
  obtain⟨s',h1,h2,h3⟩:=ref_step hok hr (by dsimp only at hl ⊢;omega) p
  exact⟨s',h1,h2,wstep_ok hok _,Nat.le_trans (wstep_len _ _) (by dsimp only at hl ⊢;omega),h3⟩
def exW (a:Zab):Zad:=Zad.mk a.Advisory a.Component 0
def wkey (a:Zab):Int × Str × Str:=(a.From,a.Advisory,a.Component)
def wlt (a b:Zab):Bool:=decide (a.From<b.From) || (decide (a.From=b.From) && bef (exW a) (exW b))
theorem Zfk (a b:Zab):Zck a b=some (wlt a b):=by
 simp only[Zck,Zen,Option.bind_some,gOr,gAnd,wlt,exW]
 by_cases h1:a.From<b.From
 ·simp[h1]
 ·by_cases h2:a.From=b.From
  ·simp[h2]
  ·simp[h1,h2]
theorem wlt_trans {a b c:Zab} (h1:wlt a b=true) (h2:wlt b c=true):wlt a c=true:=by
 unfold wlt at *
 simp only[Bool.or_eq_true,Bool.and_eq_true,decide_eq_true_eq] at *
 rcases h1 with h1 | ⟨e1,h1⟩<;>rcases h2 with h2 | ⟨e2,h2⟩
 ·left;omega
 ·left;omega
 ·left;omega
 ·exact .inr ⟨e1.trans e2,bef_trans h1 h2⟩
theorem bef_irrefl (a:Zad):bef a a=false:=by simp[bef,Zgw]
theorem wlt_irrefl (a:Zab):wlt a a=false:=by simp[wlt,bef_irrefl]
theorem wlt_asymm {a b:Zab} (h:wlt a b=true):¬wlt b a=true:=fun h2=>by
 have:=wlt_trans h h2
 rw[wlt_irrefl] at this;cases this
theorem wlt_total {a b:Zab} (h1:¬wlt a b=true) (h2:¬wlt b a=true):wkey a=wkey b:=by
 unfold wlt bef exW at h1 h2
 simp only[Zd3,Bool.or_eq_true,Bool.and_eq_true,decide_eq_true_eq,not_or,not_and] at h1 h2
 have e1:a.From=b.From:=by omega
 have e2:a.Advisory=b.Advisory:=by
  have q1:=(h1.2 e1).1
  have q2:=(h2.2 e1.symm).1
  exact sLt_total (by simpa using q1) (by simpa using q2)
 have e3:a.Component=b.Component:=sLt_total (by simpa using (h1.2 e1).2 e2) (by simpa using (h2.2 e1.symm).2 e2.symm)
 simp[wkey,e1,e2,e3]
theorem wlt_congr {a b c:Zab} (h:wkey a=wkey b):wlt a c=wlt b c∧wlt c a=wlt c b:=by
 simp only[wkey,Prod.mk.injEq] at h
 simp[wlt,exW,h.1,h.2.1,h.2.2]
theorem wlt_neg {a b c:Zab} (h1:¬wlt b a=true) (h2:¬wlt c b=true):¬wlt c a=true:=by
 intro h
 by_cases h3:wlt b c=true
 ·exact h1 (wlt_trans h3 h)
 ·rw[(wlt_congr (wlt_total h3 h2)).1] at h1
  exact h1 h
def cmpI (a b:Int):Int:=if a<b then -1 else if a>b then 1 else 0
def cmpW (a b:Zab):Int:=if cmpI a.From b.From≠0 then cmpI a.From b.From else if cmpS a.Advisory b.Advisory≠0 then cmpS a.Advisory b.Advisory else cmpS a.Component b.Component
theorem Zev (a b:Int):Zcr a b=some (cmpI a b):=by
 simp only[Zcr,Zcm,bne_self_eq_false,Option.bind_some,Bool.false_eq_true,if_false,cmpI,decide_eq_true_eq]
 split
 ·rfl
 ·split<;>rfl
theorem cmp_Or_int_3 (a b c:Int):Zdg [a,b,c]=some (if a≠0 then a else if b≠0 then b else c):=by
 unfold Zdg
 rw[ZcS]
 by_cases ha:a=0
 ·by_cases hb:b=0
  ·by_cases hc:c=0<;>simp[goL,seqK,ha,hb,hc]
  ·simp[goL,seqK,ha,hb]
 ·simp[goL,seqK,ha]
theorem Ze8 (a b:Zab):Za5 a b=some (cmpW a b):=by
 simp only[Za5,Zev,ZdN,Option.bind_some,cmp_Or_int_3,cmpW]
theorem Zgs (a b:Zab):cmpW a b<0↔wlt a b=true:=by
 unfold cmpW wlt cmpI cmpS bef exW
 simp only[Zd3]
 by_cases h1:a.From<b.From
 ·simp[h1]
 ·by_cases h2:a.From=b.From
  ·simp only[h2,Int.lt_irrefl,gt_iff_lt,if_false,ne_eq,not_true_eq_false,decide_false,Bool.false_or,decide_true,Bool.true_and]
   cases sLt a.Advisory.b b.Advisory.b with
   | true=>simp
   | false =>
    by_cases h3:a.Advisory=b.Advisory
    ·simp only[h3,Bool.false_eq_true,if_false,if_true,not_true_eq_false,decide_true,Bool.true_and,Bool.false_or]
     cases sLt a.Component.b b.Component.b with
     | true=>simp
     | false=>simp;split<;>omega
    ·simp[h3]
  ·have h3:a.From>b.From:=by omega
   simp[h1,h2,h3]
theorem cmpW_ok:Cmp3 cmpW:=⟨fun x y h h2=>wlt_asymm ((Zgs _ _).1 h) ((Zgs _ _).1 h2),fun x y z h1 h2 h3=>wlt_neg (fun h=>h1 ((Zgs _ _).2 h)) (fun h=>h2 ((Zgs _ _).2 h)) ((Zgs _ _).1 h3)⟩
abbrev wle (x y:Zab):Prop:=¬wlt y x=true
theorem idx_zero {α:Type} (x:α) (l:List α):idx (x :: l) 0=some x:=by simp[idx]
theorem ZfO {α:Type} (x:α) (l:List α):lslice (x :: l) 1 ((x :: l).length:Int)=some l:=by
 unfold lslice
 rw[if_pos ⟨by omega,by simp;omega,Int.le_refl _⟩]
 simp
theorem lslice_ok {α:Type} {l:List α} {a b:Nat} (h1:a≤b) (h2:b≤l.length):lslice l (a:Int) (b:Int)=some ((l.take b).drop a):=by
 unfold lslice
 rw[if_pos ⟨by omega,by omega,by omega⟩]
 simp
structure MInv (y z a b o:Wins):Prop where
 perm:(y++z).Perm (o++(a++b))
 so:o.Pairwise wle
 sa:a.Pairwise wle
 sb:b.Pairwise wle
 oa:∀x∈o,∀u∈a,wle x u
 ob:∀x∈o,∀u∈b,wle x u
theorem MInv.left {y z a b o:Wins} {x:Zab} (h:MInv y z (x :: a) b o) (hx:∀u∈b,wle x u):MInv y z a b (o++ [x]) where
 perm:=by simpa using h.perm
 so:=List.pairwise_append.2 ⟨h.so,List.pairwise_singleton _ _,fun u hu v hv=>by rw[List.mem_singleton] at hv;subst hv;exact h.oa u hu _ (List.mem_cons_self ..)⟩
 sa:=(List.pairwise_cons.1 h.sa).2
 sb:=h.sb
 oa:=fun u hu v hv=>by
  rcases List.mem_append.1 hu with hu | hu
  ·exact h.oa u hu v (List.mem_cons_of_mem _ hv)
  ·rw[List.mem_singleton] at hu;subst hu
   exact (List.pairwise_cons.1 h.sa).1 v hv
 ob:=fun u hu v hv=>by
  rcases List.mem_append.1 hu with hu | hu
  ·exact h.ob u hu v hv
  ·rw[List.mem_singleton] at hu;subst hu
   exact hx v hv
theorem MInv.right {y z a b o:Wins} {x:Zab} (h:MInv y z a (x :: b) o) (hx:∀u∈a,wle x u):MInv y z a b (o++ [x]) where
 perm:=by
  refine h.perm.trans ?_
  rw[List.append_assoc]
  refine List.Perm.append_left o ?_
  rw[List.singleton_append]
  exact List.perm_middle
 so:=List.pairwise_append.2 ⟨h.so,List.pairwise_singleton _ _,fun u hu v hv=>by rw[List.mem_singleton] at hv;subst hv;exact h.ob u hu _ (List.mem_cons_self ..)⟩
 sa:=h.sa
 sb:=(List.pairwise_cons.1 h.sb).2
 oa:=fun u hu v hv=>by
  rcases List.mem_append.1 hu with hu | hu
  ·exact h.oa u hu v hv
  ·rw[List.mem_singleton] at hu;subst hu
   exact hx v hv
 ob:=fun u hu v hv=>by
  rcases List.mem_append.1 hu with hu | hu
  ·exact h.ob u hu v (List.mem_cons_of_mem _ hv)
  ·rw[List.mem_singleton] at hu;subst hu
   exact (List.pairwise_cons.1 h.sb).1 v hv
theorem Zd1:∀(fuel:Nat) (l:Wins),l.length<fuel→l.length≤1000000→∃r,Zb5 fuel l=some r∧l.Perm r∧r.Pairwise wle
 | 0,l,h,_=>by omega
 | fuel+1,l,hf,hl=>by
  unfold Zb5
  by_cases h2:l.length<2
  ·rw[if_pos (by simp;omega)]
   refine⟨l,rfl,.refl _,?_⟩
   match l,h2 with
   | [],_=>exact List.Pairwise.nil
   | [x],_=>exact List.pairwise_singleton _ _
  ·rw[if_neg (by simp;omega)]
   have e1:w64 ((l.length:Int).tdiv 2)=((l.length / 2:Nat):Int):=by
    have:(l.length:Int).tdiv 2=((l.length / 2:Nat):Int):=by
     rw[Int.tdiv_eq_ediv_of_nonneg (by omega)];omega
    rw[this]
    exact ZcW (by omega) (by omega)
   rw[e1]
   have s1:=lslice_ok (l:=l) (a:=0) (b:=l.length / 2) (by omega) (by omega)
   have s2:=lslice_ok (l:=l) (a:=l.length / 2) (b:=l.length) (by omega) (by omega)
   rw[show ((0:Nat):Int)=0 from rfl] at s1
   obtain⟨y,y1,y2,y3⟩:=Zd1 fuel ((l.take (l.length / 2)).drop 0) (by simp;omega) (by simp;omega)
   obtain⟨z,z1,z2,z3⟩:=Zd1 fuel ((l.take l.length).drop (l.length / 2)) (by simp;omega) (by simp;omega)
   have hyz:l.Perm (y++z):=by
    have:=y2.append z2
    rw[List.drop_zero,List.take_length,List.take_append_drop] at this
    exact this
   have hlen:=hyz.length_eq
   rw[List.length_append] at hlen
   rw[s1,Option.bind_some,y1,Option.bind_some,s2,Option.bind_some,z1,Option.bind_some]
   refine ZaL (B:=fun r=>l.Perm r∧r.Pairwise wle) (R:=fun _=>False) (ZaZ (fun st=>MInv y z st.1 st.2.1 st.2.2) (fun st=>st.1.length+st.2.1.length) ?_ _ ⟨by simp,List.Pairwise.nil,y3,z3,fun x hx=>by simp at hx,fun x hx=>by simp at hx⟩) (fun r hr=>⟨r,rfl,hr⟩) (fun _ h=>h.elim)
   rintro⟨a,b,o⟩ h
   dsimp only at h ⊢
   have hlo:=h.perm.length_eq
   simp only[List.length_append] at hlo
   have happ:∀x:Zab,0<a.length+b.length→app 64 o [x]=some (o++ [x]):=fun x hx=>ZfS (n:=1000001) (by omega) (by decide) (by decide)
   match a,b,h,hlo,happ with
   | [],[],h,_,_ =>
    rw[if_neg (by simp)]
    refine⟨_,rfl,hyz.trans (by simpa using h.perm),h.so⟩
   | x :: a,[],h,hlo,happ =>
    rw[if_pos (by simp)]
    simp only[List.length_nil,Int.natCast_zero,gOr,show ((0:Int) == 0)=true by rfl,if_true,Option.bind_some,idx_zero,happ x (by simp),ZfO]
    exact⟨_,rfl,h.left (fun u hu=>by simp at hu),by simp⟩
   | [],x :: b,h,hlo,happ =>
    rw[if_pos (by simp)]
    have e2:(((x :: b).length:Int) == 0)=false:=by simp only[List.length_cons,beq_eq_false_iff_ne];omega
    simp only[e2,gOr,gAnd,List.length_nil,Int.natCast_zero,show decide ((0:Int)>0)=false by decide,Bool.false_eq_true,if_false,Option.bind_some,idx_zero,happ x (by simp),ZfO]
    exact⟨_,rfl,h.right (fun u hu=>by simp at hu),by simp⟩
   | x :: a,u :: b,h,hlo,happ =>
    rw[if_pos (by simp)]
    have e2:(((u :: b).length:Int) == 0)=false:=by simp only[List.length_cons,beq_eq_false_iff_ne];omega
    have e3:decide (((x :: a).length:Int)>0)=true:=by simp
    simp only[e2,e3,gOr,gAnd,Bool.false_eq_true,if_false,if_true,Option.bind_some,idx_zero,Zfk,happ x (by simp only[List.length_cons];omega),happ u (by simp only[List.length_cons];omega),ZfO]
    by_cases hw:wlt x u=true
    ·rw[if_pos hw]
     refine⟨_,rfl,h.left (fun v hv=>?_),by simp only[List.length_cons];omega⟩
     rcases List.mem_cons.1 hv with rfl | hv
     ·exact wlt_asymm hw
     ·exact wlt_neg (wlt_asymm hw) ((List.pairwise_cons.1 h.sb).1 v hv)
    ·rw[if_neg hw]
     refine⟨_,rfl,h.right (fun v hv=>?_),by simp only[List.length_cons];omega⟩
     rcases List.mem_cons.1 hv with rfl | hv
     ·exact hw
     ·exact wlt_neg hw ((List.pairwise_cons.1 h.sa).1 v hv)
theorem gen_stable (fuel:Nat) (l:Wins) (g:Zab→Zab→Option Int):ZaU fuel l g=Zce fuel l g:=by
 have h1:ZaX=Zbp:=rfl
 have h2:ZaW=ZbI:=rfl
 have h3:ZbG=Zcs:=rfl
 have h4:ZaJ fuel=Zbh fuel:=by
  induction fuel with
  | zero=>rfl
  | succ n ih =>
   funext a b c d e
   unfold ZaJ Zbh
   rw[ih]
   rfl
 have h5:Zbd fuel=Zcc fuel:=by
  funext a b c
  unfold Zbd Zcc
  rw[h4,h1]
 unfold ZaU Zce
 rw[h5]
def pkey (p:Zaa):Int × Str × Str:=(p.from',p.x.Advisory,p.x.Component)
theorem wstep_keys (st:Lasts × Wins) (p:Zaa):((wstep st p).2.map wkey).Sublist (st.2.map wkey++ [pkey p]):=by
 have happ:((st.2++ [newW p]).map wkey).Sublist (st.2.map wkey++ [pkey p]):=by
  rw[List.map_append];exact List.Sublist.refl _
 unfold wstep
 split
 ·rename_i i _
  split
  ·rename_i w hw
   split
   ·have e:(st.2.set i.toNat (moreW p w)).map wkey=st.2.map wkey:=by
     apply List.ext_getElem?
     intro k
     rw[List.getElem?_map,List.getElem?_map,List.getElem?_set]
     split
     ·rename_i e;subst e
      rw[hw,if_pos (ZaB hw)];rfl
     ·rfl
    dsimp only
    rw[e]
    exact List.sublist_append_left _ _
   ·exact happ
  ·exact happ
 ·exact happ
theorem fold_keys:∀(ps:List Zaa) (st:Lasts × Wins),((ps.foldl wstep st).2.map wkey).Sublist (st.2.map wkey++ps.map pkey)
 | [],st=>by simp
 | p :: ps,st=>by
  have h1:=fold_keys ps (wstep st p)
  rw[List.foldl_cons,List.map_cons]
  refine h1.trans ?_
  rw[show st.2.map wkey++pkey p :: ps.map pkey=(st.2.map wkey++ [pkey p])++ps.map pkey by simp]
  exact (wstep_keys st p).append (List.Sublist.refl _)
theorem Zhu {m:Pubs} {r:Zag} {e:Int} {p:Zaa} (h:p∈pcsOf m r e):r.Day≤p.from'∧p.from'<p.to'∧p.to'≤e:=by
 unfold pcsOf at h
 rw[List.mem_map] at h
 obtain⟨x,hx,rfl⟩:=h
 rw[List.mem_filter] at hx
 have h2:=hx.2
 simp only[decide_eq_true_eq] at h2
 refine⟨?_,h2,?_⟩
 ·show r.Day≤fromOf r.Day (pub m x)
  unfold fromOf;split<;>omega
 ·show toOf e (pub m x)≤e
  unfold toOf;split
  ·split<;>omega
  ·exact Int.le_refl _
theorem pcs_ge {m:Pubs} {u d:Int}:∀ {l:List Zag},(∀r∈l,d≤r.Day)→∀p∈pcs m u l,d≤p.from'
 | [],_,p,hp=>by simp[pcs] at hp
 | r :: l,h,p,hp=>by
  simp only[pcs,List.mem_append] at hp
  rcases hp with hp | hp
  ·have:=(Zhu hp).1
   have:=h r (List.mem_cons_self ..)
   omega
  ·exact pcs_ge (fun x hx=>h x (List.mem_cons_of_mem _ hx)) p hp
theorem pcs_keys {m:Pubs} {u:Int}:∀ {l:List Zag},l.Pairwise (fun a b=>a.Day<b.Day)→(∀r∈l,esFault r.Exposures=0)→(pcs m u l).Pairwise (fun p q=>pkey p≠pkey q)
  | [],_,_=>List.Pairwise.nil
  | r :: l,hd,he=>by
    rw[List.pairwise_cons] at hd
    simp only[pcs]
    rw[List.pairwise_append]
    refine⟨?_,pcs_keys hd.2 (fun x hx=>he x (List.mem_cons_of_mem _ hx)),fun p hp q hq=>?_⟩
    · unfold pcsOf
      rw[List.pairwise_map]
      refine ((es_pairwise (he r (List.mem_cons_self ..))).filter _).imp fun {x y} hxy hk=>?_
      have:=bef_ne hxy
      simp only[pkey,pieceOf,Prod.mk.injEq] at hk
      exact this (by rw[hk.2.1,hk.2.2])
    · intro hk
      have h1:=Zhu hp
      cases l with
      | nil=>simp[pcs] at hq
      | cons r' l =>
        have h2:=pcs_ge (m:=m) (u:=u) (d:=r'.Day) (l:=r' :: l) (fun x hx=>by
          rcases List.mem_cons.1 hx with rfl | hx
          · exact Int.le_refl _
          · exact Int.le_of_lt ((List.pairwise_cons.1 hd.2).1 x hx)) q hq
        simp only[pkey,Prod.mk.injEq] at hk
        simp only[endOf] at h1
        omega
def unsorted (s:Zam):Wins:=(winsOf (pcs (ZaQ s) s.Until s.Releases)).map (setOpen s.Until)
theorem ZhE {s:Zam} (h:StoryOk s):(unsorted s).Pairwise (fun a b=>wkey a≠wkey b):=by
  have h1:(unsorted s).map wkey=(winsOf (pcs (ZaQ s) s.Until s.Releases)).map wkey:=by
    unfold unsorted
    rw[List.map_map];rfl
  have h2:=fold_keys (pcs (ZaQ s) s.Until s.Releases) ([],[])
  rw[←List.pairwise_map (f:=wkey) (R:=fun a b=>a≠b),h1]
  refine List.Pairwise.sublist (by simpa [winsOf] using h2) ?_
  rw[List.pairwise_map]
  exact pcs_keys (rel_days h) (fun r hr=>by
    obtain⟨i,hi⟩:=List.getElem?_of_mem hr
    exact (h.rel i r hi).2.2.1)
theorem Zgz {s:Zam} (h:StoryOk s):(unsorted s).length≤250000:=by
 have hlen:=h.lenR
 have hpl:=pcs_len (ZaQ s) s.Until s.Releases (ZeT h)
 have hw:=wins_len (pcs (ZaQ s) s.Until s.Releases)
 unfold unsorted
 rw[List.length_map]
 omega
theorem key_inj {α β:Type} {f:α→β}:∀ {l:List α},l.Pairwise (fun a b=>f a≠f b)→∀a∈l,∀b∈l,f a=f b→a=b
 | [],_,a,ha,_,_,_=>by cases ha
 | x :: l,h,a,ha,b,hb,e=>by
  rw[List.pairwise_cons] at h
  rcases List.mem_cons.1 ha with e1 | ha<;>rcases List.mem_cons.1 hb with e2 | hb
  ·rw[e1,e2]
  ·rw[e1] at e;exact absurd e (h.1 b hb)
  ·rw[e2] at e;exact absurd e.symm (h.1 a ha)
  ·exact key_inj h.2 a ha b hb e
structure Wdw (s:Zam) (r:Wins):Prop where
 perm:(unsorted s).Perm r
 sorted:r.Pairwise wle
theorem Wdw.eq {s:Zam} (h:StoryOk s) {r r':Wins} (h1:Wdw s r) (h2:Wdw s r'):r=r' :=
 List.Perm.eq_of_pairwise (le:=wle) (fun a b ha hb hab hba=>key_inj (ZhE h) a (h1.perm.symm.subset ha) b (h2.perm.symm.subset hb) (wlt_total hba hab)) h1.sorted h2.sorted (h1.perm.symm.trans h2.perm)
def bigFuel:Nat:=1000001
theorem windows_eq {s:Zam} (h:StoryOk s):∃r,ZbJ bigFuel s=some r∧Zb4 bigFuel s=some r∧Wdw s r:=by
 have hl:=Zgz h
 obtain⟨r,r1,r2,r3⟩:=Zd1 bigFuel (unsorted s) (by unfold bigFuel;omega) (by omega)
 obtain⟨q,q1,q2,q3⟩:=sort_stable (g:=Za5) Ze8 cmpW_ok (fuel:=bigFuel) (d:=unsorted s) (by unfold bigFuel;omega) (by unfold lim;omega)
 have w1:Wdw s r:=⟨r2,r3⟩
 have w2:Wdw s q:=⟨q2,q3.imp fun h h2=>h ((Zgs _ _).2 h2)⟩
 obtain rfl:=w1.eq h w2
 refine⟨r,?_,(ZgQ h _).trans r1,w1⟩
 rw[Zf4 h]
 show Za7 bigFuel (unsorted s) Za5=some r
 have hc:Zbk (unsorted s)=some (unsorted s):=by
  unfold Zbk
  rw[app_ok (by simp;unfold lim;omega) (by simp;unfold lim;omega)]
  simp
 simp only[Za7,hc,gen_stable,q1,Option.bind_some,ZbB q2.length_eq.symm]
def winsA (s:Zam) (r:Wins):Wins × Int:=if sFault s≠0 then ([],sFault s) else (r,0)
theorem Windows_eq (s:Zam):∃r,Zfp bigFuel s=some r∧Zhs bigFuel s=some r∧r.2=sFault s∧(sFault s=0→Wdw s r.1):=by
 unfold Zfp Zhs
 rw[Zfb,ref11_Check_eq]
 simp only[Option.bind_some]
 by_cases h:sFault s=0
 ·obtain⟨r,h1,h2,h3⟩:=windows_eq (storyOk h)
  simp only[h,bne_self_eq_false,Bool.false_eq_true,if_false,h1,h2,Option.bind_some]
  exact⟨_,rfl,rfl,rfl,fun _=>h3⟩
 ·rw[if_pos (by simpa using h),if_pos (by simpa using h)]
  exact⟨_,rfl,rfl,rfl,fun e=>absurd e h⟩
end Go.Abs
