/-
  Numbers of a history,the plain law:tallies,means and middles (no program is in sight).
-/
import Derived.Test.YtjjhmldeammecaaXNb
namespace Go.Abs
open Go
set_option maxRecDepth 8000
theorem openCount_eq (ps:List Zaa) (hp:ps.length≤1000000) (day:Int):Zcp ps day=some (((ps.filter (onDay day)).length:Nat):Int):=by
  unfold Zcp
  have:=ZaL (R:=fun _=>False) (Q:=fun r=>r=(((ps.filter (onDay day)).length:Nat):Int)) (k:=fun n:Int=>some n)
    (Zep (σ:=Int) (τ:=Int) (l:=ps) (s:=0) (fin:=fun n5=>n5) (body:=fun _ x4 n5=>if ((decide (x4.from'≤day)) && (decide (day<x4.to')))=true then (some (.next (w64 (n5+1)))) else (some (.next n5)))
      (fun i n=>n=((((ps.take i).filter (onDay day)).length:Nat):Int)) (B:=fun n=>n=(((ps.filter (onDay day)).length:Nat):Int)) (by simp) (fun i p n hp' hn=>?_) (fun n hn=>by rwa [List.take_length] at hn)) (fun n hn=>⟨_,rfl,hn⟩) (fun _ h=>h.elim)
  · obtain⟨r,hr,rfl⟩:=this;exact hr
  · have hle:((ps.take i).filter (onDay day)).length≤1000000:=by
      have:=List.length_filter_le (onDay day) (ps.take i)
      rw[List.length_take] at this
      omega
    rw[Zfr hp',List.filter_append]
    by_cases h:onDay day p=true
    · rw[if_pos (show (decide (p.from'≤day) && decide (day<p.to'))=true from h)]
      refine⟨_,rfl,?_⟩
      show _=_
      rw[hn,Zbq (by unfold top;omega)]
      simp[h]
    · rw[if_neg (show ¬(decide (p.from'≤day) && decide (day<p.to'))=true from h)]
      refine⟨_,rfl,?_⟩
      show _=_
      rw[hn]
      simp[h]
theorem openR_len {s:Zam} (h:StoryOk s) (day:Int):(openR s day).length=((pcs (ZaQ s) s.Until s.Releases).filter (onDay day)).length:=by
 rw[openR_pieces h,List.length_map]
theorem wdw_len {s:Zam} (h:StoryOk s) {r:Wins} (hr:Wdw s r):r.length≤250000:=by
 rw[←hr.perm.length_eq];exact Zgz h
theorem inl_of {τ ρ:Type} {o:Option (Sum τ ρ)} {B:τ→Prop} (h:∃y,o=some y∧Out B (fun _=>False) y):∃t,o=some (.inl t)∧B t:=by
 obtain⟨y,h1,h2⟩:=h
 cases y with
 | inl t=>exact⟨t,h1,h2⟩
 | inr r=>exact h2.elim
theorem Tallies_eq (s:Zam) (v1 v2 v3:Int):∃r,Zdx bigFuel s v1 v2 v3=some r∧ZcJ bigFuel s v1 v2 v3=some r:=by
 unfold Zdx ZcJ
 rw[Zc2,Zfb,Option.bind_some,Option.bind_some]
 by_cases h0:sFault s=0
 case neg =>
  refine⟨([],sFault s),?_,?_⟩
  ·rw[if_pos (by simpa using h0)]
  ·rw[if_pos (by simpa using h0)]
 simp only[h0,bne_self_eq_false,Bool.false_eq_true,if_false]
 have h:=storyOk h0
 generalize hb:(((((((decide (v1<0)) || (decide (v1>1000000))) || (decide (v2<1))) || (decide (v2>1000000))) || (decide (v3<0))) || (decide (v3>1000))) || (decide (w64 (v1+(w64 (v2*v3)))>1000000)))=b
 cases b with
 | true=>exact⟨([],9),rfl,rfl⟩
 | false =>
  simp only[Bool.or_eq_false_iff,decide_eq_false_iff_not] at hb
  obtain⟨r,r1,r2,r3⟩:=Zgv h
  simp only[Bool.false_eq_true,if_false,Zdo,Option.bind_some,r1,r2,ZcU h,Zf2 h,openCount_eq _ (Nat.le_trans (pcs_len' h) (by decide)),openR_len h]
  have key:∀(body:Nat→List Zav→Option (Ex (List Zav) (List Zav) ((List Zav) × Int))),
    (∀(i:Nat) l,(i:Int)<v3→l.length=i→∃z,body i l=some z∧OutE (fun l'=>l'.length=i+1) (fun _=>True) (fun _=>False) z)→∃q,(seqK (forI (σ:=(List Zav)) (τ:=(List Zav)) v3 body (fun l=>l) ([]:List Zav)) fun l74=>some (l74,(0:Int)))=some q:=by
   intro body hbody
   obtain⟨t,ht,-⟩:=inl_of (forI_inv (σ:=List Zav) (τ:=List Zav) (ρ:=(List Zav) × Int) (body:=body) (fin:=fun l=>l) (n:=v3) (fun i l=>l.length=i) (B:=fun _=>True) (s:= []) (by unfold top;omega) rfl hbody (fun _ _=>trivial))
   rw[ht]
   exact⟨_,rfl⟩
  refine (key _ fun i l hi hl=>?_).imp fun q hq=>⟨hq,hq⟩
  refine ZaL (B:=fun _=>True) (R:=fun _=>False) (Zep (fun _ _=>True) trivial (fun j x st _ _=>?_) (fun _ _=>trivial)) (fun st _=>?_) (fun _ h=>h.elim)
  ·refine ZaL (B:=fun _=>True) (R:=fun _=>False) ?_ (fun n _=>?_) (fun _ h=>h.elim)
   ·split<;>exact⟨_,rfl,trivial⟩
   ·split<;>exact⟨_,rfl,trivial⟩
  ·rw[app_ok (by simp;unfold lim;omega) (by simp;unfold lim;omega),Option.bind_some]
   exact⟨_,rfl,by show List.length _=_;simp[hl]⟩
def clW (v:Int) (w:Zab):Bool:=(!w.Open) && (decide (w.Severity≥v))
def lnW (w:Zab):Int:=w64 (w.To - w.From)
theorem closed_loop {ρ:Type} (v:Int) {l:Wins} (hl:l.length≤250000):forL (σ:=(List Int)) (τ:=(List Int)) (ρ:=ρ) l (fun _ x6 l11=>if ((!x6.Open) && (decide (x6.Severity≥v)))=true then (Option.bind (app 8 l11 [w64 (x6.To - x6.From)]) fun l17=>some (.next l17)) else (some (.next l11))) (fun l11=>l11) ([]:List Int)=some (.inl ((l.filter (clW v)).map lnW)):=by
 rw[Zfs (clW v) lnW [] (fun i x s hx hs=>?_)]
 ·simp
 ·have hi:=ZaB hx
  rw[List.length_nil] at hs
  by_cases h:clW v x=true
  ·have h':((!x.Open) && (decide (x.Severity≥v)))=true:=h
   rw[if_pos h',if_pos h,ZfS (n:=250001) (by omega) (by decide) (by decide)]
   rfl
  ·have h':¬((!x.Open) && (decide (x.Severity≥v)))=true:=h
   rw[if_neg h',if_neg h]
theorem closed_eq {s:Zam} (h:StoryOk s) {r:Wins} (r2:Zb4 bigFuel s=some r) (r3:Wdw s r) (v:Int):Zdi bigFuel s v=some ((r.filter (clW v)).map lnW):=by
 unfold Zdi
 rw[r2,Option.bind_some,closed_loop v (wdw_len h r3)]
 rfl
theorem lengths_eq {s:Zam} (h:StoryOk s) {r:Wins} (r1:ZbJ bigFuel s=some r) (r3:Wdw s r) (v:Int):∃q,Zcv bigFuel s v=some q∧((r.filter (clW v)).map lnW).Perm q∧q.Pairwise (fun a b=>a≤b):=by
 have hl:=wdw_len h r3
 have hf:((r.filter (clW v)).map lnW).length≤250000:=by
  have:=List.length_filter_le (clW v) r
  rw[List.length_map];omega
 obtain⟨q,q1,q2,q3⟩:=sort_int_ok (fuel:=bigFuel) (l:=(r.filter (clW v)).map lnW) (by unfold bigFuel;omega) (by unfold lim;omega)
 refine⟨q,?_,q2,q3⟩
 unfold Zcv
 rw[r1,Option.bind_some,closed_loop v hl,Zba,q1,Option.bind_some,ZbB q2.length_eq.symm,Option.bind_some]
theorem badSpan0 (v:Int):spanBad 0 0 v=(decide (v<0) || decide (v>100)):=by
 simp[spanBad]
theorem w64_sum (a b:Int):w64 (w64 a+b)=w64 (a+b):=by
 simp only[w64,IntKind.wrap,IntKind.bits,IntKind.signed]
 simp
 split<;>split<;>split<;>omega
theorem sum_loop {ρ:Type} (l:List Int):forL (σ:=Int) (τ:=Int) (ρ:=ρ) l (fun _ x n=>some (.next (w64 (n+x)))) (fun n=>n) 0=some (.inl (l.foldl (fun n x=>w64 (n+x)) 0)) :=
 forL_det (fun n x=>w64 (n+x)) (fun _ _=>True) trivial (fun _ _ _ _ _=>⟨rfl,trivial⟩)
theorem sum_perm {l m:List Int} (h:l.Perm m) (n:Int):l.foldl (fun n x=>w64 (n+x)) n=m.foldl (fun n x=>w64 (n+x)) n:=by
 induction h generalizing n with
 | nil=>rfl
 | cons x _ ih=>exact ih _
 | swap x y l =>
  simp only[List.foldl_cons]
  rw[w64_sum,w64_sum,Int.add_right_comm]
 | trans _ _ ih1 ih2=>rw[ih1,ih2]
theorem gcd_ok:∀(n:Nat) (a b:Int),b.natAbs≤n→(a≠0∨b≠0)→∃g,g≠0∧∀ρ:Type,loopW (σ:=Int × Int) (τ:=Int) (ρ:=ρ) (fun (n2,n3)=>if (n3 != 0)=true then (Option.bind (nz n3) fun _=>some (.next (n3,n2.tmod n3))) else (some (.brk n2))) (a,b)=some (.inl g):=by
 intro n
 induction n with
 | zero =>
  intro a b hb h
  obtain rfl:b=0:=by omega
  refine⟨a,by omega,fun ρ=>?_⟩
  rw[Zd9];rfl
 | succ n ih =>
  intro a b hb h
  by_cases hb0:b=0
  ·subst hb0
   refine⟨a,by omega,fun ρ=>?_⟩
   rw[Zd9];rfl
  ·have hlt:(a.tmod b).natAbs<b.natAbs:=by
    rw[Int.natAbs_tmod]
    exact Nat.mod_lt _ (by omega)
   obtain⟨g,g0,hg⟩:=ih b (a.tmod b) (by omega) (.inl hb0)
   refine⟨g,g0,fun ρ=>?_⟩
   rw[Zd9]
   dsimp only
   rw[if_pos (by simpa using hb0),show nz b=some () from if_neg hb0]
   exact hg ρ
theorem lowest_eq (a:Int) {b:Int} (hb:0<b):∃r,Zdh a b=some r∧ZcF a b=some r:=by
 obtain⟨g,g0,hg⟩:=gcd_ok b.natAbs (if a<w64 (0 - a) then w64 (0 - a) else a) b (Nat.le_refl _) (.inr (by omega))
 have hn:nz g=some ():=if_neg g0
 refine⟨(w64 (a.tdiv g),w64 (b.tdiv g)),?_,?_⟩
 ·unfold Zdh ZeB
  rw[hg Int,Zba]
  simp only[Option.bind_some,hn]
 ·unfold ZcF
  rw[if_neg (by simp;omega),Zba]
  dsimp only
  rw[hg (Int × Int),Zba]
  simp only[Option.bind_some,hn]
theorem MeanDays_eq (s:Zam) (v:Int):∃r,ZcZ bigFuel s v=some r∧ZcC bigFuel s v=some r:=by
 unfold ZcZ ZcC
 rw[Zez,Zc2,Option.bind_some,Option.bind_some]
 by_cases h0:sFault s=0
 case neg =>
  refine⟨(0,0,sFault s),?_,?_⟩
  ·rw[if_pos (by simpa using h0)]
  ·rw[if_pos h0,if_pos (by simpa using h0)]
 simp only[h0,bne_self_eq_false,Bool.false_eq_true,if_false,ne_eq,not_true_eq_false,Zbw,Option.bind_some,badSpan0]
 cases (decide (v<0) || decide (v>100)) with
 | true=>exact⟨(0,0,9),rfl,rfl⟩
 | false =>
  have h:=storyOk h0
  obtain⟨r,r1,r2,r3⟩:=Zgv h
  obtain⟨q,q1,q2,q3⟩:=lengths_eq h r1 r3 v
  have hlen:=q2.length_eq
  simp only[Bool.false_eq_true,if_false,bne_self_eq_false,closed_eq h r2 r3,q1,Option.bind_some,←hlen]
  generalize ((r.filter (clW v)).map lnW)=c at q2 hlen
  by_cases hc:c.length=0
  ·refine⟨(0,1,0),?_,?_⟩
   ·rw[if_pos (by simpa using hc)]
   ·rw[if_pos (by simpa using hc)]
  ·obtain⟨⟨x,y⟩,e1,e2⟩:=lowest_eq (c.foldl (fun n x=>w64 (n+x)) 0) (b:=(c.length:Int)) (by omega)
   refine⟨(x,y,0),?_,?_⟩
   ·rw[if_neg (by simpa using hc),sum_loop,Zba,e1];rfl
   ·rw[if_neg (by simpa using hc),sum_loop,Zba,←sum_perm q2,e2];rfl
end Go.Abs
