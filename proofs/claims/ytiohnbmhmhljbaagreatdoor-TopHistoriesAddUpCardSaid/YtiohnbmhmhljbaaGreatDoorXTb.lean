/-
  Histories that add up:what the law's function answers (no program is in sight).
-/
import Derived.Test.YtiohnbmhmhljbaaGreatDoorXTa
import Derived.Test.YtiohnbmhmhljbaaGreatDoorFTa
namespace Go.Abs
open Go
set_option maxRecDepth 8000
theorem pcs_leT {m:Pubs} {u:Int}:∀ {l:List Zag},(∀r∈l,r.Day≤u)→∀p∈pcs m u l,p.to'≤u
 | [],_,p,hp=>by simp[pcs] at hp
 | r :: l,h,p,hp=>by
  simp only[pcs,List.mem_append] at hp
  rcases hp with hp | hp
  ·have h1:=(Zhu hp).2.2
   cases l with
   | nil=>exact h1
   | cons r' l =>
    have:=h r' (by simp)
    simp only[endOf] at h1
    omega
  ·exact pcs_leT (fun x hx=>h x (List.mem_cons_of_mem _ hx)) p hp
theorem win_daysT {s:Zam} (h:StoryOk s) {r:Wins} (hr:Wdw s r) {w:Zab} (hw:w∈r):0≤w.From∧w.From≤1000000∧w.From<w.To∧w.To≤1000000:=by
 have hf:=wfacts h hr
 have hp:=hf.pos w hw
 have hd:∀x∈s.Releases,0≤x.Day∧x.Day≤s.Until:=fun x hx=>by
  obtain⟨i,hi⟩:=List.getElem?_of_mem hx
  exact⟨(h.rel i x hi).1,(h.rel i x hi).2.1⟩
 obtain⟨p,hp1,_,hp2,_⟩:=(hf.cov (acW w) w.From).1 ⟨w,hw,rfl,by omega,hp⟩
 obtain⟨q,hq1,_,_,hq2⟩:=(hf.cov (acW w) (w.To - 1)).1 ⟨w,hw,rfl,by omega,by omega⟩
 have h1:=pcs_ge (d:=0) (fun x hx=>(hd x hx).1) p hp1
 have h2:=pcs_leT (fun x hx=>(hd x hx).2) q hq1
 have:=h.until1
 omega
theorem win_lenT {s:Zam} (h:StoryOk s) {r:Wins} (hr:Wdw s r):r.length≤250000:=by
 rw[←hr.perm.length_eq];exact Zgz h
theorem goL_want {ρ:Type} {day:Int} {body:Nat→Zab→Wins→Option (Ex Wins Wins ρ)}:∀(r:Wins) (i:Nat) (out:Wins),out.length+r.length≤250000 →
  (∀i (w:Zab) (out:Wins),out.length<250000→body i w out=some (.next (if decide (w.From<day)=true then out++ [clipW day w] else out))) →
  goL body (fun x=>x) r i out=some (.inl (out++wantW r day))
 | [],_,out,_,_=>by simp[goL,wantW]
 | w :: r,i,out,hl,h=>by
  simp only[List.length_cons] at hl
  rw[goL,h i w out (by omega),Option.bind_some]
  by_cases hw:decide (w.From<day)=true
  ·simp only[if_pos hw]
   rw[goL_want r (i+1) _ (by simp;omega) h]
   simp only[wantW,List.filter_cons,if_pos hw,List.map_cons,List.append_assoc,List.singleton_append]
  ·simp only[if_neg hw]
   rw[goL_want r (i+1) out (by omega) h]
   simp only[wantW,List.filter_cons,if_neg hw]
theorem want_loop {ρ:Type} (day:Int) (r:Wins) (hl:r.length≤250000) :
  forL (σ:=(List Zab)) (τ:=(List Zab)) (ρ:=ρ) r (fun _ x18 l23=>if (decide (x18.From<day))=true then (Option.bind (app 64 l23 [(Zab.mk x18.Advisory x18.Component x18.Severity x18.From (if day<x18.To then day else x18.To) x18.Open)]) fun l28=>some (.next l28)) else (some (.next l23))) (fun l23=>l23) ([]:List Zab)=some (.inl (wantW r day)):=by
 rw[ZcS,goL_want (day:=day) r 0 [] (by simpa using hl)]
 ·rfl
 ·intro i w out ho
  by_cases hw:decide (w.From<day)=true
  ·rw[if_pos hw,if_pos hw,ZfS (n:=250000) ho (by unfold lim;omega) (by unfold lim;omega),Option.bind_some]
   have:(if day<w.To then day else w.To)=if w.To<day then w.To else day:=by split<;>split<;>omega
   rw[this];rfl
  ·rw[if_neg hw,if_neg hw]
theorem eqF_norm {a b:Wins} (h:a.map normW=b.map normW):ZgT a b ZgW=some true:=by
 have hlen:a.length=b.length:=by have:=congrArg List.length h;simpa using this
 unfold ZgT
 rw[if_neg (by simp[hlen]),Zfn (fun _ _=>false) (fun _ _=>false)]
 ·have:firstI (fun (_:Nat) (_:Zab)=>false) a 0=none:=Zeg.2 fun _ _ _=>rfl
  rw[this];rfl
 ·intro i x hx
  have hb:(b.map normW)[i]? =some (normW x):=by rw[←h,List.getElem?_map,hx];rfl
  rw[List.getElem?_map,Option.map_eq_some_iff] at hb
  obtain⟨y,hy,hn⟩:=hb
  rw[ZfN,hy]
  simp only[normW,Zab.mk.injEq] at hn
  simp[ZgW,hn.1,hn.2.1,hn.2.2.2.1,hn.2.2.2.2.1,sEq_self]
theorem contains_w {l:List Zad} {w:Zab} (h:∃x∈l,x.Advisory=w.Advisory∧x.Component=w.Component):ZcY l (fun a0=>ZgV a0 w)=some true:=by
 rw[contains_any (g:=fun a0=>ZgV a0 w) (fun x=>(sEq x.Advisory.b w.Advisory.b) && (sEq x.Component.b w.Component.b)) (fun x=>rfl)]
 obtain⟨x,hx,h1,h2⟩:=h
 congr 1
 rw[List.any_eq_true]
 exact⟨x,hx,by simp[h1,h2,sEq_self]⟩
theorem days_loop {s:Zam} (h0:sFault s=0) {r:Wins} (hr:WFacts s r) {w:Zab} (hw:w∈r) {l:List Int} (hl:∀d∈l,w.From≤d∧d<w.To∧dayOk d=true) :
    forN (σ:=Unit) (τ:=Unit) (ρ:=Ex Unit Unit Bool) (fun i86 _=>Option.bind (idx l (i86:Int)) fun x100=>Option.bind (Zg4 s x100) fun (y102,y103,y104)=>Option.bind (gOr ((y104 != 0) || (!y103)) (Option.bind (ZcY y102.Exposures (fun a0=>ZgV a0 w)) fun y106=>some (!y106))) fun b108=>if b108=true then (some (.ret (.ret false))) else (some (.next ()))) (fun _=>()) l.length 0 ()=some (.inl ()):=by
  obtain⟨y,h1,h2⟩:=forN_inv (σ:=Unit) (τ:=Unit) (ρ:=Ex Unit Unit Bool) (body:=fun i86 _=>Option.bind (idx l (i86:Int)) fun x100=>Option.bind (Zg4 s x100) fun (y102,y103,y104)=>Option.bind (gOr ((y104 != 0) || (!y103)) (Option.bind (ZcY y102.Exposures (fun a0=>ZgV a0 w)) fun y106=>some (!y106))) fun b108=>if b108=true then (some (.ret (.ret false))) else (some (.next ()))) (fin:=fun _=>()) (N:=l.length) (fun _ _=>True) (B:=fun _=>True) (R:=fun _=>False) (s:=()) trivial (fun i _ hi _=>by
    have hd:=hl l[i] (List.getElem_mem hi)
    obtain⟨rel,hu,hx⟩:=used_has h0 hr hw hd.1 hd.2.1 hd.2.2
    rw[ZfN,List.getElem?_eq_getElem hi]
    simp only[Option.bind_some,hu,contains_w hx]
    exact⟨_,rfl,trivial⟩) (fun _ _=>trivial)
  rw[h1]
  cases y with
  | inl t=>rfl
  | inr e=>exact h2.elim
theorem law_Top (s:Zam) (day sev:Int):ZgY bigFuel s day sev=some true:=by
  obtain⟨⟨r,e⟩,hw,_,he,hr⟩:=Windows_eq s
  dsimp only at he hr
  unfold ZgY
  simp only[hw,history_Cut_eq,Option.bind_some]
  split
  · rfl
  · rename_i hb
    simp only[Bool.or_eq_true,not_or,bne_iff_ne,ne_eq,Classical.not_not,decide_eq_true_eq] at hb
    obtain⟨⟨⟨h1,h2⟩,h3⟩,h4⟩:=hb
    have h0:sFault s=0:=by rw[←he];exact h1
    have hd:dayOk day=true:=by
      unfold cutA at h2
      rw[if_neg (by simpa using h0)] at h2
      cases hd:dayOk day with
      | true=>rfl
      | false=>rw[hd] at h2;simp at h2
    have hc:cutA s day=(cutOf s day,0):=by
      unfold cutA
      rw[if_neg (by simpa using h0),if_neg (by simp[hd])]
    have hc0:sFault (cutOf s day)=0:=sFault_ok (cut_ok (sok_of h0) hd)
    have h:=storyOk h0
    have h':=storyOk hc0
    have hr:=hr h0
    obtain⟨⟨r',e'⟩,hw',_,he',hr'⟩:=Windows_eq (cutOf s day)
    dsimp only at he' hr'
    have hr':=hr' hc0
    rw[hc0] at he'
    subst he'
    have hd':=(ZhB day).1 hd
    simp only[hc,hw',Option.bind_some,bne_self_eq_false,Bool.false_eq_true,if_false]
    rw[want_loop day r (win_lenT h hr),Zba,eqF_norm (cut_windows h h' hr hr')]
    rw[Zhq h0 (v1:=0) (v2:=day) (v3:=sev) (by omega) (by omega) (by omega) (by omega) (by omega),Zhq h0 (v1:=day) (v2:=1000000) (v3:=sev) (by omega) (by omega) (by omega) (by omega) (by omega),Zhq h0 (v1:=0) (v2:=1000000) (v3:=sev) (by omega) (by omega) (by omega) (by omega) (by omega)]
    simp only[Option.bind_some,Bool.not_true,bne_self_eq_false,Bool.or_self,Bool.false_or,Bool.false_eq_true,if_false]
    rw[exposed_sum s sev hd]
    rw[ZcW (by omega) (by
      have:=List.countP_le_length (l:=List.range (1000000:Int).toNat) (p:=cov 0 sev (pcs (ZaQ s) s.Until s.Releases))
      rw[List.length_range] at this
      omega),bne_self_eq_false,if_neg Bool.false_ne_true]
    have fin:∀ {o:Option Bool},(∃r,o=some r∧r=true)→o=some true:=fun⟨r,h1,h2⟩=>by rw[h1,h2]
    refine fin (ZaL (Q:=fun b:Bool=>b=true) (forL_inv' (σ:=Unit) (τ:=Unit) (ρ:=Bool) (fun _ _=>True) (B:=fun _=>True) (R:=fun _=>False) (s:=()) trivial (fun i w _ hx _=>by
      have hm:=List.mem_of_getElem? hx
      have hwd:=win_daysT h hr hm
      have hlast:w64 (w.To - 1)=w.To - 1:=ZcW (by omega) (by omega)
      have hf:=wfacts h hr
      have hfirst:w.From≤w.From∧w.From<w.To∧dayOk w.From=true:=⟨by omega,by omega,(ZhB _).2 (by omega)⟩
      have hend:w.From≤w.To - 1∧w.To - 1<w.To∧dayOk (w.To - 1)=true:=⟨by omega,by omega,(ZhB _).2 (by omega)⟩
      by_cases hc:((decide (w.From≤day)) && (decide (day<w.To)))=true
      · rw[if_pos hc,hlast,app_ok (by simp;unfold lim;omega) (by simp;unfold lim;omega)]
        simp only[Bool.and_eq_true,decide_eq_true_eq] at hc
        rw[Option.bind_some,Zba,days_loop h0 hf hm (l:= [w.From,w.To - 1]++ [day]) (fun d hd2=>by
          simp only[List.cons_append,List.nil_append,List.mem_cons,List.not_mem_nil,or_false] at hd2
          rcases hd2 with rfl | rfl | rfl
          · exact hfirst
          · exact hend
          · exact⟨hc.1,hc.2,hd⟩)]
        exact⟨_,rfl,trivial⟩
      · rw[if_neg hc,hlast]
        rw[Zba,days_loop h0 hf hm (l:= [w.From,w.To - 1]) (fun d hd2=>by
          simp only[List.mem_cons,List.not_mem_nil,or_false] at hd2
          rcases hd2 with rfl | rfl
          · exact hfirst
          · exact hend)]
        exact⟨_,rfl,trivial⟩) (fun _ _=>trivial)) (fun _ _=>⟨_,rfl,rfl⟩) (fun _ h=>h.elim))
end Go.Abs
