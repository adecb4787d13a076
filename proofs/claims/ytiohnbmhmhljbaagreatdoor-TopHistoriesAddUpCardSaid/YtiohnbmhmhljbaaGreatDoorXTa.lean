/-
  Histories that add up,the plain law:the windows of a story up to a day,the days of exposure of both sides of a day (no program is in sight).
-/
import Derived.Test.YtiohnbmhmhljbaaGreatDoorXNa
import Derived.Test.YtiohnbmhmhljbaaGreatDoorXHu
namespace Go.Abs
open Go
set_option maxRecDepth 8000
theorem lastR_cut {d day:Int} (hd:d<day):∀(l:List Zag) (o:Option Zag),lastR d (l.filter fun r=>decide (r.Day<day)) o=lastR d l o
 | [],_=>rfl
 | r :: l,o=>by
  have ih:=fun o'=>lastR_cut hd l o'
  by_cases h:r.Day<day
  ·rw[List.filter_cons,if_pos (by simpa using h)]
   exact ih _
  ·rw[List.filter_cons,if_neg (by simpa using h)]
   show lastR d (l.filter _) o=lastR d l (if r.Day≤d then some r else o)
   rw[if_neg (by omega)]
   exact ih o
theorem openR_cut (s:Zam) (day d:Int):openR (cutOf s day) d=if d<day then openR s d else []:=by
 have hu:usedR (cutOf s day) d=if d<day then usedR s d else none:=by
  unfold usedR
  show (if (if day<s.Until then day else s.Until)≤d then none else lastR d (s.Releases.filter fun r=>decide (r.Day<day)) none)=_
  by_cases hd:d<day
  ·rw[if_pos hd,lastR_cut hd]
   by_cases h:s.Until≤d
   ·rw[if_pos h,if_pos (by split<;>omega)]
   ·rw[if_neg h,if_neg (by split<;>omega)]
  ·rw[if_neg hd,if_pos (by split<;>omega)]
 unfold openR
 rw[hu]
 by_cases hd:d<day
 ·rw[if_pos hd,if_pos hd];rfl
 ·rw[if_neg hd,if_neg hd]
def covW (r:Wins) (k:Zal) (d:Int):Prop:=∃w∈r,acW w=k∧w.From≤d∧d<w.To
theorem covW_open {s:Zam} (h:StoryOk s) {r:Wins} (hr:WFacts s r) (k:Zal) (d:Int):covW r k d↔k∈(openR s d).map keyX:=by
 rw[←open_mem h hr d k,List.mem_map]
 constructor
 ·rintro⟨w,h1,h2,h3,h4⟩
  exact⟨w,List.mem_filter.2 ⟨h1,by simp[onW,h3,h4]⟩,h2⟩
 ·rintro⟨w,h1,h2⟩
  have:=List.mem_filter.1 h1
  have h3:=this.2
  simp only[onW,Bool.and_eq_true,decide_eq_true_eq] at h3
  exact⟨w,this.1,h2,h3⟩
theorem sep_mem {s:Zam} {r:Wins} (hr:WFacts s r) {a b:Zab} (ha:a∈r) (hb:b∈r) (hk:acW a=acW b):a=b∨a.To<b.From∨b.To<a.From:=by
 obtain⟨i,hi,rfl⟩:=List.getElem_of_mem ha
 obtain⟨j,hj,rfl⟩:=List.getElem_of_mem hb
 have hp:=List.pairwise_iff_getElem.1 hr.sep
 rcases Nat.lt_trichotomy i j with h | h | h
 ·exact .inr (.inl (hp i j hi hj h hk))
 ·subst h;exact .inl rfl
 ·exact .inr (.inr (hp j i hj hi h hk.symm))
theorem not_before {s:Zam} {r:Wins} (hr:WFacts s r) {w:Zab} (hw:w∈r):¬covW r (acW w) (w.From - 1):=by
 rintro⟨v,hv,hk,h1,h2⟩
 have:=hr.pos w hw
 rcases sep_mem hr hv hw hk with rfl | h | h<;>omega
theorem not_behind {s:Zam} {r:Wins} (hr:WFacts s r) {w:Zab} (hw:w∈r):¬covW r (acW w) w.To:=by
 rintro⟨v,hv,hk,h1,h2⟩
 have:=hr.pos w hw
 rcases sep_mem hr hv hw hk with rfl | h | h<;>omega
def clipW (day:Int) (w:Zab):Zab:=Zab.mk w.Advisory w.Component w.Severity w.From (if w.To<day then w.To else day) w.Open
def wantW (r:Wins) (day:Int):Wins:=(r.filter fun w=>decide (w.From<day)).map (clipW day)
section
variable {s:Zam} {day:Int} {r r':Wins}
theorem cut_cov (h:StoryOk s) (h':StoryOk (cutOf s day)) (hr:WFacts s r) (hr':WFacts (cutOf s day) r') (k:Zal) (d:Int):covW r' k d↔d<day∧covW r k d:=by
 rw[covW_open h' hr',covW_open h hr,openR_cut]
 by_cases hd:d<day
 ·simp[hd]
 ·simp[hd]
theorem cut_fwd (h:StoryOk s) (h':StoryOk (cutOf s day)) (hr:WFacts s r) (hr':WFacts (cutOf s day) r') {w':Zab} (hw:w'∈r') :
    ∃w∈r,w.From<day∧acW w=acW w'∧w.From=w'.From∧w'.To=(clipW day w).To:=by
  have hc:=fun d=>cut_cov h h' hr hr' (acW w') d
  have hp:=hr'.pos w' hw
  obtain⟨hd,w,hwr,hk,h1,h2⟩:=(hc w'.From).1 ⟨w',hw,rfl,by omega,hp⟩
  have hfrom:w.From=w'.From:=by
    rcases (show w.From<w'.From∨w'.From≤w.From by omega) with h3 | h3
    · exact absurd ((hc (w'.From - 1)).2 ⟨by omega,w,hwr,hk,by omega,by omega⟩) (not_before hr' hw)
    · omega
  have hlast:=((hc (w'.To - 1)).1 ⟨w',hw,rfl,by omega,by omega⟩).1
  have h3:¬(w'.To<w.To∧w'.To<day):=fun⟨a,b⟩=>not_behind hr' hw ((hc w'.To).2 ⟨b,w,hwr,hk,by omega,a⟩)
  have h4:¬w.To<w'.To:=fun a=>not_behind hr hwr (by
    rw[hk]
    exact ((hc w.To).1 ⟨w',hw,rfl,by omega,a⟩).2)
  refine⟨w,hwr,by omega,hk,hfrom,?_⟩
  show w'.To=if w.To<day then w.To else day
  split<;>omega
theorem cut_bwd (h:StoryOk s) (h':StoryOk (cutOf s day)) (hr:WFacts s r) (hr':WFacts (cutOf s day) r') {w:Zab} (hw:w∈r) (hd:w.From<day) :
  ∃w'∈r',acW w'=acW w∧w'.From=w.From∧w'.To=(clipW day w).To:=by
 have hp:=hr.pos w hw
 obtain⟨w',hw',hk,h1,h2⟩:=(cut_cov h h' hr hr' (acW w) w.From).2 ⟨hd,w,hw,rfl,by omega,hp⟩
 obtain⟨v,hv,hvd,hvk,hvf,hvt⟩:=cut_fwd h h' hr hr' hw'
 have ht:w'.To=if v.To<day then v.To else day:=hvt
 have hvw:v=w:=by
  rcases sep_mem hr hv hw (hvk.trans hk) with e | e | e
  ·exact e
  ·exfalso;split at ht<;>omega
  ·exfalso;omega
 subst hvw
 exact⟨w',hw',hk,hvf.symm,hvt⟩
end
def normW (w:Zab):Zab:=Zab.mk w.Advisory w.Component 0 w.From w.To false
theorem normW_key (w:Zab):wkey (normW w)=wkey w:=rfl
theorem wdw_keys {s:Zam} (h:StoryOk s) {r:Wins} (hr:Wdw s r):r.Pairwise (fun a b=>wkey a≠wkey b) :=
 (hr.perm.pairwise_iff (fun h=>h.symm)).1 (ZhE h)
theorem cut_windows {s:Zam} {day:Int} (h:StoryOk s) (h':StoryOk (cutOf s day)) {r r':Wins} (hr:Wdw s r) (hr':Wdw (cutOf s day) r'):r'.map normW=(wantW r day).map normW:=by
 have f:=wfacts h hr
 have f':=wfacts h' hr'
 have hk:=wdw_keys h hr
 have hk':=wdw_keys h' hr'
 have kw:(wantW r day).Pairwise (fun a b=>wkey a≠wkey b):=by
  unfold wantW
  rw[List.pairwise_map]
  exact hk.filter _
 have sw:(wantW r day).Pairwise wle:=by
  unfold wantW
  rw[List.pairwise_map]
  exact hr.sorted.filter _
 have nd:∀ {l:Wins},l.Pairwise (fun a b=>wkey a≠wkey b)→(l.map normW).Nodup:=fun hl=>by
  rw[List.nodup_iff_pairwise_ne,List.pairwise_map]
  exact hl.imp fun hab e=>hab (by rw[←normW_key,e,normW_key])
 have kn:∀ {l:Wins},l.Pairwise (fun a b=>wkey a≠wkey b)→(l.map normW).Pairwise (fun a b=>wkey a≠wkey b):=fun hl=>by
  rw[List.pairwise_map];exact hl
 have sn:∀ {l:Wins},l.Pairwise wle→(l.map normW).Pairwise wle:=fun hl=>by
  rw[List.pairwise_map];exact hl
 have key:∀ {a b:Zab},acW a=acW b→a.From=b.From→a.To=b.To→normW a=normW b:=fun {a b} e1 e2 e3=>by
  simp only[acW,Zal.mk.injEq] at e1
  simp only[normW,e1.1,e1.2,e2,e3]
 have hmem:∀x,x∈r'.map normW↔x∈(wantW r day).map normW:=fun x=>by
  constructor
  ·intro hx
   obtain⟨w',hw',rfl⟩:=List.mem_map.1 hx
   obtain⟨w,h1,h2,h3,h4,h5⟩:=cut_fwd h h' f f' hw'
   exact List.mem_map.2 ⟨clipW day w,List.mem_map.2 ⟨w,List.mem_filter.2 ⟨h1,by simpa using h2⟩,rfl⟩,key h3 h4 h5.symm⟩
  ·intro hx
   obtain⟨v,hv,rfl⟩:=List.mem_map.1 hx
   obtain⟨w,hw,rfl⟩:=List.mem_map.1 hv
   have:=List.mem_filter.1 hw
   obtain⟨w',h1,h2,h3,h4⟩:=cut_bwd h h' f f' this.1 (by simpa using this.2)
   exact List.mem_map.2 ⟨w',h1,key h2 h3 h4⟩
 refine List.Perm.eq_of_pairwise (le:=wle) (fun a b ha hb hab hba=>key_inj (kn kw) a ?_ b hb (wlt_total hba hab)) (sn hr'.sorted) (sn sw) ((List.perm_ext_iff_of_nodup (nd hk') (nd kw)).2 hmem)
 exact (hmem a).1 ha
theorem count_cov (v3:Int) (ps:List Zaa) (d:Nat):∀N:Nat,d≤N→(List.range d).countP (cov 0 v3 ps)+(List.range N).countP (cov d v3 ps)=(List.range N).countP (cov 0 v3 ps):=by
 intro N hN
 induction hN with
 | refl =>
  have:(List.range d).countP (cov d v3 ps)=0:=by
   rw[List.countP_eq_zero]
   intro k hk
   have:=List.mem_range.1 hk
   simp[cov];omega
  omega
 | step hle ih =>
  rename_i m
  rw[List.range_succ,List.countP_append,List.countP_append,←ih]
  have hm:cov d v3 ps m=cov 0 v3 ps m:=by
   have h1:decide ((d:Int)≤(m:Int))=true:=decide_eq_true (by have:d≤m:=hle;omega)
   have h2:decide ((0:Int)≤(m:Int))=true:=decide_eq_true (by omega)
   simp only[cov,h1,h2]
  simp only[List.countP_cons,List.countP_nil,hm]
  omega
theorem Zhq {s:Zam} (h0:sFault s=0) {v1 v2 v3:Int} (h1:0≤v1) (h12:v1≤v2) (h2:v2≤1000000) (h3:0≤v3) (h4:v3≤100) :
  ZcL bigFuel s v1 v2 v3=some ((((List.range v2.toNat).countP (cov v1 v3 (pcs (ZaQ s) s.Until s.Releases)):Nat):Int),0):=by
 have h:=storyOk h0
 obtain⟨q,q1,q2,q3⟩:=sortedP (l:=pcs (ZaQ s) s.Until s.Releases) (by have:=pcs_len' h;omega)
 unfold ZcL Zbx
 have hbad:(((((decide (v1<0)) || (decide (v1>v2))) || (decide (v2>1000000))) || (decide (v3<0))) || (decide (v3>100)))=false:=by
  simp only[Bool.or_eq_false_iff,decide_eq_false_iff_not];omega
 simp only[Zfb,h0,Option.bind_some,bne_self_eq_false,Bool.false_eq_true,if_false,hbad]
 rw[ZcU h,Option.bind_some,q1,Option.bind_some]
 have:=ZaL (R:=fun _=>False) (Q:=fun r=>r=(((((List.range v2.toNat).countP (cov v1 v3 (pcs (ZaQ s) s.Until s.Releases)):Nat):Int),0):Int × Int)) (k:=fun n13=>some (n13,(0:Int)))
  (sweep_ok (v3:=v3) h1 h12 h2 q3) (fun n hn=>⟨_,rfl,?_⟩) (fun _ h=>h.elim)
 ·obtain⟨r,hr,rfl⟩:=this
  exact hr
 ·rw[hn,Zeo fun k _=>(cov_perm q2 k).symm]
theorem exposed_sum (s:Zam) (v3:Int) {day:Int} (hd:dayOk day=true) :
  (((List.range day.toNat).countP (cov 0 v3 (pcs (ZaQ s) s.Until s.Releases)):Nat):Int)+(((List.range (1000000:Int).toNat).countP (cov day v3 (pcs (ZaQ s) s.Until s.Releases)):Nat):Int)=(((List.range (1000000:Int).toNat).countP (cov 0 v3 (pcs (ZaQ s) s.Until s.Releases)):Nat):Int):=by
 rw[ZhB] at hd
 have:=count_cov v3 (pcs (ZaQ s) s.Until s.Releases) day.toNat (1000000:Int).toNat (by omega)
 rw[show ((day.toNat:Nat):Int)=day by omega] at this
 rw[←this]
 omega
theorem used_has {s:Zam} (h0:sFault s=0) {r:Wins} (hr:WFacts s r) {w:Zab} (hw:w∈r) {d:Int} (h1:w.From≤d) (h2:d<w.To) (hd:dayOk d=true) :
  ∃rel,Zg4 s d=some (rel,true,0)∧∃x∈rel.Exposures,x.Advisory=w.Advisory∧x.Component=w.Component:=by
 have h:=storyOk h0
 have hm:acW w∈(openR s d).map keyX:=(covW_open h hr _ _).1 ⟨w,hw,rfl,h1,h2⟩
 obtain⟨x,hx,hk⟩:=List.mem_map.1 hm
 unfold openR at hx
 cases hu:usedR s d with
 | none=>rw[hu] at hx;cases hx
 | some rel =>
  rw[hu] at hx
  refine⟨rel,?_,x,(List.mem_filter.1 hx).1,?_⟩
  ·rw[history_Used_eq,usedA,if_neg (by simpa using h0),if_neg (by rw[hd];simp),hu]
  ·simp only[keyX,acW,Zal.mk.injEq] at hk
   exact hk
end Go.Abs
