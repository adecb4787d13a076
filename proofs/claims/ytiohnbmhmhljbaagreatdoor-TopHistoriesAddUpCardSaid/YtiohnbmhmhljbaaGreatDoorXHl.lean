/-
  Plain facts of history:the release that is used,pieces,what is open;the law on Check.
-/
import Derived.Test.YtiohnbmhmhljbaaGreatDoorXHk
namespace Go.Abs
open Go
structure StoryOk (s:Zam):Prop where
 until1:s.Until≤1000000
 lenR:s.Releases.length≤500
 lenK:s.Known.length≤2000
 rel:∀i r,s.Releases[i]? =some r→0≤r.Day∧r.Day≤s.Until∧esFault r.Exposures=0∧prevB s.Releases i (fun y=>decide (r.Day≤y.Day))=false
 kn:∀i k,s.Known[i]? =some k→kFault s.Known i k=0
theorem storyOk {s:Zam} (h:sFault s=0):StoryOk s:=by
 unfold sFault at h
 split at h
 ·cases h
 ·split at h
  ·cases h
  ·rename_i h2
   split at h
   ·cases h
   ·rename_i h3
    have hu:s.Until≤1000000:=by
     have:dayOk s.Until=true:=by simpa using h2
     simp[dayOk] at this;exact this.2
    split at h
    ·rename_i e he;exact absurd h (Zhy he)
    ·rename_i hne
     obtain⟨y,hy⟩:=Ze5 s
     cases y with
     | inr e=>exact absurd hy (hne e)
     | inl u =>
      have hks:ksFault s.Known=0:=by
       refine Classical.byContradiction fun hk=>?_
       rw[if_pos hk] at h;exact hk h
      refine⟨hu,by omega,by omega,?_,ks_zero hks⟩
      have:=forL_all hy (fun i r=>0≤r.Day∧r.Day≤s.Until∧esFault r.Exposures=0∧prevB s.Releases i (fun y=>decide (r.Day≤y.Day))=false) ?_ ?_
      ·exact this
      ·intro i x m t' _
       repeat' split
       all_goals (intro hc;cases hc)
      ·intro i x m m' _ hb
       split at hb
       ·cases hb
       ·split at hb
        ·cases hb
        ·split at hb
         ·cases hb
         ·rename_i h5
          split at hb
          ·cases hb
          ·rename_i h6
           split at hb
           ·cases hb
           ·rename_i h7
            simp only[Bool.or_eq_true,decide_eq_true_eq,not_or,Int.not_lt] at h5
            exact⟨h5.1,by omega,by simpa using h7,by simpa using h6⟩
theorem rel_days {s:Zam} (h:StoryOk s):s.Releases.Pairwise (fun a b=>a.Day<b.Day):=by
 refine ZeH (R:=fun (a b:Zag)=>a.Day<b.Day) (fun a b c h1 h2=>Int.lt_trans h1 h2) ?_
 intro i a b ha hb
 have:=(h.rel (i+1) b hb).2.2.2
 simp only[prevB,ha,decide_eq_false_iff_not] at this
 omega
def lastR (day:Int) (l:List Zag) (o:Option Zag):Option Zag:=l.foldl (fun o r=>if r.Day≤day then some r else o) o
def relZ:Zag:=Zag.mk str_ 0 []
def usedR (s:Zam) (day:Int):Option Zag:=if s.Until≤day then none else lastR day s.Releases none
def tupR:Option Zag→Bool × Str × Int × List Zad
 | some r=>(true,r.Version,r.Day,r.Exposures)
 | none=>(false,str_,0,[])
theorem lastR_append (day:Int) (l:List Zag) (x:Zag) (o:Option Zag):lastR day (l++ [x]) o=if x.Day≤day then some x else lastR day l o:=by
 simp[lastR]
theorem history_used_eq (s:Zam) (day:Int):∃n,Zhk s day=some n∧match usedR s day with | some r=>0≤n∧s.Releases[n.toNat]? =some r | none=>n= -1:=by
  unfold Zhk usedR
  by_cases h:s.Until≤day
  · exact⟨-1,by rw[if_pos (by simpa using h)],by simp[h]⟩
  · rw[if_neg (by simpa using h),if_neg h]
    obtain⟨n,h1,h2⟩:=forL_fold (l:=s.Releases) (body:=fun i1 (x4:Zag) (n5:Int)=>if (decide (x4.Day≤day))=true then (some (.next (i1:Int))) else (some (.next n5))) (fin:=fun n5=>n5) (ρ:=Int)
      (fun i x n=>if x.Day≤day then (i:Int) else n) (-1) (fun i n=>match lastR day (s.Releases.take i) none with | some r=>0≤n∧s.Releases[n.toNat]? =some r | none=>n= -1) rfl (by
        intro i x n hx hi
        refine⟨by by_cases hd:x.Day≤day<;>simp[hd],?_⟩
        rw[List.take_add_one,hx,Option.toList_some,lastR_append]
        by_cases hd:x.Day≤day
        · simp only[if_pos hd]
          exact⟨by omega,by simpa using hx⟩
        · simp only[if_neg hd];exact hi)
    rw[h1]
    refine⟨n,rfl,?_⟩
    rwa [List.take_length] at h2
theorem copied_eq {r:Zag} (h:esFault r.Exposures=0):Zg1 r=some r:=by
 have:=esFault_len h
 unfold Zg1 ZdV
 rw[app_ok (by unfold lim;simp;omega) (by unfold lim;simp;omega)]
 simp
def usedA (s:Zam) (day:Int):Zag × Bool × Int :=
 if sFault s≠0 then (relZ,false,sFault s) else if dayOk day=false then (relZ,false,9) else match usedR s day with | some r=>(r,true,0) | none=>(relZ,false,0)
theorem lastR_mem (day:Int):∀(l:List Zag) (o:Option Zag) {r},lastR day l o=some r→r∈l∨o=some r
 | [],_,_,h=> .inr h
 | x :: l,o,r,h=>by
  rw[lastR,List.foldl_cons] at h
  rcases lastR_mem day l _ h with h | h
  ·exact .inl (List.mem_cons_of_mem _ h)
  ·split at h
   ·cases h;exact .inl (List.mem_cons_self ..)
   ·exact .inr h
theorem usedR_mem {s:Zam} {day:Int} {r:Zag} (h:usedR s day=some r):r∈s.Releases:=by
 unfold usedR at h
 split at h
 ·cases h
 ·rcases lastR_mem day _ _ h with h | h
  ·exact h
  ·cases h
theorem history_Used_eq (s:Zam) (day:Int):Zg4 s day=some (usedA s day):=by
 simp only[Zg4,Zfb,ZgM,Option.bind_some,usedA]
 by_cases h:sFault s=0
 ·have ok:=storyOk h
  simp only[h,bne_self_eq_false,Bool.false_eq_true,if_false,ne_eq,not_true_eq_false]
  cases hd:dayOk day with
  | false=>simp[relZ]
  | true =>
   obtain⟨n,h1,h2⟩:=history_used_eq s day
   rw[h1]
   cases hu:usedR s day with
   | none =>
    rw[hu] at h2
    simp only at h2
    simp[h2,relZ]
   | some r =>
    rw[hu] at h2
    simp only at h2
    obtain⟨i,hi⟩:=List.getElem?_of_mem (usedR_mem hu)
    have he:=(ok.rel i r hi).2.2.1
    simp only[Option.bind_some,Bool.not_true,Bool.false_eq_true,if_false]
    rw[if_neg (by simpa using h2.1),show idx s.Releases n=some r by simp[idx,h2]]
    simp[copied_eq he]
 ·rw[if_pos (by simpa using h),if_pos h];rfl
abbrev Pubs:=List (Str × Zac)
def ZaQ (s:Zam):Pubs:=s.Known.foldl (fun m x=>mset kEqS x.Advisory x m) []
def pub (m:Pubs) (x:Zad):Zac:=(mget kEqS x.Advisory m).getD (Zac.mk str_ 0 0)
theorem pubLoop {ρ:Type} (s:Zam):forL (σ:=Pubs) (τ:=Pubs) (ρ:=ρ) s.Known (fun _ x m=>some (.next (mset kEqS x.Advisory x m))) (fun m=>m) []=some (.inl (ZaQ s)) :=
 (forL_map (fun (x:Zac) m=>mset kEqS x.Advisory x m) [] (fun _ _=>True) trivial (fun _ _ _ _ _=>⟨rfl,trivial⟩)).1
def toOf (e:Int) (p:Zac):Int:=if p.Ended≥0 then (if p.Ended<e then p.Ended else e) else e
def fromOf (d:Int) (p:Zac):Int:=if d<p.Day then p.Day else d
def pieceOf (m:Pubs) (d e:Int) (x:Zad):Zaa:=Zaa.mk x (fromOf d (pub m x)) (toOf e (pub m x))
def pcsOf (m:Pubs) (r:Zag) (e:Int):List Zaa:=(r.Exposures.filter (fun x=>decide (fromOf r.Day (pub m x)<toOf e (pub m x)))).map (pieceOf m r.Day e)
def endOf (u:Int):List Zag→Int
 | []=>u
 | r :: _=>r.Day
def pcs (m:Pubs) (u:Int):List Zag→List Zaa
 | []=> []
 | r :: rest=>pcsOf m r (endOf u rest)++pcs m u rest
theorem Zfs {α β τ ρ:Type} {body:Nat→α→List β→Option (Ex (List β) τ ρ)} {fin:List β→τ} {l:List α} (p:α→Bool) (g:α→β) (l0:List β)
    (h:∀i x s,l[i]? =some x→s.length≤l0.length+i→body i x s=some (.next (if p x=true then s++ [g x] else s))):forL l body fin l0=some (.inl (fin (l0++(l.filter p).map g))):=by
  have:=(forL_map (body:=body) (fin:=fin) (l:=l) (fun x s=>if p x=true then s++ [g x] else s) l0 (fun q s=>s.length≤l0.length+q.length) (by simp) (fun i x s hx hs=>by
    obtain⟨h1,h2⟩:=take_len hx
    rw[h1] at hs
    refine⟨h i x s hx hs,?_⟩
    rw[h2]
    split<;>(try simp)<;>omega)).1
  rw[this]
  have key:∀(l:List α) (s:List β),l.foldl (fun s x=>if p x=true then s++ [g x] else s) s=s++(l.filter p).map g:=by
    intro l
    induction l with
    | nil=>intro s;simp
    | cons x l ih =>
      intro s
      rw[List.foldl_cons,ih,List.filter_cons]
      cases p x<;>simp
  rw[key]
theorem pcs_len (m:Pubs) (u:Int):∀(l:List Zag),(∀r∈l,r.Exposures.length≤500)→(pcs m u l).length≤500*l.length
 | [],_=>by simp[pcs]
 | r :: l,h=>by
  have h1:=pcs_len m u l fun x hx=>h x (List.mem_cons_of_mem _ hx)
  have h2:=h r (List.mem_cons_self ..)
  have h3:(pcsOf m r (endOf u l)).length≤r.Exposures.length:=by
   unfold pcsOf;rw[List.length_map];exact List.length_filter_le _ _
  simp only[pcs,List.length_append,List.length_cons]
  omega
theorem ZeT {s:Zam} (h:StoryOk s):∀r∈s.Releases,r.Exposures.length≤500:=by
 intro r hr
 obtain⟨i,hi⟩:=List.getElem?_of_mem hr
 exact esFault_len (h.rel i r hi).2.2.1
theorem forL_pcs {ρ:Type} {m:Pubs} {u:Int} {rs:List Zag} {body:Nat→Zag→List Zaa→Option (Ex (List Zaa) (List Zaa) ρ)} (hrs:∀r∈rs,r.Exposures.length≤500)
  (h:∀i x l,rs[i]? =some x→l.length≤500*i→body i x l=some (.next (l++pcsOf m x (endOf u (rs.drop (i+1)))))):forL rs body (fun l=>l) []=some (.inl (pcs m u rs)):=by
 rw[ZcS]
 have key:∀(q:List Zag) (i:Nat) (l:List Zaa),rs.drop i=q→l.length≤500*i→goL body (fun l=>l) q i l=some (.inl (l++pcs m u q)):=by
  intro q
  induction q with
  | nil=>intro i l _ _;simp[goL,pcs]
  | cons x q ih =>
   intro i l hd hl
   have hx:rs[i]? =some x:=by rw[←Nat.add_zero i,←List.getElem?_drop,hd];rfl
   have hq:rs.drop (i+1)=q:=by rw[←List.drop_drop,hd];rfl
   have hex:=hrs x (List.mem_of_getElem? hx)
   simp only[goL,h i x l hx hl,Option.bind_some,hq]
   have h3:(pcsOf m x (endOf u q)).length≤x.Exposures.length:=by
    unfold pcsOf;rw[List.length_map];exact List.length_filter_le _ _
   rw[ih (i+1) _ hq (by rw[List.length_append];omega)]
   simp[pcs]
 simpa using key rs 0 [] rfl (by simp)
theorem ZcU {s:Zam} (h:StoryOk s):ZbV s=some (pcs (ZaQ s) s.Until s.Releases):=by
  unfold ZbV
  have hlen:=h.lenR
  rw[pubLoop,Zba,forL_pcs (m:=ZaQ s) (u:=s.Until) (ZeT h),Zba]
  intro i x l hx hl
  have hi:=ZaB hx
  have hex:=ZeT h x (List.mem_of_getElem? hx)
  have hend:∀ {ρ:Type},(if decide (((i+1:Nat):Int)<(s.Releases.length:Int))=true then Option.bind (idx s.Releases ((i+1:Nat):Int)) (fun x98=>some (Sum.inl x98.Day)) else some (Sum.inl s.Until))=some (Sum.inl (β:=ρ) (endOf s.Until (s.Releases.drop (i+1)))):=by
    intro ρ
    rw[ZfN]
    by_cases hlt:i+1<s.Releases.length
    · rw[if_pos (by simp;omega),List.drop_eq_getElem_cons hlt,List.getElem?_eq_getElem hlt];rfl
    · rw[if_neg (by simp;omega),List.drop_eq_nil_of_le (by omega)];rfl
  rw[hend,Zba,Zfs (fun e=>decide (fromOf x.Day (pub (ZaQ s) e)<toOf (endOf s.Until (s.Releases.drop (i+1))) (pub (ZaQ s) e))) (pieceOf (ZaQ s) x.Day (endOf s.Until (s.Releases.drop (i+1)))) l,Zba]
  · rfl
  · intro j e st hj hst
    have hjl:=ZaB hj
    have happ:∀z:Zaa,app 56 st [z]=some (st++ [z]):=fun z=>ZfS (n:=251001) (by omega) (by decide) (by decide)
    rw[show (mget kEqS e.Advisory (ZaQ s)).getD (Zac.mk str_ 0 0)=pub (ZaQ s) e from rfl]
    rw[show (if decide ((pub (ZaQ s) e).Ended≥0)=true then some (Sum.inl (if (pub (ZaQ s) e).Ended<endOf s.Until (s.Releases.drop (i+1)) then (pub (ZaQ s) e).Ended else endOf s.Until (s.Releases.drop (i+1)))) else some (Sum.inl (endOf s.Until (s.Releases.drop (i+1))))) =
      some (Sum.inl (β:=Ex (List Zaa) (List Zaa) (Ex (List Zaa) (List Zaa) (List Zaa))) (toOf (endOf s.Until (s.Releases.drop (i+1))) (pub (ZaQ s) e))) by unfold toOf;by_cases he:(pub (ZaQ s) e).Ended≥0<;>simp[he]]
    rw[Zba,happ,show (if x.Day<(pub (ZaQ s) e).Day then (pub (ZaQ s) e).Day else x.Day)=fromOf x.Day (pub (ZaQ s) e) from rfl]
    by_cases hc:fromOf x.Day (pub (ZaQ s) e)<toOf (endOf s.Until (s.Releases.drop (i+1))) (pub (ZaQ s) e)
    · simp only[hc,decide_true,if_true,Option.bind_some];rfl
    · simp only[hc,decide_false,Bool.false_eq_true,if_false]
def isOpenP (m:Pubs) (day:Int) (x:Zad):Bool:=decide ((pub m x).Day≤day) && (((pub m x).Ended == (-1)) || decide ((pub m x).Ended>day))
def openR (s:Zam) (day:Int):List Zad:=match usedR s day with | some r=>r.Exposures.filter (isOpenP (ZaQ s) day) | none=> []
def openA (s:Zam) (day:Int):List Zad × Int:=if sFault s≠0 then ([],sFault s) else if dayOk day=false then ([],9) else (openR s day,0)
theorem ref11_viewOf_eq (s:Zam):Zcj s=some (Zau.mk s (ZaQ s)):=by
 unfold Zcj
 rw[pubLoop,Zba]
theorem pub_ended {s:Zam} (h:StoryOk s) (x:Zad):(pub (ZaQ s) x).Ended= -1∨0≤(pub (ZaQ s) x).Ended:=by
 unfold pub ZaQ
 rw[mget_fold (fun (k:Zac)=>k.Advisory) (fun k=>k)]
 cases hf:s.Known.reverse.find? (fun k=>decide (x.Advisory=k.Advisory)) with
 | none=>exact .inr (Int.le_refl _)
 | some k =>
  have hk:k∈s.Known:=by simpa using List.mem_of_find?_eq_some hf
  obtain⟨i,hi⟩:=List.getElem?_of_mem hk
  have:=h.kn i k hi
  unfold kFault at this
  simp only[Option.getD_some]
  split at this
  ·cases this
  ·split at this
   ·cases this
   ·split at this
    ·cases this
    ·rename_i h3
     simp only[Bool.or_eq_true,Bool.not_eq_true',Bool.and_eq_true,bne_iff_ne,ne_eq,decide_eq_true_eq,not_or,not_and,Int.not_lt] at h3
     have hd:0≤k.Day:=by
      have:=h3.1
      simp[dayOk] at this;exact this.1
     by_cases he:k.Ended= -1
     ·exact .inl he
     ·have:=(h3.2 he).1;omega
def onDay (day:Int) (p:Zaa):Bool:=decide (p.from'≤day) && decide (day<p.to')
theorem pcs_on {m:Pubs} (hm:∀x,(pub m x).Ended= -1∨0≤(pub m x).Ended) (day:Int) (r:Zag) (e:Int) :
  ((pcsOf m r e).filter (onDay day)).map (·.x)=if r.Day≤day∧day<e then r.Exposures.filter (isOpenP m day) else []:=by
 have hp:∀x,(decide (fromOf r.Day (pub m x)<toOf e (pub m x)) && onDay day (pieceOf m r.Day e x))=(decide (r.Day≤day∧day<e) && isOpenP m day x):=by
  intro x
  have:=hm x
  apply Bool.eq_iff_iff.2
  simp only[onDay,pieceOf,isOpenP,fromOf,toOf,Bool.and_eq_true,decide_eq_true_eq,Bool.or_eq_true,beq_iff_eq]
  split<;>split<;>(try split)<;>simp only[decide_eq_true_eq]<;>omega
 unfold pcsOf
 rw[List.filter_map,List.filter_filter,List.map_map]
 rw[show (fun a=>(onDay day∘pieceOf m r.Day e) a && decide (fromOf r.Day (pub m a)<toOf e (pub m a)))=fun a=>(decide (r.Day≤day∧day<e) && isOpenP m day a) from funext fun a=>by rw[Bool.and_comm];exact hp a]
 rw[show ((fun p:Zaa=>p.x)∘pieceOf m r.Day e)=id from rfl,List.map_id]
 by_cases h:r.Day≤day∧day<e
 ·rw[if_pos h];congr 1;funext a;simp[h]
 ·rw[if_neg h];simp[h]
theorem Zgi {day:Int}:∀ {l:List Zag} {o:Option Zag},(∀r∈l,¬r.Day≤day)→lastR day l o=o
 | [],_,_=>rfl
 | x :: l,o,h=>by
  rw[lastR,List.foldl_cons,if_neg (h x (List.mem_cons_self ..))]
  exact Zgi fun r hr=>h r (List.mem_cons_of_mem _ hr)
theorem pcs_day {m:Pubs} (hm:∀x,(pub m x).Ended= -1∨0≤(pub m x).Ended) {u day:Int}:∀ {l:List Zag},l.Pairwise (fun a b=>a.Day<b.Day)→(∀r∈l,r.Day≤u) →
  ((pcs m u l).filter (onDay day)).map (·.x)=match (if u≤day then none else lastR day l none) with | some r=>r.Exposures.filter (isOpenP m day) | none=> []
 | [],_,_=>by simp[pcs,lastR]
 | r :: l,hs,hu=>by
  obtain⟨h1,h2⟩:=List.pairwise_cons.1 hs
  have ih:=pcs_day hm (u:=u) (day:=day) h2 fun x hx=>hu x (List.mem_cons_of_mem _ hx)
  simp only[pcs,List.filter_append,List.map_append,pcs_on hm,ih]
  by_cases hd:u≤day
  ·rw[if_pos hd,if_pos hd]
   have:¬(r.Day≤day∧day<endOf u l):=by
    cases l with
    | nil=>simp only[endOf];omega
    | cons y l=>have:=hu y (by simp);simp only[endOf];omega
   rw[if_neg this];simp
  ·rw[if_neg hd,if_neg hd]
   rw[show lastR day (r :: l) none=lastR day l (if r.Day≤day then some r else none) from rfl]
   by_cases hr:r.Day≤day
   ·by_cases he:day<endOf u l
    ·rw[if_pos ⟨hr,he⟩,if_pos hr]
     have hn:∀x∈l,¬x.Day≤day:=by
      cases l with
      | nil=>intro x hx;cases hx
      | cons y l =>
       simp only[endOf] at he
       intro x hx
       cases hx with
       | head=>omega
       | tail _ hx=>have:=(List.pairwise_cons.1 h2).1 x hx;omega
     rw[Zgi hn,Zgi hn];simp
    ·rw[if_neg (fun h=>he h.2),if_pos hr]
     cases l with
     | nil=>simp only[endOf] at he;omega
     | cons y l =>
      simp only[endOf] at he
      have hy:y.Day≤day:=by omega
      simp only[lastR,List.foldl_cons,if_pos hy,List.nil_append]
   ·rw[if_neg (fun h=>hr h.1),if_neg hr];rfl
end Go.Abs
