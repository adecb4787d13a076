/-
  Plain facts of history:terms,deadlines;the law on Due.
-/
import Derived.Test.YtjjhmldeammecaaFHd
import Derived.Test.YtjjhmldeammecaaXHk
namespace Go.Abs
open Go
def tF (l:List Za6) (i:Nat) (x:Za6):Int :=
 if ((((decide (x.Severity<0)) || (decide (x.Severity>100))) || (decide (x.Days<0))) || (decide (x.Days>10000)))=true then 9 else if prevB l i (fun y=>decide (x.Severity≤y.Severity))=true then 10 else 0
def tsF (l:List Za6):Int:=if l.length=0 then 13 else if 10<l.length then 3 else match firstI (fun i x=>decide (tF l i x≠0)) l 0 with | some e=>tF l e.1 e.2 | none=>0
theorem Zhi (l:List Za6):Zhd l=some (tsF l):=by
 unfold Zhd tsF
 by_cases h0:l.length=0
 ·rw[if_pos (by simp[h0]),if_pos h0]
 ·by_cases h1:10<l.length
  ·rw[if_neg (by simpa using h0),if_pos (by simp;omega),if_neg h0,if_pos h1]
  ·rw[if_neg (by simpa using h0),if_neg (by simp;omega),if_neg h0,if_neg h1,Zfn (fun i x=>decide (tF l i x≠0)) (tF l)]
   ·cases firstI (fun i x=>decide (tF l i x≠0)) l 0<;>rfl
   ·intro i x hx
    rw[ZhP (f:=fun y=>decide (x.Severity≤y.Severity)) (by omega) hx]
    unfold tF
    cases ((((decide (x.Severity<0)) || (decide (x.Severity>100))) || (decide (x.Days<0))) || (decide (x.Days>10000))) with
    | true=>rfl
    | false=>cases prevB l i (fun y=>decide (x.Severity≤y.Severity))<;>rfl
theorem Zhp (l:List Za6):Zhf l=some (tsF l):=Zhi l
theorem terms_ok {l:List Za6} (h:tsF l=0):∀t∈l,0≤t.Days∧t.Days≤10000:=by
 unfold tsF at h
 split at h
 ·cases h
 ·split at h
  ·cases h
  ·cases hf:firstI (fun i x=>decide (tF l i x≠0)) l 0 with
   | some e =>
    rw[hf] at h
    obtain⟨j,_,_,h3⟩:=ZeW hf
    simp only[decide_eq_true_eq] at h3
    exact absurd h h3
   | none =>
    intro t ht
    obtain⟨i,hi⟩:=List.getElem?_of_mem ht
    have:=Zeg.1 hf i t hi
    simp only[Nat.zero_add,decide_eq_false_iff_not,ne_eq,Classical.not_not] at this
    unfold tF at this
    split at this
    ·cases this
    ·rename_i h4
     simp only[Bool.or_eq_true,decide_eq_true_eq,not_or,Int.not_lt] at h4
     omega
def lastT (sev:Int) (l:List Za6) (o:Option Za6):Option Za6:=l.foldl (fun o t=>if t.Severity≤sev then some t else o) o
def tupT:Option Za6→Bool × Int × Int
 | some t=>(true,t.Severity,t.Days)
 | none=>(false,0,0)
theorem tupT_fold (sev:Int):∀(l:List Za6) (o:Option Za6),l.foldl (fun st x=>if x.Severity≤sev then (true,x.Severity,x.Days) else st) (tupT o)=tupT (lastT sev l o)
 | [],_=>rfl
 | x :: l,o=>by
  simp only[List.foldl_cons,lastT]
  by_cases h:x.Severity≤sev
  ·rw[if_pos h,if_pos h];exact tupT_fold sev l (some x)
  ·rw[if_neg h,if_neg h];exact tupT_fold sev l o
theorem ref11_term_eq (l:List Za6) (sev:Int):Zhs l sev=some (match lastT sev l none with | some t=>(t,true) | none=>(Za6.mk 0 0,false)):=by
  unfold Zhs
  refine (congrArg (fun z=>seqK z _) (Zf5 (fun (x:Za6) st=>if x.Severity≤sev then (true,x.Severity,x.Days) else st) (tupT none) (fun _ _=>True) trivial (fun i x st _ _=>by
      obtain⟨a,b,c⟩:=st
      refine⟨?_,trivial⟩
      by_cases h:x.Severity≤sev<;>simp[h])).1).trans ?_
  rw[tupT_fold]
  cases lastT sev l none<;>rfl
theorem lastT_mem (sev:Int):∀(l:List Za6) (o:Option Za6) {t},lastT sev l o=some t→t∈l∨o=some t
 | [],_,_,h=> .inr h
 | x :: l,o,t,h=>by
  rw[lastT,List.foldl_cons] at h
  rcases lastT_mem sev l _ h with h | h
  ·exact .inl (List.mem_cons_of_mem _ h)
  ·split at h
   ·cases h;exact .inl (List.mem_cons_self ..)
   ·exact .inr h
def daysT:Option Za6→Int
 | some t=>t.Days
 | none=> -1
theorem ZhU (sev:Int):∀(l:List Za6) (o:Option Za6),l.foldl (fun st x=>if x.Severity≤sev then x.Days else st) (daysT o)=daysT (lastT sev l o)
 | [],_=>rfl
 | x :: l,o=>by
  simp only[List.foldl_cons,lastT]
  by_cases h:x.Severity≤sev
  ·rw[if_pos h,if_pos h];exact ZhU sev l (some x)
  ·rw[if_neg h,if_neg h];exact ZhU sev l o
theorem firstF_lt (p:Nat→Bool):∀(n i:Nat),firstF p i n<i+n→p (firstF p i n)=true
 | 0,i,h=>by simp[firstF] at h
 | n+1,i,h=>by
  simp only[firstF] at h ⊢
  split
  ·assumption
  ·rename_i hp
   rw[if_neg hp] at h
   exact firstF_lt p n (i+1) (by omega)
theorem addK_cw' {fr hol:List Int} {d n:Int} (hd:0≤d) (h:d+(addK fr hol d n:Int)≤1000000):n≤(cw fr hol d (addK fr hol d n):Int):=by
  have:=firstF_lt (fun k=>decide (n≤(cw fr hol d k:Int))) (1000001 - d).toNat 0 (by
    have:firstF (fun k=>decide (n≤(cw fr hol d k:Int))) 0 (1000001 - d).toNat=addK fr hol d n:=rfl
    omega)
  exact of_decide_eq_true this
theorem ZhJ {c:ZaN} (hc:calFault c.Free c.Holidays=0) {l:List Za6} (hl:tsF l=0) {w:Zab} (hw:dayOk w.From=true) :
    Zg7 (ZaD.mk c.Free c.Holidays) l w=some (match lastT w.Severity l none with
      | none=>(0,false,0)
      | some t=>if w.From+(addK c.Free c.Holidays w.From t.Days:Int)≤1000000 then (w.From+addK c.Free c.Holidays w.From t.Days,true,0) else (0,false,3)):=by
  unfold Zg7
  refine (congrArg (fun z=>seqK z _) (Zf5 (fun (x:Za6) st=>if x.Severity≤w.Severity then x.Days else st) (daysT none) (fun _ _=>True) trivial (fun i x st _ _=>by
      refine⟨?_,trivial⟩
      by_cases h:x.Severity≤w.Severity<;>simp[h])).1).trans ?_
  rw[ZhU,Zba]
  simp[dayOk] at hw
  cases ht:lastT w.Severity l none with
  | none=>rfl
  | some t =>
    have hm:t∈l:=by rcases lastT_mem _ _ _ ht with h | h;exact h;cases h
    have:=terms_ok hl t hm
    have hd:daysT (some t)=t.Days:=rfl
    rw[hd]
    have hn:¬t.Days<0:=by omega
    have ha:Zhc (ZaD.mk c.Free c.Holidays) w.From t.Days=some (w.From+addK c.Free c.Holidays w.From t.Days,decide (w.From+(addK c.Free c.Holidays w.From t.Days:Int)≤1000000)):=by
      rw[Zhc,if_pos ⟨hc,hw.1,hw.2,this.1,by omega⟩]
    by_cases h:w.From+(addK c.Free c.Holidays w.From t.Days:Int)≤1000000<;>simp[hn,ha,h]
end Go.Abs
