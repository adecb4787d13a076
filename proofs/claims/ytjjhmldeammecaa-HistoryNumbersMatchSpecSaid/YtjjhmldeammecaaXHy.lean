/-
  Plain facts of history:windows are the days on which something is open;the laws on Why and on open days.
-/
import Derived.Test.YtjjhmldeammecaaFHy
import Derived.Test.YtjjhmldeammecaaXHw
namespace Go.Abs
open Go
def acW (w:Zab):Zal:=Zal.mk w.Advisory w.Component
structure WI (ps:List Zaa) (st:Lasts × Wins):Prop where
 ok:lastsOk st
 pos:∀w∈st.2,w.From<w.To
 key:∀k i,mget Zal.keq k st.1=some i→∃w,st.2[i.toNat]? =some w∧acW w=k∧∀(j:Nat) w',i.toNat<j→st.2[j]? =some w'→acW w'≠k
 nokey:∀k,mget Zal.keq k st.1=none→∀w∈st.2,acW w≠k
 sep:∀(i j:Nat) w w',i<j→st.2[i]? =some w→st.2[j]? =some w'→acW w=acW w'→w.To<w'.From
 last:∀w∈st.2,∃p∈ps,keyP p=acW w∧p.to'=w.To
 cov:∀k d,(∃w∈st.2,acW w=k∧w.From≤d∧d<w.To)↔(∃p∈ps,keyP p=k∧p.from'≤d∧d<p.to')
theorem WI.nil:WI [] ([],[]) where
 ok:=fun k i hk=>by simp[mget] at hk
 pos:=fun w hw=>by simp at hw
 key:=fun k i hk=>by simp[mget] at hk
 nokey:=fun k _ w hw=>by simp at hw
 sep:=fun i j w w' _ hw=>by simp at hw
 last:=fun w hw=>by simp at hw
 cov:=fun k d=>by simp
structure WFacts (s:Zam) (r:Wins):Prop where
 pos:∀w∈r,w.From<w.To
 sep:r.Pairwise (fun a b=>acW a=acW b→a.To<b.From)
 cov:∀k d,(∃w∈r,acW w=k∧w.From≤d∧d<w.To)↔(∃p∈pcs (ZaQ s) s.Until s.Releases,keyP p=k∧p.from'≤d∧d<p.to')
def onW (day:Int) (w:Zab):Bool:=decide (w.From≤day) && decide (day<w.To)
def keyX (x:Zad):Zal:=Zal.mk x.Advisory x.Component
theorem openR_pieces {s:Zam} (h:StoryOk s) (day:Int):openR s day=((pcs (ZaQ s) s.Until s.Releases).filter (onDay day)).map (fun p=>p.x):=by
  rw[pcs_day (fun x=>pub_ended h x) (rel_days h) (fun r hr=>by
          obtain⟨i,hi⟩:=List.getElem?_of_mem hr
          exact (h.rel i r hi).2.1)]
  rfl
end Go.Abs
