/-
  Plain facts:calendars as lists,bits of a week,the first that has a property.
-/
import Derived.Test.YtjjhmldeammecaaW2
namespace Go.Abs
open Go Go.Proofs
theorem rise_ok (m:Int):∀(p:Option Int) (l:List Int),rise m p l=0→(∀x∈l,0≤x∧x≤m)∧l.Pairwise (· < ·)∧∀q,p=some q→∀x∈l,q<x
 | _,[],_=>by simp
 | p,n :: r,h=>by
  simp only[rise] at h
  split at h
  ·cases h
  ·split at h
   ·cases h
   ·rename_i h1 h2
    obtain⟨a,b,c⟩:=rise_ok m (some n) r h
    refine⟨?_,List.pairwise_cons.2 ⟨c n rfl,b⟩,?_⟩
    ·intro x hx
     cases hx with
     | head=>omega
     | tail _ hx=>exact a x hx
    ·intro q hq x hx
     have hqn:q<n:=by
      rcases Int.lt_or_le q n with h | h
      ·exact h
      ·exact (h2 ⟨q,hq,h⟩).elim
     cases hx with
     | head=>exact hqn
     | tail _ hx=>exact Int.lt_trans hqn (c n rfl x hx)
theorem calOk {fr hol:List Int} (h:calFault fr hol=0):CalOk fr hol:=by
 unfold calFault at h
 split at h
 ·cases h
 ·split at h
  ·rename_i h1 h2;exact absurd h h2
  ·rename_i h1 h2
   have h3:rise 6 none fr=0:=by simpa [riseAt] using h2
   have h4:rise 1000000 none hol=0:=by simpa [riseAt] using h
   obtain⟨a,b,_⟩:=rise_ok _ _ _ h3
   obtain⟨c,d,_⟩:=rise_ok _ _ _ h4
   exact⟨a,b,by omega,c,d,by omega⟩
theorem ZaK (l:List Int):(bits l).length=7:=by simp[bits]
theorem bits_get (l:List Int) {i:Nat} (h:i<7):(bits l)[i]? =some (decide ((i:Int)∈l)):=by
 simp[bits,h]
theorem bits_set (l:List Int) {d:Int} (h0:0≤d) (h7:d≤6):(bits l).set d.toNat true=bits (l++ [d]):=by
 apply List.ext_getElem?
 intro i
 by_cases hi:i<7
 ·rw[bits_get _ hi,List.getElem?_set,bits_get _ hi,ZaK]
  by_cases e:d.toNat=i
  ·have:(i:Int)=d:=by omega
   simp[e,hi,this]
  ·have:¬(i:Int)=d:=by omega
   simp[e,this]
 ·rw[List.getElem?_eq_none (by simp[ZaK];omega),List.getElem?_eq_none (by simp[ZaK];omega)]
theorem cells_set {α:Type} (f:Bool→α) (l:List Int) (r:List α) {d:Int} (h0:0≤d) (h7:d≤6) :
  ((bits l).map f++r).take d.toNat++ [f true]++((bits l).map f++r).drop (d.toNat+1)=(bits (l++ [d])).map f++r:=by
 rw[Zf0 _ _ _ (by simp[ZaK];omega),List.set_append_left _ _ (by simp[ZaK];omega),←bits_set l h0 h7]
 congr 1
 rw[List.map_set]
theorem ZfZ {α:Type} (f:Bool→α) (l:List Int) (r:List α) {d:Int} (h0:0≤d) (h7:d≤6):(((bits l).map f++r).drop d.toNat)[0]? =some (f (decide (d∈l))):=by
 rw[List.getElem?_drop,List.getElem?_append_left (by simp[ZaK];omega),List.getElem?_map,Nat.add_zero,bits_get _ (by omega)]
 simp[Int.toNat_of_nonneg h0]
theorem Zfx {α:Type} (f:Bool→α) (l:List Int) (r:List α):((bits l).map f++r).drop 7=r:=by
 rw[List.drop_append_of_le_length (by simp[ZaK]),List.drop_of_length_le (by simp[ZaK])];rfl
theorem Zdf {α:Type} (f:Bool→α) (l:List Int) (x y:α):((bits l).map f++ [x,y]).drop 8= [y]:=by
 rw[show 8=7+1 from rfl,←List.drop_drop,Zfx];rfl
theorem cells_take {α:Type} (f:Bool→α) (l:List Int) (r:List α) (n:Nat) (h:n=7+r.length):((bits l).map f++r).take n=(bits l).map f++r :=
 List.take_of_length_le (by simp[ZaK];omega)
theorem cells_drop {α:Type} (f:Bool→α) (l:List Int) (r:List α) (n:Nat) (h:n=7+r.length):((bits l).map f++r).drop n= [] :=
 List.drop_of_length_le (by simp[ZaK];omega)
theorem Zha {α:Type} (f:Bool→α) (l:List Int) (x:α):((bits l).map f++ [x]).take 8=(bits l).map f++ [x]:=cells_take f l [x] 8 rfl
theorem ZhL {α:Type} (f:Bool→α) (l:List Int) (x:α):((bits l).map f++ [x]).drop 8= []:=cells_drop f l [x] 8 rfl
theorem Zcy {α:Type} (f:Bool→α) (l:List Int) (x y:α):((bits l).map f++ [x,y]).take 9=(bits l).map f++ [x,y]:=cells_take f l [x,y] 9 rfl
theorem Ze4 {α:Type} (f:Bool→α) (l:List Int) (x y:α):((bits l).map f++ [x,y]).drop 9= []:=cells_drop f l [x,y] 9 rfl
theorem cells_set8 {α:Type} (f:Bool→α) (l:List Int) (x y z:α):((bits l).map f++ [x,y]).set 8 z=(bits l).map f++ [x,z]:=by
 rw[List.set_append_right _ _ (by simp[ZaK])]
 simp[ZaK]
theorem cells_put8 {α:Type} (f:Bool→α) (l:List Int) (x y z:α):((bits l).map f++ [x,y]).take 8++ [z]++((bits l).map f++ [x,y]).drop 9=(bits l).map f++ [x,z]:=by
 rw[Zf0 _ 8 z (by simp[ZaK]),cells_set8]
theorem ZbF (k:Nat) (r:List AV):∀(l:List Bool),ZaC k (l.map (fun b=>AV.p (vb b))++r)=ZaC k r
 | []=>rfl
 | b :: l=>by simp only[List.map_cons,List.cons_append,ZaC,ZaH,ZbF k r l,true_and]
theorem Zc1 (q:Nat→Bool) (H:Heap) (r:List AV):∀(l:List Bool),frzL q H (l.map (fun b=>AV.p (vb b))++r)=l.map (fun b=>AV.p (vb b))++frzL q H r
 | []=>rfl
 | b :: l=>by simp only[List.map_cons,List.cons_append,frzL,AV.frz,Zc1 q H r l]
theorem Zc0 (r:List AV):∀(l:List Bool),allP (l.map (fun b=>AV.p (vb b))++r)=(allP r).map (l.map vb++ ·)
 | []=>by simp
 | b :: l=>by
  simp only[List.map_cons,List.cons_append,allP,Zc0 r l,Option.map_map]
  rfl
theorem Zg5 (l:List Bool) (r:List PV):(l.map vb++r).all PV.single=r.all PV.single:=by
 simp[List.all_append,List.all_map,Function.comp_def,PV.single,flat]
theorem Zg4 (l:List Bool) (r:List PV):(l.map vb++r).map AV.p=l.map (fun b=>AV.p (vb b))++r.map AV.p:=by
 simp[Function.comp_def]
theorem Zgq (l:List Bool) (r:List AV) (h:r.all (fun | .agg _ | .tup _ | .junk=>false | .p x=>x.single | _=>true)=true):AV.cells (.agg (l.map (fun b=>AV.p (vb b))++r))=some (l.map (fun b=>AV.p (vb b))++r):=by
 show (if _ then _ else _)=_
 rw[if_pos]
 rw[List.all_append,Bool.and_eq_true]
 refine⟨?_,h⟩
 rw[List.all_map]
 exact List.all_eq_true.2 fun b _=>rfl
theorem firstF_eq (p:Nat→Bool):∀(n i k:Nat),i≤k→k≤i+n→(∀j,i≤j→j<k→p j=false)→(k<i+n→p k=true)→firstF p i n=k
 | 0,i,k,h1,h2,_,_=>by simp only[firstF];omega
 | n+1,i,k,h1,h2,h3,h4=>by
  simp only[firstF]
  by_cases e:i=k
  ·subst e
   rw[h4 (by omega)];rfl
  ·rw[h3 i (Nat.le_refl _) (by omega)]
   exact firstF_eq p n (i+1) k (by omega) (by omega) (fun j hj hk=>h3 j (by omega) hk) (fun h=>h4 (by omega))
theorem first_eq {p:Nat→Bool} {n k:Nat} (h2:k≤n) (h3:∀j,j<k→p j=false) (h4:k<n→p k=true):first p n=k :=
 firstF_eq p n 0 k (Nat.zero_le _) (by omega) (fun j _ hk=>h3 j hk) (fun h=>h4 (by omega))
theorem firstF_spec (p:Nat→Bool):∀(n i:Nat),i≤firstF p i n∧firstF p i n≤i+n∧(∀j,i≤j→j<firstF p i n→p j=false)∧(firstF p i n<i+n→p (firstF p i n)=true)
 | 0,i=>by simp[firstF];intro j h1 h2;omega
 | n+1,i=>by
  simp only[firstF]
  split
  ·rename_i h
   exact⟨Nat.le_refl _,by omega,fun j h1 h2=>by omega,fun _=>h⟩
  ·rename_i h
   obtain⟨h1,h2,h3,h4⟩:=firstF_spec p n (i+1)
   refine⟨by omega,by omega,fun j hj hk=>?_,fun hh=>h4 (by omega)⟩
   by_cases e:j=i
   ·subst e;simpa using h
   ·exact h3 j (by omega) hk
theorem first_spec (p:Nat→Bool) (n:Nat):first p n≤n∧(∀j,j<first p n→p j=false)∧(first p n<n→p (first p n)=true):=by
 obtain⟨_,h2,h3,h4⟩:=firstF_spec p n 0
 exact⟨by unfold first;omega,fun j hj=>h3 j (Nat.zero_le _) hj,fun h=>h4 (by unfold first at h;omega)⟩
abbrev dayE (d:Int):PV × PV:=(vi d,vb true)
theorem mput_day (d:Int):∀(l:List Int),d ∉ l→mput (.one .int) (vi d) (vb true) (l.map dayE)=some ((l++ [d]).map dayE)
 | [],_=>rfl
 | x :: l,h=>by
  simp only[List.mem_cons,not_or] at h
  have hne:(d == x)=false:=by simp[h.1]
  simp only[List.map_cons,mput,keyEq,flatEq,if_true,hne,mput_day d l h.2,List.cons_append,Option.map_some]
theorem mfind_day (d:Int):∀(l:List Int),mfind (.one .int) (vi d) (l.map dayE)=some (if d∈l then some (vb true) else none)
 | []=>rfl
 | x :: l=>by
  by_cases h:d=x
  ·subst h
   simp[mfind,keyEq,flatEq]
  ·have hne:(d == x)=false:=by simp[h]
   simp only[List.map_cons,mfind,keyEq,flatEq,if_true,hne,mfind_day d l,List.mem_cons,h,false_or]
end Go.Abs
