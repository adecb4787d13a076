/-
  Sorting,the plain law:the program's own sort of numbers is the generic one.
-/
import Derived.Test.YtjjhmldeammecaaXSt
import Derived.Test.YtjjhmldeammecaaFHn
namespace Go.Abs
open Go
set_option maxRecDepth 8000
theorem less_int_eq (a b:Int):ZaP a b=some (decide (a<b)):=by
 simp[ZaP,Zcm,gAnd]
theorem lt_int_ok:LtOk (fun a b:Int=>decide (a<b)):=⟨fun x y h=>by simp at h ⊢;omega,fun x y z h1 h2=>by simp at h1 h2 ⊢;omega⟩
theorem nx_ok:NxOk Zbo:=fun x=>⟨_,rfl⟩
def len8 (n:Nat):Nat:=if n=0 then 0 else if n<2 then 1 else if n<4 then 2 else if n<8 then 3 else if n<16 then 4 else if n<32 then 5 else if n<64 then 6 else if n<128 then 7 else 8
theorem tab8:∀n,n<256→sidx Zb7.b ((n:Nat):Int)=some ((len8 n:Nat):Int):=by
 rw[Zec]
 decide +kernel
theorem len8_le {n:Nat} (h:0<n) (h2:n<256):2 ^ len8 n≤2*n:=by
 unfold len8
 repeat' split
 all_goals omega
theorem len8_8 (n:Nat):len8 n≤8:=by
 unfold len8
 repeat' split
 all_goals omega
theorem len_fin {n t b:Nat} (ht:t<256) (hb:b≤56) (h1:t*2 ^ b≤n) (h2:0<n→0<t) :
  ∃k:Nat,(Option.bind (sidx Zb7.b (IntKind.u8.wrap (t:Int))) fun c=>some (w64 ((b:Int)+w64 c)))=some (k:Int)∧k≤64∧(0<n→2 ^ k≤2*n):=by
 have hw:IntKind.u8.wrap (t:Int)=(t:Int):=by
  simp[IntKind.wrap,IntKind.bits,IntKind.signed];omega
 rw[hw,tab8 t ht,Option.bind_some]
 have h8:=len8_8 t
 refine⟨b+len8 t,?_,by omega,fun h=>?_⟩
 ·rw[ZbD (n:=len8 t) rfl (by unfold top;omega),ZbD (n:=b+len8 t) (by omega) (by unfold top;omega)]
 ·have h3:=len8_le (h2 h) ht
  calc 2 ^ (b+len8 t)=2 ^ b*2 ^ len8 t:=Nat.pow_add ..
   _≤2 ^ b*(2*t):=Nat.mul_le_mul_left _ h3
   _=2*(t*2 ^ b):=by rw[Nat.mul_comm,Nat.mul_assoc]
   _≤2*n:=Nat.mul_le_mul_left _ h1
theorem fdiv_nat (n k:Nat):(n:Int).fdiv (k:Int)=((n / k:Nat):Int):=by
 rw[Int.fdiv_eq_ediv_of_nonneg _ (by omega)];rfl
theorem len64_ok {n:Nat} (h:n<18446744073709551616):∃k:Nat,ZcM (n:Int)=some (k:Int)∧k≤64∧(0<n→2 ^ k≤2*n):=by
 unfold ZcM
 have step2:∀(t b:Nat),t<65536→b≤48→t*2 ^ b≤n→(0<n→0<t)→∃k:Nat,(seqK (τ:=Int × Int) (if (decide ((t:Int)≥256))=true then (some (.inl ((t:Int).fdiv 256,w64 ((b:Int)+8)))) else (some (.inl ((t:Int),(b:Int))))) fun (n22,n23)=>Option.bind (sidx Zb7.b ((IntKind.u8.wrap) n22)) fun c28=>some (w64 (n23+(w64 c28))))=some (k:Int)∧k≤64∧(0<n→2 ^ k≤2*n):=by
  intro t b h1 h2 h3 h4
  by_cases h5:256≤t
  ·rw[if_pos (by simp;omega),show (256:Int)=((256:Nat):Int) from rfl,fdiv_nat,ZbD (n:=b+8) (by omega) (by unfold top;omega)]
   refine len_fin (by omega) (by omega) ?_ (fun _=>by omega)
   calc t / 256*2 ^ (b+8)=(t / 256*2 ^ 8)*2 ^ b:=by rw[Nat.pow_add,Nat.mul_comm (2 ^ b),Nat.mul_assoc]
    _≤t*2 ^ b:=Nat.mul_le_mul_right _ (by omega)
    _≤n:=h3
  ·rw[if_neg (by simp;omega)]
   exact len_fin (by omega) (by omega) h3 h4
 have step1:∀(t b:Nat),t<4294967296→b≤32→t*2 ^ b≤n→(0<n→0<t)→∃k:Nat,(seqK (τ:=Int × Int) (if (decide ((t:Int)≥65536))=true then (some (.inl ((t:Int).fdiv 65536,w64 ((b:Int)+16)))) else (some (.inl ((t:Int),(b:Int))))) fun (n13,n14)=>seqK (τ:=Int × Int) (if (decide (n13≥256))=true then (some (.inl (n13.fdiv 256,w64 (n14+8)))) else (some (.inl (n13,n14)))) fun (n22,n23)=>Option.bind (sidx Zb7.b ((IntKind.u8.wrap) n22)) fun c28=>some (w64 (n23+(w64 c28))))=some (k:Int)∧k≤64∧(0<n→2 ^ k≤2*n):=by
  intro t b h1 h2 h3 h4
  by_cases h5:65536≤t
  ·rw[if_pos (by simp;omega),show (65536:Int)=((65536:Nat):Int) from rfl,fdiv_nat,ZbD (n:=b+16) (by omega) (by unfold top;omega)]
   refine step2 (t / 65536) (b+16) (by omega) (by omega) ?_ (fun _=>by omega)
   calc t / 65536*2 ^ (b+16)=(t / 65536*2 ^ 16)*2 ^ b:=by rw[Nat.pow_add,Nat.mul_comm (2 ^ b),Nat.mul_assoc]
    _≤t*2 ^ b:=Nat.mul_le_mul_right _ (by omega)
    _≤n:=h3
  ·rw[if_neg (by simp;omega)]
   exact step2 t b (by omega) (by omega) h3 h4
 by_cases h5:4294967296≤n
 ·rw[if_pos (by simp;omega),show (4294967296:Int)=((4294967296:Nat):Int) from rfl,fdiv_nat]
  exact step1 (n / 4294967296) 32 (by omega) (by omega) (by omega) (fun _=>by omega)
 ·rw[if_neg (by simp;omega)]
  exact step1 n 0 (by omega) (by omega) (by omega) (fun h=>h)
theorem u64_small {n:Nat} (h:n≤140737488355328):IntKind.u64.wrap (n:Int)=(n:Int):=u64_nat (by omega)
theorem np_ok:NpOk Zbf:=by
 refine⟨fun n h1 h2=>?_⟩
 obtain⟨k,hk,k1,k2⟩:=len64_ok (n:=n) (by omega)
 have hp:=k2 (by omega)
 unfold Zbf ZcT
 rw[u64_small h2,hk]
 simp only[Option.bind_some]
 rw[chk_eq (by simp),Option.bind_some]
 have e:Nat.min (Int.toNat (k:Int)) IntKind.u64.bits=k:=by
  show Nat.min k 64=k
  exact Nat.min_eq_left k1
 rw[e,Int.one_mul,show ((2:Int) ^ k)=((2 ^ k:Nat):Int) by simp,u64_nat (by omega)]
 exact⟨2 ^ k,rfl,Nat.one_le_two_pow,hp⟩
theorem gen_pdq (fuel:Nat):ZaT fuel=Zdj ZaP Zbf Zbo fuel:=by
 have h1:Zbg=Zdc ZaP:=rfl
 have h2:ZbO=ZeZ ZaP:=rfl
 have h3:Zbi=Zdd Zbf Zbo:=rfl
 have h4:Zbr=ZdM ZaP:=rfl
 have h5:Zbn=Zds:=rfl
 have h6:Za3=Zb3 ZaP:=rfl
 have h7:Zbc=ZcV ZaP:=rfl
 have h8:ZbE=ZdR ZaP:=rfl
 induction fuel with
 | zero=>rfl
 | succ n ih =>
  funext a b c d
  unfold ZaT Zdj
  rw[ih,h1,h2,h3,h4,h5,h6,h7,h8]
theorem sort_int_ok {fuel:Nat} {l:List Int} (hl:l.length<fuel) (hd:l.length≤lim):∃r,Zb2 fuel l=some r∧l.Perm r∧r.Pairwise (fun a b=>a≤b):=by
 have hd':l.length≤140737488355328:=hd
 unfold Zb2 ZcT
 obtain⟨k,hk,-,-⟩:=len64_ok (n:=l.length) (by omega)
 rw[u64_small hd',hk]
 simp only[Option.bind_some]
 obtain⟨r,hr,r1,r2⟩:=gpd_ok less_int_eq lt_int_ok np_ok nx_ok fuel l 0 l.length k (by omega) (Nat.zero_le _) (Nat.le_refl _) hd (fun h=>absurd h (by omega))
 rw[gen_pdq,show (0:Int)=((0:Nat):Int) from rfl,hr,Option.bind_some,ZbB r1.len,Option.bind_some]
 refine⟨r,rfl,r1.perm,?_⟩
 rw[List.pairwise_iff_getElem]
 intro i j hi hj hij
 have:=r2 i j r[i] r[j] (Nat.zero_le _) hij (by rw[←r1.len];exact hj) (List.getElem?_eq_getElem hi) (List.getElem?_eq_getElem hj)
 simp at this
 omega
end Go.Abs
