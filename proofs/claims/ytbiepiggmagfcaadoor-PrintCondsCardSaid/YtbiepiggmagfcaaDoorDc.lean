/- The document's decimal text of a number. Conditions: the number is of 64 bits. -/
import Derived.Test.YtbiepiggmagfcaaDoorPi1
set_option linter.unusedVariables false
set_option linter.unusedSimpArgs false
namespace Go.Proofs.YtbiepiggmagfcaaDoor
open Go Go.Sy Go.RowKit
abbrev tenS:List UInt8:=[48,49,50,51,52,53,54,55,56,57]
theorem ten_at:∀n,n<10→(tenS.drop n).take (n+1-n)=[UInt8.ofNat (48+n)]:=by decide
theorem dec_lt {u:Nat} (h:u<10):Lib.decDigits u=[UInt8.ofNat (48+u)]:=by rw[Lib.decDigits,dif_pos h]
theorem dec_ge {u:Nat} (h:¬u<10):Lib.decDigits u=Lib.decDigits (u / 10)++[UInt8.ofNat (48+u % 10)]:=by rw[Lib.decDigits,dif_neg h]
theorem dec_len:∀(f u:Nat),u<10 ^ (f+1)→(Lib.decDigits u).length≤f+1
 |0,u,h=>by rw[dec_lt (by simpa using h)];simp
 |f+1,u,h=>by
  by_cases hu:u<10
  ·rw[dec_lt hu];simp
  ·rw[dec_ge hu]
   have:=dec_len f (u / 10) (by rw[Nat.div_lt_iff_lt_mul (by decide)];rw[Nat.pow_succ]at h;exact h)
   simp;omega
theorem itoa_nat (u:Nat):Lib.itoa (u:Int)=Lib.decDigits u:=by unfold Lib.itoa;rw[if_neg (by omega)];rfl
theorem itoa_neg {u:Nat} (h:0<u):Lib.itoa (-(u:Int))=45::Lib.decDigits u:=by unfold Lib.itoa;rw[if_pos (by omega)];simp
theorem itoa_len (f:Nat) (n:Int) (h:n.natAbs<10 ^ (f+1)):(Lib.itoa n).length≤f+2:=by
 unfold Lib.itoa
 split
 ·have:=dec_len f n.natAbs h;simp;omega
 ·have:=dec_len f n.toNat (by omega);omega
theorem itoa_w64 {n:Int} (h:w64 n):(Lib.itoa n).length≤22:=itoa_len 20 n (Nat.lt_of_le_of_lt (show n.natAbs≤9223372036854775808 by obtain⟨h1,h2⟩:=h;omega) (by decide))
abbrev cdD (f:Nat) (p:Int×Unit):Prop:=w64 p.1∧(p.1.natAbs<10 ^ f∨(0≤p.1∧p.1<10))
abbrev fnD (p:Int×Unit):SV:=.one (.v (.string (bs (Lib.itoa p.1))))
theorem fnD_n:∀p,(fnD p).names=[]:=by intro p;rfl
theorem y_Dec:∀f:Nat,CallsY Tryd.prog 29 (acS (cInt .i64) ac0) (cdD f) fnD:=by
 intro f
 induction f with
 |zero=>
  rintro ⟨n,_u⟩ w fz xs hc hfz hl hx
  refine calls_to Tryd.func29 rfl w fz [] [] (acS (cInt .i64) ac0) fnD _ xs hfz hl hx (Nat.le_of_ble_eq_true rfl) ?_
  clear hx hl hfz xs
  simp only[Tryd.f29]
  obtain⟨⟨h1,h2⟩,h3⟩:=hc
  dsimp only at h1 h2 h3
  rw[Nat.pow_zero]at h3
  obtain⟨m,rfl⟩:∃m:Nat,n=(m:Int):=⟨n.natAbs,by omega⟩
  have h9:m<10:=by omega
  have d1:decide ((m:Int)<0)=false:=by simp
  have d2:decide ((m:Int)<10)=true:=by simp;omega
  have d3:IntKind.i64.wrap ((m:Int)+1)=((m+1:Nat):Int):=by rw[wrap_i64 (by omega) (by omega)];rfl
  have d4:=ten_at m h9
  simp only[tenS]at d4
  simp only[↓eB,seval,go_sem,d1,d2,d3]
  refine⟨⟨by omega,by omega⟩,?_⟩
  rw[d4]
  refine ret_with [] ?_;simp only[↓eB,seval,go_sem,bne,fnD,itoa_nat,dec_lt h9]
 |succ f ih=>
  rintro ⟨n,_u⟩ w fz xs hc hfz hl hx
  refine calls_to Tryd.func29 rfl w fz [specD 29 Tryd.call29 (acS (cInt .i64) ac0) (cdD f) fnD fnD_n ih] [] (acS (cInt .i64) ac0) fnD _ xs hfz hl hx (Nat.le_of_ble_eq_true rfl) ?_
  clear hx hl hfz xs
  simp only[Tryd.f29]
  obtain⟨⟨h1,h2⟩,h3⟩:=hc
  dsimp only at h1 h2 h3
  rw[Nat.pow_succ]at h3
  by_cases hn:n<0
  ·obtain⟨m,rfl⟩:∃m:Nat,n = -(m:Int):=⟨n.natAbs,by omega⟩
   have d1:decide (-(m:Int)<0)=true:=by simp;omega
   by_cases h9:9<m
   ·have d2:decide (-(m:Int) < -9)=true:=by simp;omega
    have d3:IntKind.i64.wrap ((-(m:Int)).tdiv 10) = -((m / 10:Nat):Int):=by
     rw[Int.neg_tdiv,Int.tdiv_eq_ediv_of_nonneg (by omega),wrap_i64 (by omega) (by omega)];omega
    have d4:IntKind.i64.wrap (0-(-(m:Int)).tmod 10)=((m % 10:Nat):Int):=by
     rw[Int.neg_tmod,Int.tmod_eq_emod_of_nonneg (by omega),wrap_i64 (by omega) (by omega)];omega
    have h7:m % 10<10:=Nat.mod_lt _ (by decide)
    have k1:w64 (-((m / 10:Nat):Int)):=⟨by omega,by omega⟩
    have k2:w64 ((m % 10:Nat):Int):=⟨by omega,by omega⟩
    have l1:=itoa_w64 k1
    have l2:=itoa_w64 k2
    have e1:Lib.itoa (-((m / 10:Nat):Int))++Lib.itoa ((m % 10:Nat):Int)=Lib.itoa (-(m:Int)):=by
     rw[itoa_neg (by omega),itoa_neg (by omega),itoa_nat,dec_lt h7,dec_ge (u:=m) (by omega)];rfl
    simp only[↓eB,seval,go_sem,d1,d2,d3,d4]
    refine⟨⟨k1,.inl ?_⟩,⟨k2,.inr ⟨by dsimp only;omega,by dsimp only;omega⟩⟩,by omega,?_⟩
    ·show (-((m / 10:Nat):Int)).natAbs<_
     omega
    ·rw[e1]
     refine ret_with [] ?_;simp only[↓eB,seval,go_sem,bne,fnD]
   ·have d2:decide (-(m:Int) < -9)=false:=by simp;omega
    have d3:IntKind.i64.wrap (0 - -(m:Int))=(m:Int):=by rw[wrap_i64 (by omega) (by omega)];omega
    have k1:w64 (m:Int):=⟨by omega,by omega⟩
    have l1:=itoa_w64 k1
    have e1:45::Lib.itoa (m:Int)=Lib.itoa (-(m:Int)):=by rw[itoa_neg (by omega),itoa_nat]
    simp only[↓eB,seval,go_sem,d1,d2,d3]
    refine⟨⟨k1,.inr ⟨by dsimp only;omega,by dsimp only;omega⟩⟩,by omega,?_⟩
    rw[e1]
    refine ret_with [] ?_;simp only[↓eB,seval,go_sem,bne,fnD]
  ·obtain⟨m,rfl⟩:∃m:Nat,n=(m:Int):=⟨n.natAbs,by omega⟩
   have d1:decide ((m:Int)<0)=false:=by simp
   by_cases h9:m<10
   ·have d2:decide ((m:Int)<10)=true:=by simp;omega
    have d3:IntKind.i64.wrap ((m:Int)+1)=((m+1:Nat):Int):=by rw[wrap_i64 (by omega) (by omega)];rfl
    have d4:=ten_at m h9
    simp only[tenS]at d4
    simp only[↓eB,seval,go_sem,d1,d2,d3]
    refine⟨⟨by omega,by omega⟩,?_⟩
    rw[d4]
    refine ret_with [] ?_;simp only[↓eB,seval,go_sem,bne,fnD,itoa_nat,dec_lt h9]
   ·have d2:decide ((m:Int)<10)=false:=by simp;omega
    have d3:IntKind.i64.wrap ((m:Int).tdiv 10)=((m / 10:Nat):Int):=by
     rw[Int.tdiv_eq_ediv_of_nonneg (by omega),wrap_i64 (by omega) (by omega)];omega
    have d4:(m:Int).tmod 10=((m % 10:Nat):Int):=by rw[Int.tmod_eq_emod_of_nonneg (by omega)];omega
    have h7:m % 10<10:=Nat.mod_lt _ (by decide)
    have k1:w64 ((m / 10:Nat):Int):=⟨by omega,by omega⟩
    have k2:w64 ((m % 10:Nat):Int):=⟨by omega,by omega⟩
    have l1:=itoa_w64 k1
    have l2:=itoa_w64 k2
    have e1:Lib.itoa ((m / 10:Nat):Int)++Lib.itoa ((m % 10:Nat):Int)=Lib.itoa (m:Int):=by
     rw[itoa_nat,itoa_nat,itoa_nat,dec_lt h7,dec_ge (u:=m) h9]
    simp only[↓eB,seval,go_sem,d1,d2,d3,d4]
    refine⟨⟨k1,.inl ?_⟩,⟨k2,.inr ⟨by dsimp only;omega,by dsimp only;omega⟩⟩,by omega,?_⟩
    ·show (((m / 10:Nat):Int)).natAbs<_
     omega
    ·rw[e1]
     refine ret_with [] ?_;simp only[↓eB,seval,go_sem,bne,fnD]
theorem w64_20 {n:Int} (h:w64 n):n.natAbs<10 ^ 20:=Nat.lt_of_le_of_lt (show n.natAbs≤9223372036854775808 by obtain⟨h1,h2⟩:=h;omega) (by decide)
abbrev yc_Dc (n:Int):Prop:=w64 n
abbrev yr_Dc (n:Int):SV:=SV.one (.v (.string (bs (itT n))))
theorem y_Dc:CallsY Tryd.prog 29 (acS (cInt .i64) ac0) (fun p:(Int×Unit)=>yc_Dc p.1) (fun p:(Int×Unit)=>yr_Dc p.1):=fun a w fz xs hc=>y_Dec 20 a w fz xs ⟨hc,.inl (w64_20 hc)⟩
theorem yn_Dc:∀p:(Int×Unit),((fun p:(Int×Unit)=>yr_Dc p.1) p).names=[]:=by intro p;first|rfl|simp[SV.names,C.names]
noncomputable def yp_Dc {X:Ctx} {w0:World}:Sy.Spec Tryd.prog X w0:=specD 29 Tryd.call29 (acS (cInt .i64) ac0) (fun p:(Int×Unit)=>yc_Dc p.1) (fun p:(Int×Unit)=>yr_Dc p.1) yn_Dc y_Dc
end Go.Proofs.YtbiepiggmagfcaaDoor
