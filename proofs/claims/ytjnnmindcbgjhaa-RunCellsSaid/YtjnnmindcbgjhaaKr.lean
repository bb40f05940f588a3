/- The chapter's example of runs; programs of one function, walked. Conditions: those of the texts. -/
import Derived.Test.YtjnnmindcbgjhaaPgm
import Derived.Test.YtjnnmindcbgjhaaRmn
import Derived.Test.YtjnnmindcbgjhaaGs
import Derived.Lib.ItoaNum
set_option linter.unusedVariables false
set_option linter.unusedSimpArgs false
namespace Go.Proofs.Ytjnnmindcbgjhaa
open Go Go.Sy Go.RowKit
abbrev i64R (n:Int):Prop := -9223372036854775808≤n∧n≤9223372036854775807
abbrev u8R (n:Int):Prop:=0≤n∧n≤255
def OkSb (n:Nat) (s:Sm):Bool:=decide (s.e.dp<n)&&decide (s.f.dp<n)&&decide (s.cd.dp<n)&&s.ar.all (fun a=>decide (a.e.dp<n))&&decide (s.ar.length≤5000)
theorem OkSb_ok {n:Nat} {s:Sm} (h:OkSb n s=true):OkS n s:=by
 simp only[OkSb,Bool.and_eq_true,decide_eq_true_eq,List.all_eq_true]at h
 exact⟨h.1.1.1.1,h.1.1.1.2,h.1.1.2,h.1.2,h.2⟩
def okBb (n:Nat):Nat→List Sm→Bool
 |0,_=>false
 |m+1,l=>decide (l.length≤5000)&&l.all fun s=>OkSb n s&&okBb n m s.th&&okBb n m s.el
theorem okBb_ok {n:Nat}:∀{m:Nat} {l:List Sm},okBb n m l=true→okB n m l
 |0,l,h=>by cases h
 |m+1,l,h=>by
  simp only[okBb,Bool.and_eq_true,decide_eq_true_eq,List.all_eq_true]at h
  exact⟨h.1,fun s hs=>⟨OkSb_ok (h.2 s hs).1.1,okBb_ok (h.2 s hs).1.2,okBb_ok (h.2 s hs).2⟩⟩
def okFb (f:Fn):Bool:=decide (f.ps.length≤5000)&&decide (f.ls.length≤5000)
theorem okFb_ok {f:Fn} (h:okFb f=true):okF f:=by
 simp only[okFb,Bool.and_eq_true,decide_eq_true_eq]at h;exact h
def okPb (N M:Nat) (P:Pg):Bool:=decide (P.fs.length≤1000000)&&P.fs.all fun f=>okFb f&&okBb N M f.body
theorem okPb_ok {N M:Nat} {P:Pg} (h:okPb N M P=true):okPg N P:=by
 simp only[okPb,Bool.and_eq_true,decide_eq_true_eq,List.all_eq_true]at h
 exact⟨h.1,fun f hf=>⟨okFb_ok (h.2 f hf).1,M,okBb_ok (h.2 f hf).2⟩⟩
theorem okUn_f {n m:Nat} {gl:List UInt8→List Gi} {s t:List UInt8} (h1:(s==gloB)=false) (h2:smallB t) (h3:(okFb (funF t).1&&okBb n m (funF t).1.body)=true):okUn n m gl ⟨s,t⟩:=by
 simp only[Bool.and_eq_true]at h3
 exact⟨fun h=>(by rw[h1]at h;cases h),fun _=>h2,fun _=>okFb_ok h3.1,fun _=>okBb_ok h3.2⟩
theorem okUn_g {n m:Nat} {gl:List UInt8→List Gi} {t:List UInt8} (h1:glO t (gl t)) (h2:onceL (giV (gl t)).ns) (h3:(giV (gl t)).c.length≤5000) (h4:(giV (gl t)).a.length≤5000):okUn n m gl ⟨gloB,t⟩:=by
 have hb:(gloB==gloB)=true:=by decide
 exact⟨fun _=>⟨h1,h2,h3,h4⟩,fun h=>(by rw[hb]at h;cases h),fun h=>(by rw[hb]at h;cases h),fun h=>(by rw[hb]at h;cases h)⟩
theorem once_nd {l:List (List UInt8)} (h:l.Nodup):onceL l:=by
 intro i j hj hi
 have hjl:j<l.length:=by omega
 simp only[List.getD,List.getElem?_eq_getElem hi,List.getElem?_eq_getElem hjl,Option.getD_some]
 have:=List.pairwise_iff_getElem.1 h j i hjl hi hj
 simpa using this
theorem mUn_dr (s t:List UInt8):mUn.d [.v (.string (bs s)),.v (.string (bs t))]=some ⟨s,t⟩:=rowMOf_d unc_inj ⟨s,t⟩
theorem cSta_n:cSta.d (.agg [.v (.slice none 0 0),.v (.slice none 0 0)])=some ⟨[],[]⟩:=codOf_le (e:=fun p:Sta=>.agg (stR p)) (a:=⟨[],[]⟩) ⟨.inr ⟨rfl,rfl⟩,.inr ⟨rfl,rfl⟩,trivial⟩
theorem cVas_n:cVas.d (.one (.v (.slice none 0 0)))=some []:=codOf_le (e:=fun l:List Va=>.one (.d (.sl zVaD (l.map Va.r)))) (a:=[]) (.inr ⟨rfl,rfl⟩)
theorem cVas_d1 (p:Bool) (n:Int) (s:List UInt8):cVas.d (.one (.d (.sl [.v (.bool false),.v (.int .i64 0),.v (.string (bs []))] [[.v (.bool p),.v (.int .i64 n),.v (.string (bs s))]])))=some [⟨p,n,s⟩]:=cVas_d [⟨p,n,s⟩]
theorem cVas_d2 (p p':Bool) (n n':Int) (s s':List UInt8):cVas.d (.one (.d (.sl [.v (.bool false),.v (.int .i64 0),.v (.string (bs []))] [[.v (.bool p),.v (.int .i64 n),.v (.string (bs s))],[.v (.bool p'),.v (.int .i64 n'),.v (.string (bs s'))]])))=some [⟨p,n,s⟩,⟨p',n',s'⟩]:=cVas_d [⟨p,n,s⟩,⟨p',n',s'⟩]
def kT:List UInt8:=[102,110,32,102,40,120,41,32,123,32,99,32,61,32,120,59,32,114,101,116,117,114,110,32,49,32,47,32,120,59,32,125]
def kG:List UInt8:=[99,101,108,108,32,99,59]
def kgl:List UInt8→List Gi:=fun _=>[.c [99]]
def kP:Pg:=⟨⟨[[99]],[]⟩,[⟨[102],[⟨[120],false⟩],[],[(.mk 0 [99] [] (.mk 1 0 [120] .nil .nil) .nil .nil [] [] [] 0),(.mk 9 [] [] (.mk 5 0 [] (.mk 0 1 [] .nil .nil) (.mk 1 0 [120] .nil .nil)) .nil .nil [] [] [] 1)]⟩]⟩
theorem kP_e:prF 8 kgl [⟨[102],kT⟩,⟨gloB,kG⟩]=kP:=by kernel_rfl
theorem kP_u:∀u∈[(⟨[102],kT⟩:Un),⟨gloB,kG⟩],okUn 50 8 kgl u:=by
 intro u hu
 simp only[List.mem_cons,List.not_mem_nil,or_false]at hu
 rcases hu with rfl|rfl
 ·exact okUn_f (by decide) (by have e:kT.length=32:=rfl;unfold smallB;omega) (by kernel_rfl)
 ·refine okUn_g ⟨by have e:kG.length=7:=rfl;unfold smallB;omega,?_,by decide,_,(by kernel_rfl:rxT kG=([⟨0,[99,101,108,108],0⟩,⟨0,[99],5⟩,⟨2,[59],6⟩],0,0)),rfl⟩ (once_nd (by decide)) (by decide) (by decide)
  intro g hg
  simp only[kgl,List.mem_singleton]at hg
  subst hg
  exact gl_nm _ (by decide)
theorem kP_r (va:List Va) (f:Int) (hv:va.length≤5000) (hf:f<10):okR 50 10 kP va ⟨[],[]⟩ f:=⟨okPb_ok (M:=8) (by kernel_rfl),by decide,by decide,(by intro x hx;cases hx),by decide,by decide,hv,hf,by decide⟩
theorem kPb:(blC kP.g.c).length=1:=rfl
theorem kP_a:clF 10 kP [102] [⟨false,0,[]⟩] ⟨[],[]⟩ 9=⟨7,1,[⟨[99],0⟩],[],1,0,[102],1,0⟩:=by kernel_rfl
theorem kP_b:clF 10 kP [102] [⟨false,1,[]⟩] ⟨[],[]⟩ 9=⟨7,0,[⟨[99],1⟩],[],0,1,[],0,0⟩:=by kernel_rfl
theorem kP_c:clF 10 kP [103] [] ⟨[],[]⟩ 9=⟨9,0,[⟨[99],0⟩],[],1,0,[103],-1,4⟩:=by kernel_rfl
abbrev yc_known20:Prop:=True
abbrev yr_known20:SV:=.one (.v (.bool true))
noncomputable abbrev ya_known20:ArgC (Unit):=ac0
abbrev yq_known20:Prop:=CallsY Try.prog 11 ya_known20 (fun p:Unit=>yc_known20 ) (fun p:Unit=>yr_known20 )
theorem yn_known20:∀p:Unit,((fun p:Unit=>yr_known20 ) p).names=[]:=by intro p;rfl
set_option maxRecDepth 20000 in set_option maxHeartbeats 32000000 in
theorem y_known20:yq_known20:=by
 rintro ⟨_u⟩ w fz xs hc hfz hl hx
 refine calls_toL Try.func11 rfl w fz [(yg_Prog 50 8 kgl (y_Prog 50 8 kgl)),(yg_Call 50 10 (y_Call 50 10)),yp_Blank] [(2,[.flag 12]),(3,[.flag 17])] ya_known20 (fun p:Unit=>yr_known20 ) _ xs hfz hl hx (Nat.le_of_ble_eq_true rfl) ?_
 clear hx hl hfz xs
 simp only[Try.f11]
 have hg:gloB=[103,108,111,98,97,108,115]:=rfl
 have he:=kP_e
 have hu:=kP_u
 have hr:=kP_r
 rw[hg]at he hu
 simp only[kT,kG]at he hu
 simp only[↓eB,seval,go_sem,yg_Prog,yg_Call,mUn_e,mUn_z,mUn_dr,Un.c,pqR,zUc,cPg_e,cPg_d,cSta_e,cSta_d,cSta_n,cVas_e,cVas_d,cVas_n,cVas_d1,cVas_d2,pgR,stR,ouC,amCl_d,amCl_a,amCl_m,clJ_eq,lmH,lmO,chL,ML.ch,mlO_none,mlO_some,mlO_nil,updL,updX,nmX,xt,bumpL,ML.ren,rnC,renQ,renQC,vrQ,spL_some,fcN,↓e_fac4,yF_Blank,yN_Blank,R_Bl,M_Bl,nbL_rn,naL_rn,nbL_nm,naL_nm,he,kP_a,kP_b,kP_c,pg_eta,kPb,Nb.r]
 refine⟨⟨Nat.le_of_ble_eq_true rfl,hu⟩,hr _ 9 (Nat.le_of_ble_eq_true rfl) (by decide),hr _ 9 (Nat.le_of_ble_eq_true rfl) (by decide),hr _ 9 (Nat.le_of_ble_eq_true rfl) (by decide),⟨by decide,by decide,(by intro x hx;cases hx)⟩,?_⟩
 refine ret_with [] ?_;simp only[↓eB,seval,go_sem,bne,yr_known20]
noncomputable def yp_known20 {X:Ctx} {w0:World}:Sy.Spec Try.prog X w0:=specD 11 Try.call11 ya_known20 (fun p:Unit=>yc_known20 ) (fun p:Unit=>yr_known20 ) yn_known20 y_known20
end Go.Proofs.Ytjnnmindcbgjhaa
namespace Go.Proofs.Ytjnnmindcbgjhaa
open Go Go.Sy Go.RowKit
abbrev w64 (n:Int):Prop := -9223372036854775808≤n∧n≤9223372036854775807
def itT (n:Int):List UInt8:=Lib.itoa n
abbrev tenS:List UInt8:=[48,49,50,51,52,53,54,55,56,57]
theorem ten_at:∀n,n<10→(tenS.drop n).take (n+1-n)=[UInt8.ofNat (48+n)]:=by decide
theorem dec_lt {u:Nat} (h:u<10):Lib.decDigits u=[UInt8.ofNat (48+u)]:=by rw[Lib.decDigits,dif_pos h]
theorem dec_ge {u:Nat} (h:¬u<10):Lib.decDigits u=Lib.decDigits (u / 10)++[UInt8.ofNat (48+u % 10)]:=by rw[Lib.decDigits,dif_neg h]
theorem dec_len:∀(f u:Nat),u<10 ^ (f+1)→(Lib.decDigits u).length≤f+1
 |0,u,h=>by rw[dec_lt (by simpa using h)];simp
 |f+1,u,h=>by
  by_cases hu:u<10
  ·rw[dec_lt hu];simp
  ·rw[dec_ge hu]
   have:=dec_len f (u / 10) (by rw[Nat.div_lt_iff_lt_mul (by decide)];rw[Nat.pow_succ]at h;exact h)
   simp;omega
theorem itoa_nat (u:Nat):Lib.itoa (u:Int)=Lib.decDigits u:=by unfold Lib.itoa;rw[if_neg (by omega)];rfl
theorem itoa_neg {u:Nat} (h:0<u):Lib.itoa (-(u:Int))=45::Lib.decDigits u:=by unfold Lib.itoa;rw[if_pos (by omega)];simp
theorem itoa_len (f:Nat) (n:Int) (h:n.natAbs<10 ^ (f+1)):(Lib.itoa n).length≤f+2:=by
 unfold Lib.itoa
 split
 ·have:=dec_len f n.natAbs h;simp;omega
 ·have:=dec_len f n.toNat (by omega);omega
theorem itoa_w64 {n:Int} (h:w64 n):(Lib.itoa n).length≤22:=itoa_len 20 n (Nat.lt_of_le_of_lt (show n.natAbs≤9223372036854775808 by obtain⟨h1,h2⟩:=h;omega) (by decide))
abbrev cdD (f:Nat) (p:Int×Unit):Prop:=w64 p.1∧(p.1.natAbs<10 ^ f∨(0≤p.1∧p.1<10))
abbrev fnD (p:Int×Unit):SV:=.one (.v (.string (bs (Lib.itoa p.1))))
theorem fnD_n:∀p,(fnD p).names=[]:=by intro p;rfl
theorem y_Dec:∀f:Nat,CallsY Try.prog 24 (acS (cInt .i64) ac0) (cdD f) fnD:=by
 intro f
 induction f with
 |zero=>
  rintro ⟨n,_u⟩ w fz xs hc hfz hl hx
  refine calls_to Try.func24 rfl w fz [] [] (acS (cInt .i64) ac0) fnD _ xs hfz hl hx (Nat.le_of_ble_eq_true rfl) ?_
  clear hx hl hfz xs
  simp only[Try.f24]
  obtain⟨⟨h1,h2⟩,h3⟩:=hc
  dsimp only at h1 h2 h3
  rw[Nat.pow_zero]at h3
  obtain⟨m,rfl⟩:∃m:Nat,n=(m:Int):=⟨n.natAbs,by omega⟩
  have h9:m<10:=by omega
  have d1:decide ((m:Int)<0)=false:=by simp
  have d2:decide ((m:Int)<10)=true:=by simp;omega
  have d3:IntKind.i64.wrap ((m:Int)+1)=((m+1:Nat):Int):=by rw[wrap_i64 (by omega) (by omega)];rfl
  have d4:=ten_at m h9
  simp only[tenS]at d4
  simp only[↓eB,seval,go_sem,d1,d2,d3]
  refine⟨⟨by omega,by omega⟩,?_⟩
  rw[d4]
  refine ret_with [] ?_;simp only[↓eB,seval,go_sem,bne,fnD,itoa_nat,dec_lt h9]
 |succ f ih=>
  rintro ⟨n,_u⟩ w fz xs hc hfz hl hx
  refine calls_to Try.func24 rfl w fz [specD 24 Try.call24 (acS (cInt .i64) ac0) (cdD f) fnD fnD_n ih] [] (acS (cInt .i64) ac0) fnD _ xs hfz hl hx (Nat.le_of_ble_eq_true rfl) ?_
  clear hx hl hfz xs
  simp only[Try.f24]
  obtain⟨⟨h1,h2⟩,h3⟩:=hc
  dsimp only at h1 h2 h3
  rw[Nat.pow_succ]at h3
  by_cases hn:n<0
  ·obtain⟨m,rfl⟩:∃m:Nat,n = -(m:Int):=⟨n.natAbs,by omega⟩
   have d1:decide (-(m:Int)<0)=true:=by simp;omega
   by_cases h9:9<m
   ·have d2:decide (-(m:Int) < -9)=true:=by simp;omega
    have d3:IntKind.i64.wrap ((-(m:Int)).tdiv 10) = -((m / 10:Nat):Int):=by
     rw[Int.neg_tdiv,Int.tdiv_eq_ediv_of_nonneg (by omega),wrap_i64 (by omega) (by omega)];omega
    have d4:IntKind.i64.wrap (0-(-(m:Int)).tmod 10)=((m % 10:Nat):Int):=by
     rw[Int.neg_tmod,Int.tmod_eq_emod_of_nonneg (by omega),wrap_i64 (by omega) (by omega)];omega
    have h7:m % 10<10:=Nat.mod_lt _ (by decide)
    have k1:w64 (-((m / 10:Nat):Int)):=⟨by omega,by omega⟩
    have k2:w64 ((m % 10:Nat):Int):=⟨by omega,by omega⟩
    have l1:=itoa_w64 k1
    have l2:=itoa_w64 k2
    have e1:Lib.itoa (-((m / 10:Nat):Int))++Lib.itoa ((m % 10:Nat):Int)=Lib.itoa (-(m:Int)):=by
     rw[itoa_neg (by omega),itoa_neg (by omega),itoa_nat,dec_lt h7,dec_ge (u:=m) (by omega)];rfl
    simp only[↓eB,seval,go_sem,d1,d2,d3,d4]
    refine⟨⟨k1,.inl ?_⟩,⟨k2,.inr ⟨by dsimp only;omega,by dsimp only;omega⟩⟩,by omega,?_⟩
    ·show (-((m / 10:Nat):Int)).natAbs<_
     omega
    ·rw[e1]
     refine ret_with [] ?_;simp only[↓eB,seval,go_sem,bne,fnD]
   ·have d2:decide (-(m:Int) < -9)=false:=by simp;omega
    have d3:IntKind.i64.wrap (0 - -(m:Int))=(m:Int):=by rw[wrap_i64 (by omega) (by omega)];omega
    have k1:w64 (m:Int):=⟨by omega,by omega⟩
    have l1:=itoa_w64 k1
    have e1:45::Lib.itoa (m:Int)=Lib.itoa (-(m:Int)):=by rw[itoa_neg (by omega),itoa_nat]
    simp only[↓eB,seval,go_sem,d1,d2,d3]
    refine⟨⟨k1,.inr ⟨by dsimp only;omega,by dsimp only;omega⟩⟩,by omega,?_⟩
    rw[e1]
    refine ret_with [] ?_;simp only[↓eB,seval,go_sem,bne,fnD]
  ·obtain⟨m,rfl⟩:∃m:Nat,n=(m:Int):=⟨n.natAbs,by omega⟩
   have d1:decide ((m:Int)<0)=false:=by simp
   by_cases h9:m<10
   ·have d2:decide ((m:Int)<10)=true:=by simp;omega
    have d3:IntKind.i64.wrap ((m:Int)+1)=((m+1:Nat):Int):=by rw[wrap_i64 (by omega) (by omega)];rfl
    have d4:=ten_at m h9
    simp only[tenS]at d4
    simp only[↓eB,seval,go_sem,d1,d2,d3]
    refine⟨⟨by omega,by omega⟩,?_⟩
    rw[d4]
    refine ret_with [] ?_;simp only[↓eB,seval,go_sem,bne,fnD,itoa_nat,dec_lt h9]
   ·have d2:decide ((m:Int)<10)=false:=by simp;omega
    have d3:IntKind.i64.wrap ((m:Int).tdiv 10)=((m / 10:Nat):Int):=by
     rw[Int.tdiv_eq_ediv_of_nonneg (by omega),wrap_i64 (by omega) (by omega)];omega
    have d4:(m:Int).tmod 10=((m % 10:Nat):Int):=by rw[Int.tmod_eq_emod_of_nonneg (by omega)];omega
    have h7:m % 10<10:=Nat.mod_lt _ (by decide)
    have k1:w64 ((m / 10:Nat):Int):=⟨by omega,by omega⟩
    have k2:w64 ((m % 10:Nat):Int):=⟨by omega,by omega⟩
    have l1:=itoa_w64 k1
    have l2:=itoa_w64 k2
    have e1:Lib.itoa ((m / 10:Nat):Int)++Lib.itoa ((m % 10:Nat):Int)=Lib.itoa (m:Int):=by
     rw[itoa_nat,itoa_nat,itoa_nat,dec_lt h7,dec_ge (u:=m) h9]
    simp only[↓eB,seval,go_sem,d1,d2,d3,d4]
    refine⟨⟨k1,.inl ?_⟩,⟨k2,.inr ⟨by dsimp only;omega,by dsimp only;omega⟩⟩,by omega,?_⟩
    ·show (((m / 10:Nat):Int)).natAbs<_
     omega
    ·rw[e1]
     refine ret_with [] ?_;simp only[↓eB,seval,go_sem,bne,fnD]
theorem w64_20 {n:Int} (h:w64 n):n.natAbs<10 ^ 20:=Nat.lt_of_le_of_lt (show n.natAbs≤9223372036854775808 by obtain⟨h1,h2⟩:=h;omega) (by decide)
abbrev yc_Dc (n:Int):Prop:=w64 n
abbrev yr_Dc (n:Int):SV:=SV.one (.v (.string (bs (itT n))))
theorem y_Dc:CallsY Try.prog 24 (acS (cInt .i64) ac0) (fun p:(Int×Unit)=>yc_Dc p.1) (fun p:(Int×Unit)=>yr_Dc p.1):=fun a w fz xs hc=>y_Dec 20 a w fz xs ⟨hc,.inl (w64_20 hc)⟩
theorem yn_Dc:∀p:(Int×Unit),((fun p:(Int×Unit)=>yr_Dc p.1) p).names=[]:=by intro p;first|rfl|simp[SV.names,C.names]
noncomputable def yp_Dc {X:Ctx} {w0:World}:Sy.Spec Try.prog X w0:=specD 24 Try.call24 (acS (cInt .i64) ac0) (fun p:(Int×Unit)=>yc_Dc p.1) (fun p:(Int×Unit)=>yr_Dc p.1) yn_Dc y_Dc
end Go.Proofs.Ytjnnmindcbgjhaa
