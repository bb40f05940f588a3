/- print: globals. Conditions: the lengths are of 64 bits, the text is shorter than 10^9 bytes; the table of powers of ten is laid. -/
import Derived.Test.YtbiepiggmagfcaaGreatDoorPs5
import Derived.Test.YtbiepiggmagfcaaGreatDoorRp5
import Derived.Test.YtbiepiggmagfcaaGreatDoorPi1
import Derived.Test.YtbiepiggmagfcaaGreatDoorPx2
import Derived.Test.YtbiepiggmagfcaaGreatDoorPs4
set_option linter.unusedVariables false
set_option linter.unusedSimpArgs false
namespace Go.Proofs.YtbiepiggmagfcaaGreatDoor
open Go Go.Sy Go.RowKit
structure Ga where
 s:List UInt8
 n:Int
structure Gb where
 cs:List (List UInt8)
 as':List Ga
def Ga.r (a:Ga):List D:=[dS a.s,dI a.n]
def zGa:List D:=[dS [],dI 0]
def Gb.c (g:Gb):List C:=[.d (.sl zSD (g.cs.map sD1)),.d (.sl zGa (g.as'.map Ga.r))]
end Go.Proofs.YtbiepiggmagfcaaGreatDoor
namespace Go.Proofs.YtbiepiggmagfcaaGreatDoor
open Go Go.Sy Go.Shelf Go.RowKit
def jnN (l:List (List UInt8)):List UInt8:=Lib.join l [10]
theorem c_JoinN (l:List (List UInt8)) (w:World) (fz:Nat→Prop) (hfz:∀b,fz b→b<w.heap.size) (hl:l.length≤1000000) (ht:(jnN l).length≤1000000000) {x:Value} (h:Rd (hp w) fz (.sl zSD (l.map sD1)) x) :
  Calls Tryz.prog 47 #[x,.string (bs [10])] w fun e w'=>e= .returned (.string (bs (jnN l)))∧Below w.heap.size w w':=by
 have hbs:∀s:List UInt8,(bs s).data.toList=s:=fun s=>by simp[bs]
 have h5:List.map (fun b:ByteArray=>b.data.toList) (l.map bs)=l:=by
  rw[List.map_map]
  have:((fun b:ByteArray=>b.data.toList)∘bs)=id:=by funext s;exact hbs s
  rw[this,List.map_id]
 generalize hD:l.map sD1=es at h
 cases h with
 |nil _ a cap h0=>
  obtain rfl:l=[]:=by simpa using hD
  exact(Any.strings_Join_none Tryz.lays156 x5 a cap (bs [10]) w).mono fun e w' ⟨he,hw⟩=>⟨he,hw▸Below.refl _ _⟩
 |sl _ _ b off cap arr T m val hz hb hcap hl' hc hr=>
  subst hD
  have hbw:w.heap[b]?=some (.cells arr T m):=hb
  have:=Any.strings_Join Tryz.lays156 x5 b off cap (l.map bs) (bs [10]) w (fun j x hj=>by
    simp only[List.getElem?_map,Option.map_eq_some_iff]at hj
    obtain⟨s,hs,rfl⟩:=hj
    have h1:(l.map sD1)[j]?=some (sD1 s):=by simp[hs]
    have h2:=hc j 0 _ (dS s) h1 rfl
    have h3:=hr j 0 _ (dS s) h1 rfl
    generalize val j 0=y at h2 h3
    cases h3
    simp only[World.cell?,hbw,Option.isSome_none,Bool.false_eq_true,if_false]
    rw[← h2];congr 1;simp[zSD])
   (hfz b hz) (by rw[List.length_map];omega) (by rw[List.length_map];rw[List.length_map]at hcap;exact hcap) (by
    rw[h5,hbs]
    show (jnN l).length≤_
    omega)
  rw[h5,hbs]at this
  rw[List.length_map]at this ⊢
  exact this
abbrev yc_JoinN (l:List (List UInt8)) (s:List UInt8):Prop:=s=[10]∧l.length≤1000000∧(jnN l).length≤1000000000
abbrev yr_JoinN (l:List (List UInt8)) (_:List UInt8):Value:=.string (bs (jnN l))
theorem y_JoinN:CallsR Tryz.prog 47 (ahS (cSl rSs) (ahS cStr.H ah0)) (fun p=>yc_JoinN p.1 p.2.1) (fun p=>ofV (yr_JoinN p.1 p.2.1)):=by
 rintro ⟨l,s,_u⟩ w fz xs ⟨hs,hl1,hl2⟩ hfz hl hx
 dsimp only at hs hl1 hl2
 subst hs
 obtain⟨x,y,rfl⟩:∃x y,xs=[x,y]:=by
  match xs,hl with
  |[x,y],_=>exact⟨x,y,rfl⟩
 have hy:=hx 1 _ y rfl rfl
 have hxx:=hx 0 _ x rfl rfl
 obtain rfl:=sd_clos hy rfl
 have hr:Rd (hp w) fz (.sl zSD (l.map sD1)) x:=by
  have:=hxx.2
  cases this
  assumption
 refine(c_JoinN l w fz hfz hl1 hl2 hr).mono ?_
 rintro e w' ⟨rfl,hb⟩
 exact⟨_,_,fz,rfl,rfl,rfl,fun _ h=>h,fun _ h=>.inl h,fun b h=>Nat.lt_of_lt_of_le (hfz b h) hb.size,sd_ofV (w:=w') rfl,hb⟩
theorem yh_JoinN:∀p:(List (List UInt8))×(List UInt8)×Unit,okV ((fun p:(List (List UInt8))×(List UInt8)×Unit=>yr_JoinN p.1 p.2.1) p)=true:=by intro p;rfl
noncomputable def yp_JoinN {X:Ctx} {w0:World}:Sy.Spec Tryz.prog X w0:=specR 47 Tryz.call47 (ahS (cSl rSs) (ahS cStr.H ah0)) (fun p=>yc_JoinN p.1 p.2.1) (fun p=>yr_JoinN p.1 p.2.1) yh_JoinN y_JoinN
abbrev yc_rptext (p:Rp):Prop:=p.l.length≤1000000∧(jnN p.l).length≤1000000000
abbrev yr_rptext (p:Rp):SV:=.one (.v (.string (bs (jnN p.l))))
abbrev ym_rptext (p:Rp):List (Option MV):=[some (zRp,[p.c])]
noncomputable abbrev ya_rptext:ArgM ((Rp)×Unit):=(amP (mRp) am0)
abbrev yq_rptext:Prop:=CallsM Tryz.prog 56 ((ya_rptext).args 0) (ya_rptext).mem (fun p:(Rp)×Unit=>yc_rptext p.1) (fun p:(Rp)×Unit=>yr_rptext p.1) (fun p:(Rp)×Unit=>ym_rptext p.1)
theorem yl_rptext:∀p,(fun p:(Rp)×Unit=>yc_rptext p.1) p→lenM ((ya_rptext).mem p).length ((fun p:(Rp)×Unit=>ym_rptext p.1) p)=true:=by intro p _;rfl
theorem yo_rptext:∀p,(fun p:(Rp)×Unit=>yc_rptext p.1) p→outV ((fun p:(Rp)×Unit=>ym_rptext p.1) p).length ((fun p:(Rp)×Unit=>yr_rptext p.1) p)=true:=by intro p _;rfl
theorem yn_rptext:∀p,(fun p:(Rp)×Unit=>yc_rptext p.1) p→∀q,some q∈(fun p:(Rp)×Unit=>ym_rptext p.1) p→∀r∈q.2,∀c∈r,c.names=[]:=by intro p _;exact mem_rp _
attribute [local go_sem] Rp.c mRp_d mRp_d1 mRp_e mRp_z sR1 zRp zSs
theorem y_rptext:yq_rptext:=by
 rintro ⟨p,_u⟩ w M I lab fz xs hc hA hl hx
 refine calls_toML Tryz.func56 rfl ((ya_rptext).mem ⟨p,_u⟩) w M I lab fz [yp_JoinN] [(1,[.unr 0 0 0 1000])] ((ya_rptext).args 0 ⟨p,_u⟩) ((fun p:(Rp)×Unit=>ym_rptext p.1) ⟨p,_u⟩) ((fun p:(Rp)×Unit=>yr_rptext p.1) ⟨p,_u⟩) xs hA hl hx (fun v hv k hk=>by have:=(ya_rptext).an 0 ⟨p,_u⟩ v hv k hk;omega) (Nat.le_of_ble_eq_true rfl) (Nat.le_of_ble_eq_true rfl) ?_
 clear hx hl hA xs
 simp only[Tryz.f56]
 obtain⟨h1,h2⟩:=hc
 obtain⟨l,a,n⟩:=p
 dsimp only at h1 h2
 simp only[↓eB,seval,go_sem,yp_JoinN,yr_JoinN,zSs_ds,rowsS1.ds,rSs_e,rSs_z,rSs_d,zSD_ln,decL_ss]
 try simp only[impB,impN]
 repeat' first|exact ck|with_reducible apply And.intro|intro _
 all_goals first|exact h1|exact h2|exact rfl|(rename_i h;first|exact oI h|exact nah h)|(rename_i _ h _ g;exact sL h g)|decide|omega|(refine ret_with [.fold 0 0 0] ?_;simp only[↓eB,seval,go_sem,bne,yr_rptext,ym_rptext,sr_all])
noncomputable def yp_rptext {X:Ctx} {w0:World}:Sy.Spec Tryz.prog X w0:=specM 56 Tryz.call56 (ya_rptext) (fun p:(Rp)×Unit=>yc_rptext p.1) (fun p:(Rp)×Unit=>yr_rptext p.1) (fun p:(Rp)×Unit=>ym_rptext p.1) yl_rptext yo_rptext yn_rptext y_rptext
noncomputable def cAs:Cod (List Al):=codOf (fun l=>.one (.d (.sl zAl (l.map Al.r)))) (fun v a b h h'=>by
 cases v with
 |one c=>exact map_inj al_inj (leC_d h h')
 |agg l=>exact h.elim
 |tup l=>exact h.elim) (fun l=>rfl)
theorem cAs_e (l:List Al):cAs.e l= .one (.d (.sl zAl (l.map Al.r))):=rfl
theorem cAs_d (l:List Al):cAs.d (.one (.d (.sl zAl (l.map Al.r))))=some l:=codOf_le (e:=fun l:List Al=>.one (.d (.sl zAl (l.map Al.r)))) (leV_refl _)
noncomputable def cNs:Cod (List Nt):=codOf (fun l=>.one (.d (.sl zNt (l.map Nt.r)))) (fun v a b h h'=>by
 cases v with
 |one c=>exact map_inj nt_inj (leC_d h h')
 |agg l=>exact h.elim
 |tup l=>exact h.elim) (fun l=>rfl)
theorem cNs_e (l:List Nt):cNs.e l= .one (.d (.sl zNt (l.map Nt.r))):=rfl
theorem cNs_d (l:List Nt):cNs.d (.one (.d (.sl zNt (l.map Nt.r))))=some l:=codOf_le (e:=fun l:List Nt=>.one (.d (.sl zNt (l.map Nt.r)))) (leV_refl _)
def rpL (f:Fn) (A:List Al) (N:List Nt):List (List UInt8):=bkB A N f.body (splT (fnT f)) ((((splT (fnT f)).length-2-htB f.body:Nat)):Int)
structure okRep (n m:Nat) (f:Fn) (A:List Al) (N:List Nt):Prop where
 p:okPr n m f.body
 b:okB n m f.body
 m:m≤1000
 ps:f.ps.length≤5000
 ls:f.ls.length≤5000
 t:(fnT f).length≤1000000000
 h:htB f.body≤10000
 o:okRp ⟨splT (fnT f),A,N⟩ (htB f.body)
 i:htB f.body+2≤(splT (fnT f)).length
 j:(jnN (rpL f A N)).length≤1000000000
abbrev yc_repFunc (n:Nat) (m:Nat) (f:Fn) (A:List Al) (N:List Nt):Prop:=okRep n m f A N
abbrev yr_repFunc (n:Nat) (m:Nat) (f:Fn) (A:List Al) (N:List Nt):SV:=.one (.v (.string (bs (jnN (rpL f A N)))))
noncomputable abbrev ya_repFunc:ArgC ((Fn)×(List Al)×(List Nt)×Unit):=(acS (cFn) (acS (cAs) (acS (cNs) ac0)))
abbrev yq_repFunc (n:Nat) (m:Nat):Prop:=CallsG Tryz.prog 21 powT ya_repFunc (fun p:(Fn)×(List Al)×(List Nt)×Unit=>yc_repFunc n m p.1 p.2.1 p.2.2.1) (fun p:(Fn)×(List Al)×(List Nt)×Unit=>yr_repFunc n m p.1 p.2.1 p.2.2.1)
set_option maxRecDepth 20000 in set_option maxHeartbeats 8000000 in
theorem y_repFunc (n:Nat) (m:Nat):yq_repFunc n m:=by
 rintro ⟨f,A,N,_u⟩ w fz xs hT hc hfz hl hx
 have hG:=staysN_clX powT_keptB powT_size (fz:=fz) hT
 refine calls_toL Tryz.func21 rfl w fz [(yg_pFunc n m (y_pFunc n m) hG),yp_Split,(yg_height n m (y_height n m)),(yg_rpblock n m (y_rpblock n m)),yp_rptext] [(2,[.fold 15 0 0])] ya_repFunc (fun p:(Fn)×(List Al)×(List Nt)×Unit=>yr_repFunc n m p.1 p.2.1 p.2.2.1) _ xs hfz hl hx (Nat.le_of_ble_eq_true rfl) ?_
 clear hx hl hfz xs
 simp only[Tryz.f21]
 obtain⟨h1,h2,h3,h4,h5,h6,h7,h8,h9,h10⟩:=hc
 obtain⟨nm,ps,ls,bd⟩:=f
 dsimp only at h1 h2 h4 h5 h7 h8 h9
 obtain⟨L,hL⟩:∃L,splT (fnT ⟨nm,ps,ls,bd⟩)=L:=⟨_,rfl⟩
 unfold rpL at h10
 dsimp only at h10
 rw[hL]at h8 h9 h10
 have hLl:L.length≤1000000:=h8.1
 have q0:(fnT ⟨nm,ps,ls,bd⟩).length<4294967281:=by dsimp only at h6;omega
 obtain⟨i0,hi0⟩:∃i0:Nat,L.length-2-htB bd=i0:=⟨_,rfl⟩
 have w1:IntKind.i64.wrap ((L.length:Int)-2)=((L.length-2:Nat):Int):=by rw[wrap_i64 (by omega) (by omega)];omega
 have w2:IntKind.i64.wrap (((L.length-2:Nat):Int)-(htB bd:Int))=(i0:Int):=by rw[wrap_i64 (by omega) (by omega)];omega
 have q1:(0:Int)≤(i0:Int):=by omega
 have q2:(i0:Int)+(htB bd:Int)≤10000000:=by omega
 have q3:=bkB_len A N bd L (i0:Int)
 have q4:(bkB A N bd L (i0:Int)).length≤1000000:=by omega
 rw[hi0]at h10
 simp only[↓eB,seval,go_sem,cFn_e,cFn_d,cAs_e,cAs_d,cNs_e,cNs_d,cSs_e,cSs_d,Fn.c,zAl_ln,zNt_ln,fn_eta,sr_all,yg_pFunc,yp_Split,yg_height,yg_rpblock,yp_rptext,hL,w1,w2]
 try simp only[impB,impN]
 repeat' first|exact ck|with_reducible apply And.intro|intro _
 all_goals first|exact h1|exact h2|exact h3|exact h4|exact h5|exact h6|exact h7|exact h8|exact h9|exact h10|exact q0|exact q1|exact q2|exact q4|exact rfl|(rename_i h;first|exact oI h|exact nah h)|(rename_i _ h _ g;exact sL h g)|decide|omega|(refine ret_with [] ?_;simp only[↓eB,seval,go_sem,bne,yr_repFunc,rpL,hL,hi0])
end Go.Proofs.YtbiepiggmagfcaaGreatDoor
namespace Go.Proofs.YtbiepiggmagfcaaGreatDoor
open Go Go.Sy Go.RowKit
theorem dec_lt {u:Nat} (h:u<10):Lib.decDigits u=[UInt8.ofNat (48+u)]:=by rw[Lib.decDigits,dif_pos h]
theorem dec_ge {u:Nat} (h:¬u<10):Lib.decDigits u=Lib.decDigits (u / 10)++[UInt8.ofNat (48+u % 10)]:=by rw[Lib.decDigits,dif_neg h]
theorem dec_len:∀(f u:Nat),u<10 ^ (f+1)→(Lib.decDigits u).length≤f+1
 |0,u,h=>by rw[dec_lt (by simpa using h)];simp
 |f+1,u,h=>by
  by_cases hu:u<10
  ·rw[dec_lt hu];simp
  ·rw[dec_ge hu]
   have:=dec_len f (u / 10) (by rw[Nat.div_lt_iff_lt_mul (by decide)];rw[Nat.pow_succ]at h;exact h)
   simp;omega
theorem itoa_nat (u:Nat):Lib.itoa (u:Int)=Lib.decDigits u:=by unfold Lib.itoa;rw[if_neg (by omega)];rfl
theorem itoa_len (f:Nat) (n:Int) (h:n.natAbs<10 ^ (f+1)):(Lib.itoa n).length≤f+2:=by
 unfold Lib.itoa
 split
 ·have:=dec_len f n.natAbs h;simp;omega
 ·have:=dec_len f n.toNat (by omega);omega
theorem itoa_w64 {n:Int} (h:w64 n):(Lib.itoa n).length≤22:=itoa_len 20 n (Nat.lt_of_le_of_lt (show n.natAbs≤9223372036854775808 by obtain⟨h1,h2⟩:=h;omega) (by decide))
theorem itT_len {n:Int} (h:w64 n):(itT n).length≤22:=itoa_w64 h
end Go.Proofs.YtbiepiggmagfcaaGreatDoor
namespace Go.Proofs.YtbiepiggmagfcaaGreatDoor
open Go Go.Sy Go.RowKit
def rgE:Ex→Prop
 | .nil=>False
 | .mk k _ _ a b=>k=0∨k=1∨(k=7∧rgE a)∨(2≤k∧k≤6∧rgE a∧rgE b)
end Go.Proofs.YtbiepiggmagfcaaGreatDoor
namespace Go.Proofs.YtbiepiggmagfcaaGreatDoor
open Go Go.Sy Go.RowKit
def rgC:Cd→Prop
 | .nil=>False
 | .mk k a b p q _=>k=9∨(k=8∧rgC p)∨((k=6∨k=7)∧rgC p∧rgC q)∨(0≤k∧k≤5∧rgE a∧rgE b)
end Go.Proofs.YtbiepiggmagfcaaGreatDoor
namespace Go.Proofs.YtbiepiggmagfcaaGreatDoor
open Go Go.Sy Go.RowKit
structure RgS (s:Sm):Prop where
 e:s.k=0∨s.k=5∨s.k=6∨s.k=7∨s.k=9→rgE s.e
 f:s.k=7→rgE s.f
 c:s.k=10∨s.k=11∨s.k=12→rgC s.cd
 a:s.k=8→∀a∈s.ar,a.p=false→rgE a.e
def okRg:Nat→List Sm→Prop
 |0,_=>False
 |m+1,l=>∀s∈l,RgS s∧okRg m s.th∧okRg m s.el
end Go.Proofs.YtbiepiggmagfcaaGreatDoor
namespace Go.Proofs.YtbiepiggmagfcaaGreatDoor
open Go Go.Sy Go.RowKit
theorem jn_1 (x:List UInt8):jnT [x]=x:=Lib.join_one x _
end Go.Proofs.YtbiepiggmagfcaaGreatDoor
namespace Go.Proofs.YtbiepiggmagfcaaGreatDoor
open Go Go.Sy Go.RowKit
def Ln.r (x:Ln):List D:=[dS x.t,dI x.n]
def Ln.c (x:Ln):List C:=[.v (.string (bs x.t)),.v (.int .i64 x.n)]
def zLn:List D:=[dS [],dI 0]
def zLc:List C:=[.v (.string (bs [])),.v (.int .i64 0)]
theorem zLc_t:zT zLc=none:=rfl
theorem zLc_ln:zLc.length=2:=rfl
theorem zLc_ds:toDs zLc=some zLn:=rfl
theorem ln_map (l:List Ln):(l.map Ln.r).map (fun r=>r.map oD)=l.map Ln.c:=by rw[List.map_map];rfl
attribute [go_sem] zLc_t zLc_ln zLc_ds ln_map
end Go.Proofs.YtbiepiggmagfcaaGreatDoor
namespace Go.Proofs.YtbiepiggmagfcaaGreatDoor
open Go Go.Sy Go.RowKit
def lnH (f:Fn):Ln:=⟨(fnH f).flatten,-1⟩
theorem lnF_eq (f:Fn):lnF f=lnH f::(lcL f.ls++(lnB 1 f.body++[⟨[125],-1⟩])):=rfl
end Go.Proofs.YtbiepiggmagfcaaGreatDoor
namespace Go.Proofs.YtbiepiggmagfcaaGreatDoor
open Go Go.Sy Go.RowKit
end Go.Proofs.YtbiepiggmagfcaaGreatDoor
namespace Go.Proofs.YtbiepiggmagfcaaGreatDoor
open Go Go.Sy Go.Shelf Go.RowKit
abbrev yc_rKind (k:Int):Prop:=True
abbrev yr_rKind (k:Int):SV:=SV.one (.v (.string (bs (kdT k))))
theorem y_rKind:CallsY Tryz.prog 26 (acS (cInt .i64) ac0) (fun p:(Int×Unit)=>yc_rKind p.1) (fun p:(Int×Unit)=>yr_rKind p.1):=by
 rintro ⟨k,_u⟩ w fz xs hc hfz hl hx
 refine calls_toL Tryz.func26 rfl w fz [] [] (acS (cInt .i64) ac0) (fun p:(Int×Unit)=>yr_rKind p.1) _ xs hfz hl hx (Nat.le_of_ble_eq_true rfl) ?_
 clear hx hl hfz xs
 simp only[Tryz.f26]
 rcases kd6 k with rfl|rfl|rfl|rfl|rfl|rfl|⟨e0,e1,e2,e3,e4,e5,e6⟩
 ·simp only[↓eB,seval,go_sem,Int.reduceToNat]
  try simp only[impB,impN]
  repeat' first|exact ck|with_reducible apply And.intro|intro _
  all_goals first|exact trivial|(rename_i h;first|exact oI h|exact nah h)|(rename_i _ h _ g;exact sL h g)|decide|omega|(refine ret_with [] ?_;simp only[↓eB,seval,go_sem,bne,yr_rKind,kdT])
 ·simp only[↓eB,seval,go_sem,Int.reduceToNat]
  try simp only[impB,impN]
  repeat' first|exact ck|with_reducible apply And.intro|intro _
  all_goals first|exact trivial|(rename_i h;first|exact oI h|exact nah h)|(rename_i _ h _ g;exact sL h g)|decide|omega|(refine ret_with [] ?_;simp only[↓eB,seval,go_sem,bne,yr_rKind,kdT])
 ·simp only[↓eB,seval,go_sem,Int.reduceToNat]
  try simp only[impB,impN]
  repeat' first|exact ck|with_reducible apply And.intro|intro _
  all_goals first|exact trivial|(rename_i h;first|exact oI h|exact nah h)|(rename_i _ h _ g;exact sL h g)|decide|omega|(refine ret_with [] ?_;simp only[↓eB,seval,go_sem,bne,yr_rKind,kdT])
 ·simp only[↓eB,seval,go_sem,Int.reduceToNat]
  try simp only[impB,impN]
  repeat' first|exact ck|with_reducible apply And.intro|intro _
  all_goals first|exact trivial|(rename_i h;first|exact oI h|exact nah h)|(rename_i _ h _ g;exact sL h g)|decide|omega|(refine ret_with [] ?_;simp only[↓eB,seval,go_sem,bne,yr_rKind,kdT])
 ·simp only[↓eB,seval,go_sem,Int.reduceToNat]
  try simp only[impB,impN]
  repeat' first|exact ck|with_reducible apply And.intro|intro _
  all_goals first|exact trivial|(rename_i h;first|exact oI h|exact nah h)|(rename_i _ h _ g;exact sL h g)|decide|omega|(refine ret_with [] ?_;simp only[↓eB,seval,go_sem,bne,yr_rKind,kdT])
 ·simp only[↓eB,seval,go_sem,Int.reduceToNat]
  try simp only[impB,impN]
  repeat' first|exact ck|with_reducible apply And.intro|intro _
  all_goals first|exact trivial|(rename_i h;first|exact oI h|exact nah h)|(rename_i _ h _ g;exact sL h g)|decide|omega|(refine ret_with [] ?_;simp only[↓eB,seval,go_sem,bne,yr_rKind,kdT])
 ·rcases e6 with e6|e6
  ·have h1:decide (k<0)=true:=by simp;omega
   simp only[↓eB,seval,go_sem,h1]
   try simp only[impB,impN]
   repeat' first|exact ck|with_reducible apply And.intro|intro _
   all_goals first|exact trivial|(rename_i h;first|exact oI h|exact nah h)|(rename_i _ h _ g;exact sL h g)|decide|omega|(refine ret_with [] ?_;simp only[↓eB,seval,go_sem,bne,yr_rKind,kdT,e0,e1,e2,e3,e4,e5])
  ·have h1:decide (k<0)=false:=by simp;omega
   have h2:decide (6≤k)=true:=by simp;omega
   simp only[↓eB,seval,go_sem,h1,h2]
   try simp only[impB,impN]
   repeat' first|exact ck|with_reducible apply And.intro|intro _
   all_goals first|exact trivial|(rename_i h;first|exact oI h|exact nah h)|(rename_i _ h _ g;exact sL h g)|decide|omega|(refine ret_with [] ?_;simp only[↓eB,seval,go_sem,bne,yr_rKind,kdT,e0,e1,e2,e3,e4,e5])
theorem yn_rKind:∀p:(Int×Unit),((fun p:(Int×Unit)=>yr_rKind p.1) p).names=[]:=by intro p;first|rfl|simp[SV.names,C.names]
noncomputable def yp_rKind {X:Ctx} {w0:World}:Sy.Spec Tryz.prog X w0:=specD 26 Tryz.call26 (acS (cInt .i64) ac0) (fun p:(Int×Unit)=>yc_rKind p.1) (fun p:(Int×Unit)=>yr_rKind p.1) yn_rKind y_rKind
def mkT (A:List Al) (N:List Nt) (x:Ln):List UInt8:=if (decide (0≤x.n)&&!(addT A N x.n).isEmpty)=true then (x.t++[32,35])++addT A N x.n else x.t
def rpW (A:List Al) (N:List Nt) (x:Ln):List UInt8:=mkT A N x++[10]
def rpX (A:List Al) (N:List Nt) (l:List Ln):List UInt8:=l.flatMap (rpW A N)
end Go.Proofs.YtbiepiggmagfcaaGreatDoor
