/- strings.Join; the arguments of a call as text. Conditions: the text is shorter than 10^9 bytes; the table of powers of ten is laid. -/
import Derived.Test.YtbiepiggmagfcaaDoorPx2
set_option linter.unusedVariables false
set_option linter.unusedSimpArgs false
namespace Go.Proofs.YtbiepiggmagfcaaDoor
open Go Go.Sy Go.Shelf Go.RowKit
def sD1 (s:List UInt8):List D:=[dS s]
theorem sD1_inj (a b:List UInt8) (h:sD1 a=sD1 b):a=b:=by
 simp only[sD1,List.cons.injEq,D.v.injEq,Value.string.injEq,and_true]at h
 exact bs_inj h
def zSD:List D:=[dS []]
noncomputable def rSs:RowC (List UInt8):=rowOf zSD sD1 sD1_inj fun _=>rfl
theorem rSs_z:rSs.z=zSD:=rfl
theorem rSs_e:rSs.e=sD1:=rfl
theorem rSs_d (s:List UInt8):rSs.d (sD1 s)=some s:=rSs.i s
theorem zSD_ln:zSD.length=1:=rfl
theorem decL_ss (l:List (List UInt8)):decL rSs.d (l.map sD1)=some l:=decL_map rSs l
theorem rowsS1:RowsD sR1 sD1 1:=by
 refine⟨fun a c hc=>?_,fun a c hc=>?_,fun a=>rfl,fun a=>rfl⟩
 ·simp only[sR1,List.mem_singleton]at hc;subst hc;rfl
 ·simp only[sR1,List.mem_singleton]at hc;subst hc;rfl
def jnT (l:List (List UInt8)):List UInt8:=Lib.join l [44,32]
theorem c_Join (l:List (List UInt8)) (ad:Option Addr) (n c:Nat) (w:World) (fz:Nat→Prop) (hfz:∀b,fz b→b<w.heap.size) (hl:l.length≤1000000) (ht:(jnT l).length≤1000000000) {x:Value} (h:Rd (hp w) fz (.sl zSD (l.map sD1)) x) :
  Calls Tryd.prog 47 #[x,.string (bs [44,32])] w fun e w'=>e= .returned (.string (bs (jnT l)))∧Below w.heap.size w w':=by
 have hbs:∀s:List UInt8,(bs s).data.toList=s:=fun s=>by simp[bs]
 have h5:List.map (fun b:ByteArray=>b.data.toList) (l.map bs)=l:=by
  rw[List.map_map]
  have:((fun b:ByteArray=>b.data.toList)∘bs)=id:=by funext s;exact hbs s
  rw[this,List.map_id]
 generalize hD:l.map sD1=es at h
 cases h with
 |nil _ a cap h0=>
  obtain rfl:l=[]:=by simpa using hD
  exact(Any.strings_Join_none Tryd.lays156 x5 a cap (bs [44,32]) w).mono fun e w' ⟨he,hw⟩=>⟨he,hw▸Below.refl _ _⟩
 |sl _ _ b off cap arr T m val hz hb hcap hl' hc hr=>
  subst hD
  have hbw:w.heap[b]?=some (.cells arr T m):=hb
  have:=Any.strings_Join Tryd.lays156 x5 b off cap (l.map bs) (bs [44,32]) w (fun j x hj=>by
    simp only[List.getElem?_map,Option.map_eq_some_iff]at hj
    obtain⟨s,hs,rfl⟩:=hj
    have h1:(l.map sD1)[j]?=some (sD1 s):=by simp[hs]
    have h2:=hc j 0 _ (dS s) h1 rfl
    have h3:=hr j 0 _ (dS s) h1 rfl
    generalize val j 0=y at h2 h3
    cases h3
    simp only[World.cell?,hbw,Option.isSome_none,Bool.false_eq_true,if_false]
    rw[← h2];congr 1;simp[zSD])
   (hfz b hz) (by rw[List.length_map];omega) (by rw[List.length_map];rw[List.length_map]at hcap;exact hcap) (by
    rw[h5,hbs]
    show (jnT l).length≤_
    omega)
  rw[h5,hbs]at this
  rw[List.length_map]at this ⊢
  exact this
abbrev yc_Join (l:List (List UInt8)) (s:List UInt8):Prop:=s=[44,32]∧l.length≤1000000∧(jnT l).length≤1000000000
abbrev yr_Join (l:List (List UInt8)) (_:List UInt8):Value:=.string (bs (jnT l))
theorem y_Join:CallsR Tryd.prog 47 (ahS (cSl rSs) (ahS cStr.H ah0)) (fun p=>yc_Join p.1 p.2.1) (fun p=>ofV (yr_Join p.1 p.2.1)):=by
 rintro ⟨l,s,_u⟩ w fz xs ⟨hs,hl1,hl2⟩ hfz hl hx
 dsimp only at hs hl1 hl2
 subst hs
 obtain⟨x,y,rfl⟩:∃x y,xs=[x,y]:=by
  match xs,hl with
  |[x,y],_=>exact⟨x,y,rfl⟩
 have hy:=hx 1 _ y rfl rfl
 have hxx:=hx 0 _ x rfl rfl
 obtain rfl:=sd_clos hy rfl
 have hr:Rd (hp w) fz (.sl zSD (l.map sD1)) x:=by
  have:=hxx.2
  cases this
  assumption
 refine(c_Join l none 0 0 w fz hfz hl1 hl2 hr).mono ?_
 rintro e w' ⟨rfl,hb⟩
 exact⟨_,_,fz,rfl,rfl,rfl,fun _ h=>h,fun _ h=>.inl h,fun b h=>Nat.lt_of_lt_of_le (hfz b h) hb.size,sd_ofV (w:=w') rfl,hb⟩
theorem yh_Join:∀p:(List (List UInt8))×(List UInt8)×Unit,okV ((fun p:(List (List UInt8))×(List UInt8)×Unit=>yr_Join p.1 p.2.1) p)=true:=by intro p;rfl
noncomputable def yp_Join {X:Ctx} {w0:World}:Sy.Spec Tryd.prog X w0:=specR 47 Tryd.call47 (ahS (cSl rSs) (ahS cStr.H ah0)) (fun p=>yc_Join p.1 p.2.1) (fun p=>yr_Join p.1 p.2.1) yh_Join y_Join
end Go.Proofs.YtbiepiggmagfcaaDoor
namespace Go.Proofs.YtbiepiggmagfcaaDoor
open Go Go.Sy Go.RowKit
structure Ln where
 t:List UInt8
 n:Int
def argX (a:Ar):List UInt8:=if a.p=true then a.s else exT a.e
def tgtT (x:List UInt8):List UInt8:=if (x==[])=true then [] else x++[32,61,32]
def hdL (s:Sm):List (List UInt8):=
 if (s.k==0)=true then [s.x,[32,61,32],exT s.e,[59]]
 else if (s.k==1)=true then [s.x,[32,61,32,38],s.y,[59]]
 else if (s.k==2)=true then [s.x,[32,61,32],s.y,[59]]
 else if (s.k==3)=true then [s.x,[32,61,32,110,117,108,108,59]]
 else if (s.k==4)=true then [s.x,[32,61,32,42],s.y,[59]]
 else if (s.k==5)=true then [[42],s.x,[32,61,32],exT s.e,[59]]
 else if (s.k==6)=true then [s.x,[32,61,32],s.y,[91],exT s.e,[93,59]]
 else if (s.k==7)=true then [s.y,[91],exT s.e,[93,32,61,32],exT s.f,[59]]
 else if (s.k==8)=true then [tgtT s.x,s.y,[40],jnT (s.ar.map argX),[41,59]]
 else if (s.k==9)=true then [[114,101,116,117,114,110,32],exT s.e,[59]]
 else if (s.k==12)=true then [[97,115,115,101,114,116,32,40],coT s.cd,[41,59]]
 else if (s.k==10)=true then [[105,102,32,40],coT s.cd,[41,32,123]]
 else [[119,104,105,108,101,32,40],coT s.cd,[41,32,123]]
def tbs (d:Nat):List UInt8:=List.replicate d 9
def lnO (d:Nat) (t:List UInt8) (n:Int):Ln:=⟨tbs d++t,n⟩
mutual
def lnS (d:Nat):Sm→List Ln
 | .mk k x y e f c ar th el no=>lnO d (hdL (.mk k x y e f c ar th el no)).flatten no::
  (if (k==10)=true then lnB (d+1) th++((if el.isEmpty=true then [] else lnO d [125,32,101,108,115,101,32,123] (-1)::lnB (d+1) el)++[lnO d [125] (-1)])
   else if (k==11)=true then lnB (d+1) th++[lnO d [125] (-1)] else [])
def lnB (d:Nat):List Sm→List Ln
 |[]=>[]
 |s::l=>lnS d s++lnB d l
end
def vrT (v:Vr):List UInt8:=if v.p=true then [42]++v.s else v.s
def locT (v:Vr):List UInt8:=[9]++(if v.p=true then [112,116,114,32] else [118,97,114,32])++v.s++[59]
def lnF (f:Fn):List Ln:=⟨[[102,110,32],f.name,[40],jnT (f.ps.map vrT),[41,32,123]].flatten,-1⟩::(f.ls.map (fun v=>⟨locT v,-1⟩)++(lnB 1 f.body++[⟨[125],-1⟩]))
def lnX (l:List Ln):List UInt8:=l.flatMap fun x=>x.t++[10]
theorem lnX_nil:lnX []=[]:=rfl
theorem lnX_cons (x:Ln) (l:List Ln):lnX (x::l)=(x.t++[10])++lnX l:=rfl
theorem lnX_app (l m:List Ln):lnX (l++m)=lnX l++lnX m:=by simp[lnX]
def fnT (f:Fn):List UInt8:=lnX (lnF f)
theorem lnB_nil (d:Nat):lnB d []=[]:=by simp[lnB]
theorem lnB_cons (d:Nat) (s:Sm) (l:List Sm):lnB d (s::l)=lnS d s++lnB d l:=by simp[lnB]
theorem lnB_snoc (d:Nat):∀(l:List Sm) (s:Sm),lnB d (l++[s])=lnB d l++lnS d s
 |[],s=>by simp[lnB]
 |a::l,s=>by rw[List.cons_append,lnB_cons,lnB_snoc d l s,lnB_cons,List.append_assoc]
theorem lnS_eq (d:Nat) (s:Sm):lnS d s=lnO d (hdL s).flatten s.no::
  (if (s.k==10)=true then lnB (d+1) s.th++((if s.el.isEmpty=true then [] else lnO d [125,32,101,108,115,101,32,123] (-1)::lnB (d+1) s.el)++[lnO d [125] (-1)])
   else if (s.k==11)=true then lnB (d+1) s.th++[lnO d [125] (-1)] else []):=by
 cases s;simp only[lnS];rfl
structure PrS (n:Nat) (s:Sm):Prop where
 ok:OkS n s
 k0:0≤s.k
 k1:s.k≤12
 e:okN s.e
 f:okN s.f
 c:okCn s.cd
 a:∀a∈s.ar,okN a.e
def okPr (n:Nat):Nat→List Sm→Prop
 |0,_=>False
 |m+1,l=>l.length≤5000∧∀s∈l,PrS n s∧okPr n m s.th∧okPr n m s.el
theorem lnX_len_app (l m:List Ln):(lnX (l++m)).length=(lnX l).length+(lnX m).length:=by rw[lnX_app,List.length_append]
theorem kd13 {k:Int} (h0:0≤k) (h1:k≤12):k=0∨k=1∨k=2∨k=3∨k=4∨k=5∨k=6∨k=7∨k=8∨k=9∨k=10∨k=11∨k=12:=by omega
theorem hdk0 (x y:List UInt8) (e f:Ex) (c:Cd) (ar:List Ar) (th el:List Sm) (no:Int):hdL (.mk 0 x y e f c ar th el no)=[x,[32,61,32],exT e,[59]]:=by simp only[hdL,Sm.k,Sm.x,Sm.y,Sm.e,Sm.f,Sm.cd,Sm.ar,Int.reduceBEq,if_true,if_false,Bool.false_eq_true]
theorem hdk1 (x y:List UInt8) (e f:Ex) (c:Cd) (ar:List Ar) (th el:List Sm) (no:Int):hdL (.mk 1 x y e f c ar th el no)=[x,[32,61,32,38],y,[59]]:=by simp only[hdL,Sm.k,Sm.x,Sm.y,Sm.e,Sm.f,Sm.cd,Sm.ar,Int.reduceBEq,if_true,if_false,Bool.false_eq_true]
theorem hdk2 (x y:List UInt8) (e f:Ex) (c:Cd) (ar:List Ar) (th el:List Sm) (no:Int):hdL (.mk 2 x y e f c ar th el no)=[x,[32,61,32],y,[59]]:=by simp only[hdL,Sm.k,Sm.x,Sm.y,Sm.e,Sm.f,Sm.cd,Sm.ar,Int.reduceBEq,if_true,if_false,Bool.false_eq_true]
theorem hdk3 (x y:List UInt8) (e f:Ex) (c:Cd) (ar:List Ar) (th el:List Sm) (no:Int):hdL (.mk 3 x y e f c ar th el no)=[x,[32,61,32,110,117,108,108,59]]:=by simp only[hdL,Sm.k,Sm.x,Sm.y,Sm.e,Sm.f,Sm.cd,Sm.ar,Int.reduceBEq,if_true,if_false,Bool.false_eq_true]
theorem hdk4 (x y:List UInt8) (e f:Ex) (c:Cd) (ar:List Ar) (th el:List Sm) (no:Int):hdL (.mk 4 x y e f c ar th el no)=[x,[32,61,32,42],y,[59]]:=by simp only[hdL,Sm.k,Sm.x,Sm.y,Sm.e,Sm.f,Sm.cd,Sm.ar,Int.reduceBEq,if_true,if_false,Bool.false_eq_true]
theorem hdk5 (x y:List UInt8) (e f:Ex) (c:Cd) (ar:List Ar) (th el:List Sm) (no:Int):hdL (.mk 5 x y e f c ar th el no)=[[42],x,[32,61,32],exT e,[59]]:=by simp only[hdL,Sm.k,Sm.x,Sm.y,Sm.e,Sm.f,Sm.cd,Sm.ar,Int.reduceBEq,if_true,if_false,Bool.false_eq_true]
theorem hdk6 (x y:List UInt8) (e f:Ex) (c:Cd) (ar:List Ar) (th el:List Sm) (no:Int):hdL (.mk 6 x y e f c ar th el no)=[x,[32,61,32],y,[91],exT e,[93,59]]:=by simp only[hdL,Sm.k,Sm.x,Sm.y,Sm.e,Sm.f,Sm.cd,Sm.ar,Int.reduceBEq,if_true,if_false,Bool.false_eq_true]
theorem hdk7 (x y:List UInt8) (e f:Ex) (c:Cd) (ar:List Ar) (th el:List Sm) (no:Int):hdL (.mk 7 x y e f c ar th el no)=[y,[91],exT e,[93,32,61,32],exT f,[59]]:=by simp only[hdL,Sm.k,Sm.x,Sm.y,Sm.e,Sm.f,Sm.cd,Sm.ar,Int.reduceBEq,if_true,if_false,Bool.false_eq_true]
theorem hdk8 (x y:List UInt8) (e f:Ex) (c:Cd) (ar:List Ar) (th el:List Sm) (no:Int):hdL (.mk 8 x y e f c ar th el no)=[tgtT x,y,[40],jnT (ar.map argX),[41,59]]:=by simp only[hdL,Sm.k,Sm.x,Sm.y,Sm.e,Sm.f,Sm.cd,Sm.ar,Int.reduceBEq,if_true,if_false,Bool.false_eq_true]
theorem hdk9 (x y:List UInt8) (e f:Ex) (c:Cd) (ar:List Ar) (th el:List Sm) (no:Int):hdL (.mk 9 x y e f c ar th el no)=[[114,101,116,117,114,110,32],exT e,[59]]:=by simp only[hdL,Sm.k,Sm.x,Sm.y,Sm.e,Sm.f,Sm.cd,Sm.ar,Int.reduceBEq,if_true,if_false,Bool.false_eq_true]
theorem hdk10 (x y:List UInt8) (e f:Ex) (c:Cd) (ar:List Ar) (th el:List Sm) (no:Int):hdL (.mk 10 x y e f c ar th el no)=[[105,102,32,40],coT c,[41,32,123]]:=by simp only[hdL,Sm.k,Sm.x,Sm.y,Sm.e,Sm.f,Sm.cd,Sm.ar,Int.reduceBEq,if_true,if_false,Bool.false_eq_true]
theorem hdk11 (x y:List UInt8) (e f:Ex) (c:Cd) (ar:List Ar) (th el:List Sm) (no:Int):hdL (.mk 11 x y e f c ar th el no)=[[119,104,105,108,101,32,40],coT c,[41,32,123]]:=by simp only[hdL,Sm.k,Sm.x,Sm.y,Sm.e,Sm.f,Sm.cd,Sm.ar,Int.reduceBEq,if_true,if_false,Bool.false_eq_true]
theorem hdk12 (x y:List UInt8) (e f:Ex) (c:Cd) (ar:List Ar) (th el:List Sm) (no:Int):hdL (.mk 12 x y e f c ar th el no)=[[97,115,115,101,114,116,32,40],coT c,[41,59]]:=by simp only[hdL,Sm.k,Sm.x,Sm.y,Sm.e,Sm.f,Sm.cd,Sm.ar,Int.reduceBEq,if_true,if_false,Bool.false_eq_true]
end Go.Proofs.YtbiepiggmagfcaaDoor
