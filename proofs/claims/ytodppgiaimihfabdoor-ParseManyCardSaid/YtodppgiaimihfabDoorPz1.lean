/- The chapter's example, parsed. No conditions but those in each statement. -/
import Derived.Test.YtodppgiaimihfabDoorPq15
import Derived.Test.YtodppgiaimihfabDoorAs
import Derived.Test.YtodppgiaimihfabDoorPp
set_option linter.unusedVariables false
set_option linter.unusedSimpArgs false
namespace Go.Proofs.YtodppgiaimihfabDoor
open Go Go.Sy Go.RowKit
theorem yn_qFunc:∀p:List UInt8×Unit,(yr_qFunc p.1).names=[]:=by intro p;first|rfl|simp[SV.names,C.names]
noncomputable def yp_qFunc {X:Ctx} {w0:World}:Sy.Spec Tryd.prog X w0:=specD 8 Tryd.call8 (acS cStr ac0) (fun p:List UInt8×Unit=>smallB p.1) (fun p=>yr_qFunc p.1) yn_qFunc y_qFunc
theorem yn_qGlobals:∀p:List UInt8×Unit,(yr_qGlobals p.1).names=[]:=by intro p;first|rfl|simp[SV.names,C.names]
noncomputable def yp_qGlobals {X:Ctx} {w0:World}:Sy.Spec Tryd.prog X w0:=specD 9 Tryd.call9 (acS cStr ac0) (fun p:List UInt8×Unit=>smallB p.1) (fun p=>yr_qGlobals p.1) yn_qGlobals y_qGlobals
def zE1:Ex:=.mk 2 0 [] (.mk 1 0 [120] .nil .nil) (.mk 0 1 [] .nil .nil)
theorem zf1:funF [102,110,32,102,40,120,41,32,123,32,114,101,116,117,114,110,32,120,32,43,32,49,59,32,125]=(⟨[102],[⟨[120],false⟩],[],[.mk 9 [] [] zE1 .nil .nil [] [] [] 0]⟩,0,0):=by kernel_rfl
theorem zf2:(funF [102,110,32,102,40,120,41,32,123,32,114,101,116,117,114,110,32,59,32,125]).2.1=17:=by kernel_rfl
theorem zf2':(funF [102,110,32,102,40,120,41,32,123,32,114,101,116,117,114,110,32,59,32,125]).2.2=51:=by kernel_rfl
theorem zg3:gloQ [99,101,108,108,32,99,59,32,97,114,114,97,121,32,97,91,51,93,59]=(⟨[[99]],[⟨[97],3⟩]⟩,0,0):=by kernel_rfl
abbrev yc_known7:Prop:=True
abbrev yr_known7:SV:=.one (.v (.bool true))
set_option maxRecDepth 20000 in set_option maxHeartbeats 4000000 in
theorem y_known7:CallsY Tryd.prog 6 ac0 (fun p:Unit=>yc_known7 ) (fun p:Unit=>yr_known7 ):=by
 rintro _u w fz xs hc hfz hl hx
 refine calls_toL Tryd.func6 rfl w fz [yp_qFunc,yp_qGlobals] [] ac0 (fun p:Unit=>yr_known7 ) _ xs hfz hl hx (Nat.le_of_ble_eq_true rfl) ?_
 clear hx hl hfz xs
 simp only[Tryd.f6]
 have s1:smallB [102,110,32,102,40,120,41,32,123,32,114,101,116,117,114,110,32,120,32,43,32,49,59,32,125]:=by unfold smallB;decide
 have s2:smallB [102,110,32,102,40,120,41,32,123,32,114,101,116,117,114,110,32,59,32,125]:=by unfold smallB;decide
 have s3:smallB [99,101,108,108,32,99,59,32,97,114,114,97,121,32,97,91,51,93,59]:=by unfold smallB;decide
 simp only[↓eB,seval,go_sem,yp_qFunc,yp_qGlobals,ex_mk,ex_nil,Ex.isNil,Fn.c,Gl.d,Gy.r,cSd,zSqD,zGyD,Sm.r,zf1,zf2,zf2',zg3,zE1]
 try simp only[impB,impN]
 repeat' first|exact ck|with_reducible apply And.intro|intro _
 all_goals first|exact s1|exact s2|exact s3|(rename_i h;first|exact oI h|exact nah h)|(rename_i _ h _ g;exact sL h g)|decide|omega|(refine ret_with [] ?_;simp only[↓eB,seval,go_sem,bne,yr_known7])
theorem yn_known7:∀p:Unit,((fun p:Unit=>yr_known7 ) p).names=[]:=by intro p;first|rfl|simp[SV.names,C.names]
noncomputable def yp_known7 {X:Ctx} {w0:World}:Sy.Spec Tryd.prog X w0:=specD 6 Tryd.call6 ac0 (fun p:Unit=>yc_known7 ) (fun p:Unit=>yr_known7 ) yn_known7 y_known7
end Go.Proofs.YtodppgiaimihfabDoor
namespace Go.Proofs.YtodppgiaimihfabDoor
open Go Go.Sy Go.RowKit
def rxG:Nat→Nat→List UInt8→List Tok→List Tok×Int×Int
 |0,_,_,out=>(out,0,0)
 |_+1,_,[],out=>(out,0,0)
 |f+1,i,c::r,out=>
  if blB (c.toNat:Int)=true then rxG f (i+1) r out
  else if ((c.toNat:Int)==35)=true then rxG f (i+spanN nlB (c::r)) ((c::r).drop (spanN nlB (c::r))) out
  else if letB (c.toNat:Int)=true then (if decide (32<((spanN idB (c::r):Nat):Int))=true then ([],(i:Int),53) else rxG f (i+spanN idB (c::r)) ((c::r).drop (spanN idB (c::r))) (out++[⟨0,(c::r).take (spanN idB (c::r)),(i:Int)⟩]))
  else if digB (c.toNat:Int)=true then
   (
    if greB (c::r)=true then ([],(i:Int),53)
    else if (decide (0<((c::r).drop (spanN digB (c::r))).length)&&letB ((((c::r).drop (spanN digB (c::r))).getD 0 0).toNat:Int)||((c.toNat:Int)==48&&decide (1<((spanN digB (c::r):Nat):Int))))=true then ([],(i:Int),50)
    else rxG f (i+spanN digB (c::r)) ((c::r).drop (spanN digB (c::r))) (out++[⟨1,(c::r).take (spanN digB (c::r)),(i:Int)⟩]))
  else if (decide (2≤(c::r).length)&&((c::r).take 2==[61,61]||(c::r).take 2==[33,61]||(c::r).take 2==[60,61]||(c::r).take 2==[62,61]||(c::r).take 2==[38,38]||(c::r).take 2==[124,124]))=true then rxG f (i+2) ((c::r).drop 2) (out++[⟨2,(c::r).take 2,(i:Int)⟩])
  else if oneB signs (c.toNat:Int)=true then rxG f (i+1) r (out++[⟨2,(c::r).take 1,(i:Int)⟩])
  else ([],(i:Int),50)
theorem getD_drop (s:List UInt8) (i k:Nat):(s.drop i).getD k 0=s.getD (i+k) 0:=by simp[List.getD,List.getElem?_drop]
theorem rxF_G (s:List UInt8):∀(f i:Nat) (out:List Tok),i≤s.length→rxF s f i out=rxG f i (s.drop i) out
 |0,i,out,_=>by cases s.drop i<;>rfl
 |f+1,i,out,hi=>by
  by_cases hlt:i<s.length
  ·have hd:s.drop i=s.getD i 0::s.drop (i+1):=by
    rw[List.drop_eq_getElem_cons hlt];simp[List.getD,hlt]
   have hlen:(s.drop i).length=s.length-i:=by simp
   have dd:∀k,(s.drop i).drop k=s.drop (i+k):=fun k=>by rw[List.drop_drop]
   have sp:=fun p=>spanN_le p (s.drop i)
   rw[hlen]at sp
   simp only[rxF]
   rw[if_neg (Nat.not_le.2 hlt)]
   have hG:rxG (f+1) i (s.drop i) out=rxG (f+1) i (s.getD i 0::s.drop (i+1)) out:=by rw[hd]
   rw[hG]
   simp only[rxG,← hd,dd]
   have hc:chI s i=((s.getD i 0).toNat:Int):=rfl
   rw[hc]
   have r1:∀out,rxF s f (i+1) out=rxG f (i+1) (s.drop (i+1)) out:=fun out=>rxF_G s f _ out hlt
   have rS:∀p out,rxF s f (i+spanN p (s.drop i)) out=rxG f (i+spanN p (s.drop i)) (s.drop (i+spanN p (s.drop i))) out:=fun p out=>rxF_G s f _ out (by have:=sp p;omega)
   have e1:decide (((i+spanN digB (s.drop i):Nat):Int)<(s.length:Int))=decide (0<(s.drop (i+spanN digB (s.drop i))).length):=by
    rw[decide_eq_decide,List.length_drop];omega
   have e2:chI s (i+spanN digB (s.drop i))=(((s.drop (i+spanN digB (s.drop i))).getD 0 0).toNat:Int):=by
    rw[getD_drop];rfl
   have e3:twoB s i=(decide (2≤(s.drop i).length)&&((s.drop i).take 2==[61,61]||(s.drop i).take 2==[33,61]||(s.drop i).take 2==[60,61]||(s.drop i).take 2==[62,61]||(s.drop i).take 2==[38,38]||(s.drop i).take 2==[124,124])):=by
    unfold twoB
    rw[show decide (((i+2:Nat):Int)≤(s.length:Int))=decide (2≤(s.drop i).length) by rw[decide_eq_decide,hlen];omega]
   rw[e1,e2,e3]
   split
   ·exact r1 _
   split
   ·exact rS _ _
   split
   ·split
    ·rfl
    ·exact rS _ _
   split
   ·split
    ·rfl
    split
    ·rfl
    ·exact rS _ _
   split
   ·rename_i h
    have h2:i+2≤s.length:=by
     simp only[Bool.and_eq_true,decide_eq_true_eq,hlen]at h;omega
    exact rxF_G s f _ _ h2
   split
   ·exact r1 _
   ·rfl
  ·have he:i=s.length:=by omega
   subst he
   simp only[rxF]
   rw[if_pos (Nat.le_refl _),List.drop_length]
   rfl
def kt (t:Tok):Int×List UInt8:=(t.k,t.t)
def Lx (p:List UInt8) (n:Nat) (ts:List (Int×List UInt8)):Prop:=
 ∀(f i:Nat) (r:List UInt8) (out:List Tok),∃o2,o2.map kt=ts∧rxG (f+n) i (p++r) out=rxG f (i+p.length) r (out++o2)
theorem Lx.app {p q:List UInt8} {n m:Nat} {ts us:List (Int×List UInt8)} (h:Lx p n ts) (k:Lx q m us):Lx (p++q) (n+m) (ts++us):=by
 intro f i r out
 obtain⟨o1,a1,a2⟩:=h (f+m) i (q++r) out
 obtain⟨o2,b1,b2⟩:=k f (i+p.length) r (out++o1)
 refine⟨o1++o2,by rw[List.map_append,a1,b1],?_⟩
 rw[List.append_assoc,show f+(n+m)=f+m+n by omega,a2,b2,List.length_append,Nat.add_assoc,List.append_assoc]
theorem Lx.nil:Lx [] 0 []:=fun f i r out=>⟨[],rfl,by simp⟩
theorem foldl_app (o2 out:List Tok):o2.foldl (fun o t=>o++[t]) out=out++o2:=by
 induction o2 generalizing out with
 |nil=>simp
 |cons a l ih=>rw[List.foldl_cons,ih,List.append_assoc];rfl
end Go.Proofs.YtodppgiaimihfabDoor
namespace Go.Proofs.YtodppgiaimihfabDoor
open Go Go.Sy Go.RowKit
abbrev Kt:=Int×List UInt8
structure Sfx (p:Pr) (ts:List Kt):Prop where
 ok:okP p
 e:p.e=0
 t:(p.l.drop p.i.toNat).map kt=ts
section
variable {p:Pr} {k:Int} {t:List UInt8} {ts:List Kt}
theorem Sfx.lt (h:Sfx p ((k,t)::ts)):p.i<(p.l.length:Int):=by
 have:=congrArg List.length h.t
 simp only[List.length_map,List.length_drop,List.length_cons]at this
 have:=h.ok.1
 omega
theorem Sfx.hd (h:Sfx p ((k,t)::ts)):(tk p).k=k∧(tk p).t=t:=by
 have hlt:=h.lt
 have h0:=h.ok.1
 have hi:p.i.toNat<p.l.length:=by omega
 have e:=h.t
 rw[List.drop_eq_getElem_cons hi,List.map_cons]at e
 have e1:=(List.cons.inj e).1
 have e2:tk p=p.l[p.i.toNat]:=by simp[tk,List.getD,hi]
 rw[e2]
 exact⟨congrArg Prod.fst e1,congrArg Prod.snd e1⟩
theorem Sfx.adv (h:Sfx p ((k,t)::ts)):Sfx (adv p) ts:=by
 have hlt:=h.lt
 have h0:=h.ok.1
 have hi:p.i.toNat<p.l.length:=by omega
 refine⟨(adv_nx h.ok hlt h.e).ok,h.e,?_⟩
 have e:=h.t
 rw[List.drop_eq_getElem_cons hi,List.map_cons]at e
 have ei:(Go.Proofs.YtodppgiaimihfabDoor.adv p).i.toNat=p.i.toNat+1:=by rw[adv_i h.ok hlt];omega
 show (p.l.drop (Go.Proofs.YtodppgiaimihfabDoor.adv p).i.toNat).map kt=ts
 rw[ei]
 exact(List.cons.inj e).2
theorem Sfx.isT (h:Sfx p ((k,t)::ts)) (u:List UInt8):isT u p=(k != 1&&t==u):=by
 obtain⟨h1,h2⟩:=h.hd
 have h3:=h.lt
 have h4:=h.e
 unfold Go.Proofs.YtodppgiaimihfabDoor.isT
 rw[h1,h2,h4]
 simp[h3]
theorem Sfx.nameB (h:Sfx p ((k,t)::ts)):nameB p=(k==0&&!wordB t):=by
 obtain⟨h1,h2⟩:=h.hd
 have h3:=h.lt
 have h4:=h.e
 unfold Go.Proofs.YtodppgiaimihfabDoor.nameB
 rw[h1,h2,h4]
 simp[h3]
theorem Sfx.outB (h:Sfx p ((k,t)::ts)):outB p=false:=by
 have h3:=h.lt
 unfold Go.Proofs.YtodppgiaimihfabDoor.outB
 rw[h.e]
 simp;omega
theorem Sfx.wan (h:Sfx p ((k,t)::ts)) (hk:(k != 1)=true):wanP t p=Go.Proofs.YtodppgiaimihfabDoor.adv p:=by
 unfold wanP
 rw[if_pos (by rw[h.isT,hk];simp)]
theorem Sfx.nam (h:Sfx p ((0,t)::ts)) (hw:wordB t=false):namP p=Go.Proofs.YtodppgiaimihfabDoor.adv p:=by
 unfold namP
 rw[if_pos (by rw[h.nameB,hw];rfl)]
theorem Sfx.nil (h:Sfx p []):p.i=(p.l.length:Int):=by
 have:=congrArg List.length h.t
 simp only[List.length_map,List.length_drop,List.length_nil]at this
 have:=h.ok.1
 have:=h.ok.2.1
 omega
theorem Sfx.len (h:Sfx p ts):(ts.length:Int)=(p.l.length:Int)-p.i:=by
 have:=congrArg List.length h.t
 simp only[List.length_map,List.length_drop]at this
 have:=h.ok.1
 have:=h.ok.2.1
 omega
end
def noOp (a:Kt):Prop:=∀u∈([[42],[47],[37],[45],[43]]:List (List UInt8)),(a.1 != 1&&a.2==u)=false
theorem sumL_no {u:Pr→R Ex} {p:Pr} {a:Kt} {ts:List Kt} (h:Sfx p (a::ts)) (ho:noOp a) (e:Ex):∀k,sumL u k e p=(e,p)
 |0=>rfl
 |k+1=>by
  simp only[sumL]
  rw[if_pos (by rw[h.e];rfl),if_neg (by rw[h.isT,ho [45] (by decide)];decide),if_neg (by rw[h.isT,ho [43] (by decide)];decide)]
theorem nxt_s {p:Pr} {ts:List Kt} (h:Sfx p ts):Sfx (nxt p) ts:=⟨h.ok,h.e,h.t⟩
theorem opn_s {p:Pr} {ts:List Kt} (h:Sfx p ts) (hd:p.deep<40):opnB p=true∧Sfx (opnP p) ts∧(opnP p).deep=p.deep+1:=by
 have hb:opnB p=true:=by unfold opnB;rw[h.e];simp;omega
 obtain⟨_,_,h3⟩:=opn_e h.ok hb
 exact⟨hb,⟨opn_ok h.ok hb,by rw[h3];exact h.e,by rw[h3];exact h.t⟩,by rw[h3]⟩
theorem fail_no {p:Pr} (hn:p.n<200):¬(knoB p&&decide (200≤p.n))=true:=by
 have:decide (200≤p.n)=false:=by simp;omega
 rw[this];simp
theorem stL_step {st:Pr→R Sm} {p:Pr} {a:Kt} {ts:List Kt} (h:Sfx p (a::ts)) (ha:(a.1 != 1&&a.2==[125])=false) (k:Nat) (acc:List Sm):stmtsL st (k+1) acc p=stmtsL st k (acc++[(st p).1]) (st p).2:=by
 have hlt:=h.lt
 simp only[stmtsL]
 rw[if_pos (by rw[h.e];rfl),if_neg (by rw[h.isT,ha];decide),if_neg (by simp;omega)]
theorem stL_end {st:Pr→R Sm} {p:Pr} {ts:List Kt} (h:Sfx p ((2,[125])::ts)) (k:Nat) (acc:List Sm):stmtsL st (k+1) acc p=(acc,adv p):=by
 simp only[stmtsL]
 rw[if_pos (by rw[h.e];rfl),if_pos (by rw[h.isT];rfl)]
end Go.Proofs.YtodppgiaimihfabDoor
