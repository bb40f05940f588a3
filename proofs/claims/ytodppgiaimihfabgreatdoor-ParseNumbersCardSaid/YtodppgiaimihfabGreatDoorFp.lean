/- Which place a number names. No conditions but those in each statement. -/
import Derived.Test.YtodppgiaimihfabGreatDoorMk5
import Derived.Test.YtodppgiaimihfabGreatDoorOp
import Derived.Test.YtodppgiaimihfabGreatDoorAt
import Derived.Test.YtodppgiaimihfabGreatDoorSo
set_option linter.unusedVariables false
set_option linter.unusedSimpArgs false
namespace Go.Proofs.YtodppgiaimihfabGreatDoor
open Go Go.Sy Go.RowKit
theorem cBy_d' (l:List Int):cBy.d (.one (.d (.sl zBy (l.map byD))))=some l:=cBy_d l
theorem zBy_ln:zBy.length=1:=rfl
noncomputable def rBy:RowC Int:=rowOf zBy byD by_inj fun _=>rfl
theorem rBy_e:rBy.e=byD:=rfl
theorem rBy_z:rBy.z=zBy:=rfl
def plF (k:Int):Int:=if decide (k.tmod 4<0)=true then w64i (k.tmod 4+4) else k.tmod 4
theorem tmodk (k:Int) : -4<k.tmod 4∧k.tmod 4<4:=by
 refine⟨?_,Int.tmod_lt_of_pos k (by decide)⟩
 have:=Int.tmod_lt_of_pos (-k) (b:=4) (by decide)
 rw[Int.neg_tmod]at this
 omega
theorem plF_in (k:Int):0≤plF k∧plF k<4:=by
 have:=tmodk k
 unfold plF
 split
 ·rename_i h
  have h:=of_decide_eq_true h
  unfold w64i;rw[wrap_i64 (by omega) (by omega)];omega
 ·rename_i h
  simp only[decide_eq_true_eq]at h
  omega
abbrev yc_Place (k:Int) (n:Int):Prop:=n=4
abbrev yr_Place (k:Int) (n:Int):SV:=SV.one (.v (.int .i64 (plF k)))
set_option maxRecDepth 20000 in set_option maxHeartbeats 4000000 in
theorem y_Place:CallsY Tryz.prog 9 (acS (cInt .i64) (acS (cInt .i64) ac0)) (fun p:(Int×(Int×Unit))=>yc_Place p.1 p.2.1) (fun p:(Int×(Int×Unit))=>yr_Place p.1 p.2.1):=by
 rintro ⟨k,n,_u⟩ w fz xs hc hfz hl hx
 refine calls_toL Tryz.func9 rfl w fz [] [] (acS (cInt .i64) (acS (cInt .i64) ac0)) (fun p:(Int×(Int×Unit))=>yr_Place p.1 p.2.1) _ xs hfz hl hx (Nat.le_of_ble_eq_true rfl) ?_
 clear hx hl hfz xs
 simp only[Tryz.f9]
 have hc:n=4:=hc
 subst hc
 have h1:=tmodk k
 cases h2:decide (k.tmod 4<0) with
 |true=>
  have hr:plF k=w64i (k.tmod 4+4):=by unfold plF;rw[if_pos h2]
  simp only[↓eB,seval,go_sem,h2]
  try simp only[impB,impN]
  repeat' first|exact ck|with_reducible apply And.intro|intro _
  all_goals first|exact h1|(rename_i h;first|exact oI h|exact nah h)|(rename_i _ h _ g;exact sL h g)|decide|omega|(refine ret_with [] ?_;simp only[↓eB,seval,go_sem,bne,yr_Place,hr])
 |false=>
  have hr:plF k=k.tmod 4:=by unfold plF;rw[if_neg (by rw[h2];decide)]
  simp only[↓eB,seval,go_sem,h2]
  try simp only[impB,impN]
  repeat' first|exact ck|with_reducible apply And.intro|intro _
  all_goals first|exact h1|(rename_i h;first|exact oI h|exact nah h)|(rename_i _ h _ g;exact sL h g)|decide|omega|(refine ret_with [] ?_;simp only[↓eB,seval,go_sem,bne,yr_Place,hr])
theorem yn_Place:∀p:(Int×(Int×Unit)),((fun p:(Int×(Int×Unit))=>yr_Place p.1 p.2.1) p).names=[]:=by intro p;first|rfl|simp[SV.names,C.names]
noncomputable def yp_Place {X:Ctx} {w0:World}:Sy.Spec Tryz.prog X w0:=specD 9 Tryz.call9 (acS (cInt .i64) (acS (cInt .i64) ac0)) (fun p:(Int×(Int×Unit))=>yc_Place p.1 p.2.1) (fun p:(Int×(Int×Unit))=>yr_Place p.1 p.2.1) yn_Place y_Place
end Go.Proofs.YtodppgiaimihfabGreatDoor
namespace Go.Proofs.YtodppgiaimihfabGreatDoor
open Go Go.Sy Go.RowKit
def rxG:Nat→Nat→List UInt8→List Tok→List Tok×Int×Int
 |0,_,_,out=>(out,0,0)
 |_+1,_,[],out=>(out,0,0)
 |f+1,i,c::r,out=>
  if blB (c.toNat:Int)=true then rxG f (i+1) r out
  else if ((c.toNat:Int)==35)=true then rxG f (i+spanN nlB (c::r)) ((c::r).drop (spanN nlB (c::r))) out
  else if letB (c.toNat:Int)=true then (if decide (32<((spanN idB (c::r):Nat):Int))=true then ([],(i:Int),53) else rxG f (i+spanN idB (c::r)) ((c::r).drop (spanN idB (c::r))) (out++[⟨0,(c::r).take (spanN idB (c::r)),(i:Int)⟩]))
  else if digB (c.toNat:Int)=true then
   (
    if greB (c::r)=true then ([],(i:Int),53)
    else if (decide (0<((c::r).drop (spanN digB (c::r))).length)&&letB ((((c::r).drop (spanN digB (c::r))).getD 0 0).toNat:Int)||((c.toNat:Int)==48&&decide (1<((spanN digB (c::r):Nat):Int))))=true then ([],(i:Int),50)
    else rxG f (i+spanN digB (c::r)) ((c::r).drop (spanN digB (c::r))) (out++[⟨1,(c::r).take (spanN digB (c::r)),(i:Int)⟩]))
  else if (decide (2≤(c::r).length)&&((c::r).take 2==[61,61]||(c::r).take 2==[33,61]||(c::r).take 2==[60,61]||(c::r).take 2==[62,61]||(c::r).take 2==[38,38]||(c::r).take 2==[124,124]))=true then rxG f (i+2) ((c::r).drop 2) (out++[⟨2,(c::r).take 2,(i:Int)⟩])
  else if oneB signs (c.toNat:Int)=true then rxG f (i+1) r (out++[⟨2,(c::r).take 1,(i:Int)⟩])
  else ([],(i:Int),50)
theorem getD_drop (s:List UInt8) (i k:Nat):(s.drop i).getD k 0=s.getD (i+k) 0:=by simp[List.getD,List.getElem?_drop]
theorem rxF_G (s:List UInt8):∀(f i:Nat) (out:List Tok),i≤s.length→rxF s f i out=rxG f i (s.drop i) out
 |0,i,out,_=>by cases s.drop i<;>rfl
 |f+1,i,out,hi=>by
  by_cases hlt:i<s.length
  ·have hd:s.drop i=s.getD i 0::s.drop (i+1):=by
    rw[List.drop_eq_getElem_cons hlt];simp[List.getD,hlt]
   have hlen:(s.drop i).length=s.length-i:=by simp
   have dd:∀k,(s.drop i).drop k=s.drop (i+k):=fun k=>by rw[List.drop_drop]
   have sp:=fun p=>spanN_le p (s.drop i)
   rw[hlen]at sp
   simp only[rxF]
   rw[if_neg (Nat.not_le.2 hlt)]
   have hG:rxG (f+1) i (s.drop i) out=rxG (f+1) i (s.getD i 0::s.drop (i+1)) out:=by rw[hd]
   rw[hG]
   simp only[rxG,← hd,dd]
   have hc:chI s i=((s.getD i 0).toNat:Int):=rfl
   rw[hc]
   have r1:∀out,rxF s f (i+1) out=rxG f (i+1) (s.drop (i+1)) out:=fun out=>rxF_G s f _ out hlt
   have rS:∀p out,rxF s f (i+spanN p (s.drop i)) out=rxG f (i+spanN p (s.drop i)) (s.drop (i+spanN p (s.drop i))) out:=fun p out=>rxF_G s f _ out (by have:=sp p;omega)
   have e1:decide (((i+spanN digB (s.drop i):Nat):Int)<(s.length:Int))=decide (0<(s.drop (i+spanN digB (s.drop i))).length):=by
    rw[decide_eq_decide,List.length_drop];omega
   have e2:chI s (i+spanN digB (s.drop i))=(((s.drop (i+spanN digB (s.drop i))).getD 0 0).toNat:Int):=by
    rw[getD_drop];rfl
   have e3:twoB s i=(decide (2≤(s.drop i).length)&&((s.drop i).take 2==[61,61]||(s.drop i).take 2==[33,61]||(s.drop i).take 2==[60,61]||(s.drop i).take 2==[62,61]||(s.drop i).take 2==[38,38]||(s.drop i).take 2==[124,124])):=by
    unfold twoB
    rw[show decide (((i+2:Nat):Int)≤(s.length:Int))=decide (2≤(s.drop i).length) by rw[decide_eq_decide,hlen];omega]
   rw[e1,e2,e3]
   split
   ·exact r1 _
   split
   ·exact rS _ _
   split
   ·split
    ·rfl
    ·exact rS _ _
   split
   ·split
    ·rfl
    split
    ·rfl
    ·exact rS _ _
   split
   ·rename_i h
    have h2:i+2≤s.length:=by
     simp only[Bool.and_eq_true,decide_eq_true_eq,hlen]at h;omega
    exact rxF_G s f _ _ h2
   split
   ·exact r1 _
   ·rfl
  ·have he:i=s.length:=by omega
   subst he
   simp only[rxF]
   rw[if_pos (Nat.le_refl _),List.drop_length]
   rfl
def kt (t:Tok):Int×List UInt8:=(t.k,t.t)
def Lx (p:List UInt8) (n:Nat) (ts:List (Int×List UInt8)):Prop:=
 ∀(f i:Nat) (r:List UInt8) (out:List Tok),∃o2,o2.map kt=ts∧rxG (f+n) i (p++r) out=rxG f (i+p.length) r (out++o2)
theorem Lx.app {p q:List UInt8} {n m:Nat} {ts us:List (Int×List UInt8)} (h:Lx p n ts) (k:Lx q m us):Lx (p++q) (n+m) (ts++us):=by
 intro f i r out
 obtain⟨o1,a1,a2⟩:=h (f+m) i (q++r) out
 obtain⟨o2,b1,b2⟩:=k f (i+p.length) r (out++o1)
 refine⟨o1++o2,by rw[List.map_append,a1,b1],?_⟩
 rw[List.append_assoc,show f+(n+m)=f+m+n by omega,a2,b2,List.length_append,Nat.add_assoc,List.append_assoc]
theorem Lx.nil:Lx [] 0 []:=fun f i r out=>⟨[],rfl,by simp⟩
theorem foldl_app (o2 out:List Tok):o2.foldl (fun o t=>o++[t]) out=out++o2:=by
 induction o2 generalizing out with
 |nil=>simp
 |cons a l ih=>rw[List.foldl_cons,ih,List.append_assoc];rfl
end Go.Proofs.YtodppgiaimihfabGreatDoor
namespace Go.Proofs.YtodppgiaimihfabGreatDoor
open Go Go.Sy Go.RowKit
abbrev Kt:=Int×List UInt8
structure Sfx (p:Pr) (ts:List Kt):Prop where
 ok:okP p
 e:p.e=0
 t:(p.l.drop p.i.toNat).map kt=ts
section
variable {p:Pr} {k:Int} {t:List UInt8} {ts:List Kt}
theorem Sfx.lt (h:Sfx p ((k,t)::ts)):p.i<(p.l.length:Int):=by
 have:=congrArg List.length h.t
 simp only[List.length_map,List.length_drop,List.length_cons]at this
 have:=h.ok.1
 omega
theorem Sfx.hd (h:Sfx p ((k,t)::ts)):(tk p).k=k∧(tk p).t=t:=by
 have hlt:=h.lt
 have h0:=h.ok.1
 have hi:p.i.toNat<p.l.length:=by omega
 have e:=h.t
 rw[List.drop_eq_getElem_cons hi,List.map_cons]at e
 have e1:=(List.cons.inj e).1
 have e2:tk p=p.l[p.i.toNat]:=by simp[tk,List.getD,hi]
 rw[e2]
 exact⟨congrArg Prod.fst e1,congrArg Prod.snd e1⟩
theorem Sfx.adv (h:Sfx p ((k,t)::ts)):Sfx (adv p) ts:=by
 have hlt:=h.lt
 have h0:=h.ok.1
 have hi:p.i.toNat<p.l.length:=by omega
 refine⟨(adv_nx h.ok hlt h.e).ok,h.e,?_⟩
 have e:=h.t
 rw[List.drop_eq_getElem_cons hi,List.map_cons]at e
 have ei:(Go.Proofs.YtodppgiaimihfabGreatDoor.adv p).i.toNat=p.i.toNat+1:=by rw[adv_i h.ok hlt];omega
 show (p.l.drop (Go.Proofs.YtodppgiaimihfabGreatDoor.adv p).i.toNat).map kt=ts
 rw[ei]
 exact(List.cons.inj e).2
theorem Sfx.isT (h:Sfx p ((k,t)::ts)) (u:List UInt8):isT u p=(k != 1&&t==u):=by
 obtain⟨h1,h2⟩:=h.hd
 have h3:=h.lt
 have h4:=h.e
 unfold Go.Proofs.YtodppgiaimihfabGreatDoor.isT
 rw[h1,h2,h4]
 simp[h3]
theorem Sfx.nameB (h:Sfx p ((k,t)::ts)):nameB p=(k==0&&!wordB t):=by
 obtain⟨h1,h2⟩:=h.hd
 have h3:=h.lt
 have h4:=h.e
 unfold Go.Proofs.YtodppgiaimihfabGreatDoor.nameB
 rw[h1,h2,h4]
 simp[h3]
theorem Sfx.outB (h:Sfx p ((k,t)::ts)):outB p=false:=by
 have h3:=h.lt
 unfold Go.Proofs.YtodppgiaimihfabGreatDoor.outB
 rw[h.e]
 simp;omega
theorem Sfx.wan (h:Sfx p ((k,t)::ts)) (hk:(k != 1)=true):wanP t p=Go.Proofs.YtodppgiaimihfabGreatDoor.adv p:=by
 unfold wanP
 rw[if_pos (by rw[h.isT,hk];simp)]
theorem Sfx.nam (h:Sfx p ((0,t)::ts)) (hw:wordB t=false):namP p=Go.Proofs.YtodppgiaimihfabGreatDoor.adv p:=by
 unfold namP
 rw[if_pos (by rw[h.nameB,hw];rfl)]
theorem Sfx.nil (h:Sfx p []):p.i=(p.l.length:Int):=by
 have:=congrArg List.length h.t
 simp only[List.length_map,List.length_drop,List.length_nil]at this
 have:=h.ok.1
 have:=h.ok.2.1
 omega
theorem Sfx.len (h:Sfx p ts):(ts.length:Int)=(p.l.length:Int)-p.i:=by
 have:=congrArg List.length h.t
 simp only[List.length_map,List.length_drop]at this
 have:=h.ok.1
 have:=h.ok.2.1
 omega
end
def noOp (a:Kt):Prop:=∀u∈([[42],[47],[37],[45],[43]]:List (List UInt8)),(a.1 != 1&&a.2==u)=false
theorem sumL_no {u:Pr→R Ex} {p:Pr} {a:Kt} {ts:List Kt} (h:Sfx p (a::ts)) (ho:noOp a) (e:Ex):∀k,sumL u k e p=(e,p)
 |0=>rfl
 |k+1=>by
  simp only[sumL]
  rw[if_pos (by rw[h.e];rfl),if_neg (by rw[h.isT,ho [45] (by decide)];decide),if_neg (by rw[h.isT,ho [43] (by decide)];decide)]
theorem nxt_s {p:Pr} {ts:List Kt} (h:Sfx p ts):Sfx (nxt p) ts:=⟨h.ok,h.e,h.t⟩
theorem opn_s {p:Pr} {ts:List Kt} (h:Sfx p ts) (hd:p.deep<40):opnB p=true∧Sfx (opnP p) ts∧(opnP p).deep=p.deep+1:=by
 have hb:opnB p=true:=by unfold opnB;rw[h.e];simp;omega
 obtain⟨_,_,h3⟩:=opn_e h.ok hb
 exact⟨hb,⟨opn_ok h.ok hb,by rw[h3];exact h.e,by rw[h3];exact h.t⟩,by rw[h3]⟩
theorem fail_no {p:Pr} (hn:p.n<200):¬(knoB p&&decide (200≤p.n))=true:=by
 have:decide (200≤p.n)=false:=by simp;omega
 rw[this];simp
theorem stL_step {st:Pr→R Sm} {p:Pr} {a:Kt} {ts:List Kt} (h:Sfx p (a::ts)) (ha:(a.1 != 1&&a.2==[125])=false) (k:Nat) (acc:List Sm):stmtsL st (k+1) acc p=stmtsL st k (acc++[(st p).1]) (st p).2:=by
 have hlt:=h.lt
 simp only[stmtsL]
 rw[if_pos (by rw[h.e];rfl),if_neg (by rw[h.isT,ha];decide),if_neg (by simp;omega)]
theorem stL_end {st:Pr→R Sm} {p:Pr} {ts:List Kt} (h:Sfx p ((2,[125])::ts)) (k:Nat) (acc:List Sm):stmtsL st (k+1) acc p=(acc,adv p):=by
 simp only[stmtsL]
 rw[if_pos (by rw[h.e];rfl),if_pos (by rw[h.isT];rfl)]
end Go.Proofs.YtodppgiaimihfabGreatDoor
