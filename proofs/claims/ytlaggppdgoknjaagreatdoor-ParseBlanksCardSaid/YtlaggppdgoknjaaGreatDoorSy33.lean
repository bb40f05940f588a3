/- A body that may panic. No conditions but those in each statement. -/
import Derived.Test.YtlaggppdgoknjaaGreatDoorPq1
import Derived.Test.YtlaggppdgoknjaaGreatDoorSo
import Derived.Test.YtlaggppdgoknjaaGreatDoorTie
import Derived.Shelf.Strconv.ParseIntPublic10
import Derived.Shelf.Lay
import Derived.Shelf.LaysC
set_option linter.unusedVariables false
set_option linter.unusedSimpArgs false
namespace Go.Sy
open Go Go.RowKit
def pnOf (b:Bool) (q:MV):Option (List (Nat×List C×List (List C))):=if b=true then some [(0,q)] else none
theorem pnOf_t (q:MV):pnOf true q=some [(0,q)]:=rfl
theorem pnOf_f (q:MV):pnOf false q=none:=rfl
abbrev mXP (M fz:Nat→Prop) (I:Nm) (n:Nat) (b:Bool) (q:MV):Ctx:=⟨M,fz,memF I 0 n,pnOf b q,[],[]⟩
theorem at_ctx {X X':Ctx} {w0 w:World} {I:Nm} {lab:Lab} {fz:Nat→Prop} {H:Hp} (hM:X'.M=X.M) (hZ:X'.Z=X.Z) (hF:X'.F=X.F) (h:AtW X w0 I lab fz H w):AtW X' w0 I lab fz H w:=
 ⟨h.h,h.wf,by rw[hM];exact h.own,h.fzl,by rw[hM,hZ];exact h.fzo,by rw[hM];exact h.kept,by rw[hF];exact h.fix⟩
def RESMP (b:Bool) (r:SV) (m':List (Option MV)):St→List SV→Prop:=fun s vs=>b=false∧RESML r m' s vs
theorem e_RESMP (b:Bool) (r:SV) (m':List (Option MV)) (s:St) (vs:List SV):RESMP b r m' s vs=(b=false∧RESML r m' s vs):=rfl
section
variable {P:Program}
theorem calls_toMP {f:FuncId} {fn:Func} {c:Code} (hf:P.funcs[f]?=some fn) (hb:fn.body=some c) (m0:MV) (w:World) (M:Nat→Prop) (I:Nm) (lab:Lab) (fz:Nat→Prop) (bad:Bool) (q:MV) (sp:List (Spec P (mXP M fz I 1 bad q) w)) (g:Gh) (args:List SV) (R:SV)
  (xs:List Value) (hA:AtW (mX M fz I 1) w I lab fz (lkp (memH 0 [m0])) w) (hlen:xs.length=args.length) (hx:∀(j:Nat) (v:SV) (x:Value),args[j]?=some v→xs[j]?=some x→SDen (hp w) fz lab I (lkp (memH 0 [m0])) v x)
  (hnm:∀v∈args,∀k∈v.names,k<1) (hn:args.length≤fn.ntmps) (hq:∀r∈q.2,∀c∈r,c.names=[])
  (h:vc (mXP M fz I 1 bad q) w sp fn.ntmps g c ⟨argE 0 args,memH 0 [m0]⟩ (retQ P (mXP M fz I 1 bad q) fn.results.toList (RESMP bad R [some q]))) :
  Calls P f xs.toArray w (fun en w'=>(bad=false∧MPost w M fz I 1 [some q] R en w')∨(bad=true∧∃ch,en= .panicked ch∧okCh ch∧∃I' lab' fz',AtW (mX M fz I 1) w I' lab' fz' (lkp (memO 0 [some q])) w')):=by
 refine calls_of_wp hf hb (Code.wp_mono ?_ (vc_ok sp g c _ _ h _ w ?_))
 ·rintro e a w' (⟨s,hq',hs⟩|⟨ch,rfl,hd,hch,I1,l1,f1,H1,hA1,hpn⟩)
  ·have fin:RetP P (mXP M fz I 1 bad q) fn.results.toList (RESMP bad R [some q]) s→a.defers=[]∧∃v,(results fn a.tmps).run P w'= .ok v w'∧((bad=false∧MPost w M fz I 1 [some q] R (Ending.returned v) w')∨(bad=true∧∃ch,Ending.returned v= .panicked ch∧okCh ch∧∃I' lab' fz',AtW (mX M fz I 1) w I' lab' fz' (lkp (memO 0 [some q])) w')):=by
    rintro ⟨cs,s',vs,h1,h2,h3,h0,h4,h5,h6⟩
    refine⟨hs.defers,?_⟩
    obtain⟨_,I',lab',fz',hA'⟩:=runCs_ent h1 a w' hs
    obtain⟨x,x1,x2⟩:=results_ok hA' h2 h3
    refine⟨x,x1,.inl ⟨h0,x,I',lab',fz',rfl,at_sub (at_ctx (X:=mXP M fz I 1 bad q) (X':=mX M fz I 1) rfl rfl rfl hA'.m) h6 (fun p hp'=>?_),sd_le h4 (sd_noVw h5 x2)⟩⟩
    obtain⟨q1,q2,_⟩:=mem_memF hp'
    exact memO_keys _ _ _ q1 (by simpa using q2)
   cases e with
   |normal=>exact fin hq'
   |ret=>exact fin hq'
   |_=>exact hq'.elim
  ·have hbt:bad=true:=by
    cases bad with
    |true=>rfl
    |false=>exact hpn.elim
   subst hbt
   obtain⟨hk0,_⟩:=(show pnAll [(0,q)] H1 from hpn)
   cases hk:H1 0 with
   |none=>rw[hk]at hk0;exact hk0.elim
   |some ch0=>
   rw[hk]at hk0
   cases ch0 with
   |dead=>exact hk0.elim
   |mp=>exact hk0.elim
   |fact=>exact hk0.elim
   |vec u z es=>
   obtain⟨hz,hw⟩:=hk0
   have hc0:=hA1.h 0 _ hk
   refine⟨hd.1,.inr ⟨rfl,ch,rfl,hch,I1,l1,f1,?_,?_,hA1.own,hA1.fzl,hA1.fzo,hA1.kept,fun p hp'=>⟨?_,(hA1.fix p hp').2⟩⟩⟩
   ·intro k ch hk2
    rw[lkp_mem0]at hk2
    match k,hk2 with
    |0,hk2=>
     simp only[List.getElem?_cons_zero,Option.map_some,chO,Option.some.injEq]at hk2
     subst hk2
     obtain⟨c1,c2,c3⟩:=hc0
     exact⟨c1,by rw[c2,← hz],by rw[← hz];exact vec_weak c3 (wkL_weak hw)⟩
    |k+1,hk2=>simp at hk2
   ·intro k ch hk2 n hn'
    rw[lkp_mem0]at hk2
    match k,hk2 with
    |0,hk2=>
     simp only[List.getElem?_cons_zero,Option.map_some,chO,Option.some.injEq]at hk2
     subst hk2
     obtain⟨r,hr,hn'⟩:=List.mem_flatMap.1 hn'
     obtain⟨c,hc,hn'⟩:=List.mem_flatMap.1 hn'
     rw[hq r hr c hc]at hn';cases hn'
    |k+1,hk2=>simp at hk2
   ·obtain⟨q1,q2,_⟩:=mem_memF hp'
    rw[lkp_mem0]
    have:p.1=0:=by omega
    rw[this];rfl
 ·refine⟨?_,I,lab,fz,?_,⟨rfl,fun p hp=>by cases hp⟩,?_,at_ctx (X:=mX M fz I 1) (X':=mXP M fz I 1 bad q) rfl rfl rfl hA⟩
  ·intro t g v ht _ k hk
   rw[argE_lkp]at ht
   simp only[Nat.zero_le,if_true,Nat.sub_zero,Option.map_eq_some_iff,Prod.mk.injEq]at ht
   obtain⟨u,hu,rfl,rfl⟩:=ht
   have:=hnm u (List.mem_of_getElem? hu) k hk
   show (lkp (memH 0 [m0]) k).isSome=true
   rw[memH,lkp_mem0]
   simp[this]
  ·simp[hlen];omega
  ·intro t g v ht
   rw[argE_lkp]at ht
   simp only[Nat.zero_le,if_true,Nat.sub_zero,Option.map_eq_some_iff,Prod.mk.injEq]at ht
   obtain⟨u,hu,rfl,rfl⟩:=ht
   have hlt:t<args.length:=(List.getElem?_eq_some_iff.1 hu).1
   have hlt2:t<xs.length:=by omega
   refine⟨xs[t],?_,?_⟩
   ·rw[Array.getElem?_append_left (by simpa using hlt2)]
    simp[hlt2]
   ·simp only[if_true]
    exact hx t u _ hu (List.getElem?_eq_getElem hlt2)
end
attribute [go_sem] specMP_f specMP_fn spMP_some upd_e pnOf_t pnOf_f
end Go.Sy
namespace Go.Proofs.YtlaggppdgoknjaaGreatDoor
open Go Go.Sy Go.RowKit
def Pr.s (p:Pr):List D:=[.sl zTk (p.l.map Tok.r),dI p.i,dI p.en,dI p.deep,dI p.n,dI p.at',dI p.e]
def Pr.q (p:Pr):List C:=[.d (.sl zTk (p.l.map Tok.r)),.v (.int .i64 p.i),.v (.int .i64 p.en),.v (.int .i64 p.deep),.v (.int .i64 p.n),.v (.int .i64 p.at'),.v (.int .i64 p.e)]
def Pr.x (p:Pr):List C:=[.any,.any,.any,.any,.any,.v (.int .i64 p.at'),.v (.int .i64 p.e)]
def zPqD:List D:=[dL0,dI 0,dI 0,dI 0,dI 0,dI 0,dI 0]
abbrev zPq:List C:=[.v (.int .i64 0),.v (.int .i64 0),.v (.int .i64 0),.v (.int .i64 0),.v (.int .i64 0),.v (.int .i64 0),.v (.int .i64 0)]
theorem prs_inj (a b:Pr) (h:a.s=b.s):a=b:=by
 obtain⟨l,i,en,e,at',deep,n⟩:=a
 obtain⟨l',i',en',e',at2,deep',n'⟩:=b
 simp only[Pr.s,List.cons.injEq,D.v.injEq,D.sl.injEq,Value.int.injEq,true_and,and_true]at h
 obtain⟨h1,rfl,rfl,rfl,rfl,rfl,rfl⟩:=h
 rw[map_inj tk_inj h1]
theorem prq_inj (a b:Pr) (h:a.q=b.q):a=b:=by
 obtain⟨l,i,en,e,at',deep,n⟩:=a
 obtain⟨l',i',en',e',at2,deep',n'⟩:=b
 simp only[Pr.q,List.cons.injEq,C.v.injEq,C.d.injEq,D.sl.injEq,Value.int.injEq,true_and,and_true]at h
 obtain⟨h1,rfl,rfl,rfl,rfl,rfl,rfl⟩:=h
 rw[map_inj tk_inj h1]
noncomputable def rPq:RowC Pr:=rowOf zPqD Pr.s prs_inj fun _=>rfl
theorem prq_nm (p:Pr):∀c∈p.q,c.names=[]:=by
 intro c hc
 simp only[Pr.q,List.mem_cons,List.not_mem_nil,or_false]at hc
 rcases hc with rfl|rfl|rfl|rfl|rfl|rfl|rfl<;>rfl
theorem prx_nm (p:Pr):∀c∈p.x,c.names=[]:=by
 intro c hc
 simp only[Pr.x,List.mem_cons,List.not_mem_nil,or_false]at hc
 rcases hc with rfl|rfl|rfl|rfl|rfl|rfl|rfl<;>rfl
noncomputable def mPq:RowM Pr:=rowMOf zPq Pr.q prq_nm
theorem rPq_z:rPq.z=zPqD:=rfl
theorem rPq_e:rPq.e=Pr.s:=rfl
theorem rPq_d (l:List Tok) (i en e at' deep n:Int):rPq.d [.sl zTk (l.map Tok.r),dI i,dI en,dI deep,dI n,dI at',dI e]=some ⟨l,i,en,e,at',deep,n⟩:=rPq.i ⟨l,i,en,e,at',deep,n⟩
theorem mPq_z:mPq.z=zPq:=rfl
theorem mPq_e:mPq.e=Pr.q:=rfl
theorem mPq_d (l:List Tok) (i en e at' deep n:Int):mPq.d [.d (.sl zTk (l.map Tok.r)),.v (.int .i64 i),.v (.int .i64 en),.v (.int .i64 deep),.v (.int .i64 n),.v (.int .i64 at'),.v (.int .i64 e)]=some ⟨l,i,en,e,at',deep,n⟩:=rowMOf_d prq_inj ⟨l,i,en,e,at',deep,n⟩
theorem rPq_d' (l:List Tok) (i en e at' deep n:Int):rPq.d [.sl [D.v (Value.int IntKind.i64 0),D.v (Value.string (bs [])),D.v (Value.int IntKind.i64 0)] (l.map Tok.r),.v (.int .i64 i),.v (.int .i64 en),.v (.int .i64 deep),.v (.int .i64 n),.v (.int .i64 at'),.v (.int .i64 e)]=some ⟨l,i,en,e,at',deep,n⟩:=rPq_d l i en e at' deep n
theorem mPq_d' (l:List Tok) (i en e at' deep n:Int):mPq.d [.d (.sl [D.v (Value.int IntKind.i64 0),D.v (Value.string (bs [])),D.v (Value.int IntKind.i64 0)] (l.map Tok.r)),.v (.int .i64 i),.v (.int .i64 en),.v (.int .i64 deep),.v (.int .i64 n),.v (.int .i64 at'),.v (.int .i64 e)]=some ⟨l,i,en,e,at',deep,n⟩:=mPq_d l i en e at' deep n
theorem memq_nm (p:Pr):∀q,some q∈[some ((zPq,[p.q]):MV)]→∀r∈q.2,∀c∈r,c.names=[]:=by
 intro q hq r hr c hc
 simp only[List.mem_singleton,Option.some.injEq]at hq
 subst hq
 simp only[List.mem_singleton]at hr
 subst hr
 exact prq_nm p c hc
def Pr.w (p:Pr):MV:=if (p.e==0)=true then (zPq,[p.q]) else (zPq,[p.x])
def Pr.b (p:Pr):Bool:=!(p.e==0)
theorem memw_nm (p:Pr):∀q,some q∈[some p.w]→∀r∈q.2,∀c∈r,c.names=[]:=by
 intro q hq r hr c hc
 simp only[List.mem_singleton,Option.some.injEq]at hq
 subst hq
 unfold Pr.w at hr
 split at hr<;>(simp only[List.mem_singleton]at hr;subst hr)
 ·exact prq_nm p c hc
 ·exact prx_nm p c hc
theorem w_t {p:Pr} (h:(p.e==0)=true):p.w=(zPq,[p.q]):=by unfold Pr.w;rw[if_pos h]
theorem w_f {p:Pr} (h:(p.e==0)=false):p.w=(zPq,[p.x]):=by unfold Pr.w;rw[if_neg (by rw[h];decide)]
theorem b_t {p:Pr} (h:(p.e==0)=true):p.b=false:=by unfold Pr.b;rw[h];rfl
theorem b_f {p:Pr} (h:(p.e==0)=false):p.b=true:=by unfold Pr.b;rw[h];rfl
structure okQ (p:Pr):Prop where
 ok:okP p
 e:p.e=0
 l:lexd p.l
theorem okQ.i {p:Pr} (h:okQ p):okI p:=h.ok.i
theorem okQ.e' {p:Pr} (h:okQ p):(p.e==0)=true:=by rw[h.e];rfl
theorem okQ.nx {p q:Pr} (h:okQ p) (k:Nx p q) (he:(q.e==0)=true):okQ q:=⟨k.ok,by simpa using he,by rw[k.l];exact h.l⟩
theorem pan {p q:Pr} (k:p.e≠0→q.e=p.e∧q.at'=p.at') (he:(p.e==0)=false):(q.e==0)=false∧q.x=p.x:=by
 obtain⟨h1,h2⟩:=k (by simpa using he)
 refine⟨by rw[h1];exact he,?_⟩
 unfold Pr.x;rw[h1,h2]
theorem failP_x {c:Int} {p:Pr} (h:p.e=0):(failP c p).at'=(if decide (p.i<(p.l.length:Int))=true then (tk p).p else p.en)∧(failP c p).e=c:=by
 unfold failP;rw[if_pos (by rw[h];rfl)];exact⟨rfl,rfl⟩
end Go.Proofs.YtlaggppdgoknjaaGreatDoor
namespace Go.Proofs
open Go.Shelf
 shelf_lay LaysC.n174 Nm 174 at Tryz as Tryz.laysC174
end Go.Proofs
namespace Go.Proofs.YtlaggppdgoknjaaGreatDoor
open Go Go.Sy Go.RowKit
theorem tkq_at (l:List Tok) (i:Nat):(l.map Tok.r).getD i [D.v (Value.int IntKind.i64 0),D.v (Value.string (bs [])),D.v (Value.int IntKind.i64 0)]=Tok.r (l.getD i tk0):=tk_getD l i
def endB (p:Pr):Bool:=p.i==(p.l.length:Int)
def plcI (p:Pr):Int:=if endB p=true then p.en else (tk p).p
def ahT (n:Int) (p:Pr):List UInt8:=if decide ((p.l.length:Int)≤w64i (p.i+n))=true then [] else (tkA p (w64i (p.i+n))).t
def kdB (k:Int) (p:Pr):Bool:=!endB p&&(tk p).k==k
theorem end_f {p:Pr} (h:okI p) (he:endB p=false):p.i<(p.l.length:Int):=by
 obtain⟨h1,h2,h3⟩:=h
 have:¬p.i=(p.l.length:Int):=by simpa [endB] using he
 omega
abbrev yc_qended (p:Pr):Prop:=okI p
abbrev yr_qended (p:Pr):Value:=Value.bool (endB p)
attribute [local go_sem] Pr.s Tok.r cPt_d cPt_e pr_eta ptR rPq_d' rPq_e rPq_z tkq_at yr_qended zTk
theorem y_qended:CallsR Tryz.prog 24 (ahS (cPt rPq) ah0) (fun p:(Pr×Unit)=>yc_qended p.1) (fun p:(Pr×Unit)=>ofV (yr_qended p.1)):=by
 rintro ⟨p,_u⟩ w fz xs hc hfz hl hx
 refine calls_toRL Tryz.func24 rfl w fz [] [] (ahS (cPt rPq) ah0) (fun p:(Pr×Unit)=>ofV (yr_qended p.1)) _ xs hfz hl hx (Nat.le_of_ble_eq_true rfl) ?_
 clear hx hl hfz xs
 simp only[Tryz.f24]
 simp only[↓eB,seval,go_sem]
 try simp only[impB,impN]
 repeat' first|exact ck|with_reducible apply And.intro|intro _
 all_goals try simp only[bne,Bool.not_eq_true',Bool.not_eq_false',Bool.not_not] at*
 all_goals first
  |(refine ret_with [] ?_;simp only[↓eB,seval,go_sem,bne,endB];first|done|(simp only[*,if_true,if_false,Bool.false_eq_true,Bool.true_or,Bool.or_true,Bool.false_or,Bool.or_false,Bool.and_false,Bool.false_and,Bool.true_and,Bool.and_true,Bool.not_true,Bool.not_false,Bool.or_self,Bool.and_self,Int.reduceEq,Int.reduceNeg,Nat.reduceEqDiff,reduceCtorEq,dec_T,dec_F,leC_same,leC_nil,and_self,↓reduceIte];done)|(simp_all [endB];done))
  |omega
  |(simp only[decide_eq_true_eq,decide_eq_false_iff_not]at *;omega)
  |(simp_all [endB];done)
  |(simp_all [endB];omega)
  |trace_state
theorem yh_qended:∀p:(Pr×Unit),okV ((fun p:(Pr×Unit)=>yr_qended p.1) p)=true:=by intro p;rfl
noncomputable def yp_qended {X:Ctx} {w0:World}:Sy.Spec Tryz.prog X w0:=specR 24 Tryz.call24 (ahS (cPt rPq) ah0) (fun p:(Pr×Unit)=>yc_qended p.1) (fun p:(Pr×Unit)=>yr_qended p.1) yh_qended y_qended
abbrev yc_qplace (p:Pr):Prop:=okI p
abbrev yr_qplace (p:Pr):Value:=Value.int .i64 (plcI p)
theorem y_qplace:CallsR Tryz.prog 65 (ahS (cPt rPq) ah0) (fun p:(Pr×Unit)=>yc_qplace p.1) (fun p:(Pr×Unit)=>ofV (yr_qplace p.1)):=by
 rintro ⟨p,_u⟩ w fz xs hc hfz hl hx
 refine calls_toRL Tryz.func65 rfl w fz [yp_qended] [] (ahS (cPt rPq) ah0) (fun p:(Pr×Unit)=>ofV (yr_qplace p.1)) _ xs hfz hl hx (Nat.le_of_ble_eq_true rfl) ?_
 clear hx hl hfz xs
 simp only[Tryz.f65]
 simp only[↓eB,seval,go_sem,yp_qended]
 have h0:0≤p.i:=okI0 hc
 have hl:endB p=false→p.i<(p.l.length:Int):=end_f hc
 try simp only[impB,impN]
 repeat' first|exact ck|with_reducible apply And.intro|intro _
 all_goals try simp only[bne,Bool.not_eq_true',Bool.not_eq_false',Bool.not_not] at*
 all_goals first
  |((exact hc);done)
  |((exact hl (by assumption));done)
  |(refine ret_with [] ?_;simp only[↓eB,seval,go_sem,bne,yr_qplace,plcI,tk];first|done|(simp only[*,if_true,if_false,Bool.false_eq_true,Bool.true_or,Bool.or_true,Bool.false_or,Bool.or_false,Bool.and_false,Bool.false_and,Bool.true_and,Bool.and_true,Bool.not_true,Bool.not_false,Bool.or_self,Bool.and_self,Int.reduceEq,Int.reduceNeg,Nat.reduceEqDiff,reduceCtorEq,dec_T,dec_F,leC_same,leC_nil,and_self,↓reduceIte];done)|(simp_all [plcI,tk];done))
  |omega
  |(simp only[decide_eq_true_eq,decide_eq_false_iff_not]at *;omega)
  |(simp_all [plcI,tk];done)
  |(simp_all [plcI,tk];omega)
  |trace_state
theorem yh_qplace:∀p:(Pr×Unit),okV ((fun p:(Pr×Unit)=>yr_qplace p.1) p)=true:=by intro p;rfl
noncomputable def yp_qplace {X:Ctx} {w0:World}:Sy.Spec Tryz.prog X w0:=specR 65 Tryz.call65 (ahS (cPt rPq) ah0) (fun p:(Pr×Unit)=>yc_qplace p.1) (fun p:(Pr×Unit)=>yr_qplace p.1) yh_qplace y_qplace
abbrev yc_qahead (p:Pr) (n:Int):Prop:=okI p∧0≤n∧n≤5
abbrev yr_qahead (p:Pr) (n:Int):Value:=Value.string (bs (ahT n p))
theorem y_qahead:CallsR Tryz.prog 62 (ahS (cPt rPq) (ahS ((cInt .i64).H) ah0)) (fun p:(Pr×(Int×Unit))=>yc_qahead p.1 p.2.1) (fun p:(Pr×(Int×Unit))=>ofV (yr_qahead p.1 p.2.1)):=by
 rintro ⟨p,n,_u⟩ w fz xs hc hfz hl hx
 refine calls_toRL Tryz.func62 rfl w fz [] [] (ahS (cPt rPq) (ahS ((cInt .i64).H) ah0)) (fun p:(Pr×(Int×Unit))=>ofV (yr_qahead p.1 p.2.1)) _ xs hfz hl hx (Nat.le_of_ble_eq_true rfl) ?_
 clear hx hl hfz xs
 simp only[Tryz.f62]
 obtain⟨hc,hn0,hn5⟩:=hc
 dsimp only at hc hn0 hn5
 have h0:0≤p.i:=okI0 hc
 have e1:IntKind.i64.wrap (p.i+n)=p.i+n:=by obtain⟨h1,h2,h3⟩:=hc;exact wrap_i64 (by omega) (by omega)
 cases hl:decide ((p.l.length:Int)≤p.i+n) with
 |true=>
  have hr:ahT n p=[]:=by unfold ahT w64i;rw[e1,if_pos hl]
  simp only[↓eB,seval,go_sem,e1,hl]
  try simp only[impB,impN]
  repeat' first|exact ck|with_reducible apply And.intro|intro _
  all_goals first|(rename_i h;first|exact oI h|exact nah h)|(rename_i _ h _ g;exact sL h g)|decide|omega|(refine ret_with [] ?_;simp only[↓eB,seval,go_sem,bne,yr_qahead,hr])
 |false=>
  have hr:ahT n p=(p.l.getD (p.i+n).toNat tk0).t:=by unfold ahT tkA w64i;rw[e1,if_neg (by rw[hl];decide)]
  have z1:(0≤p.i+n)=True:=by simp;omega
  have z2:(p.i+n<(p.l.length:Int))=True:=by simp at hl ⊢;omega
  simp only[↓eB,seval,go_sem,e1,hl,z1,z2]
  try simp only[impB,impN]
  repeat' first|exact ck|with_reducible apply And.intro|intro _
  all_goals first|(rename_i h;first|exact oI h|exact nah h)|(rename_i _ h _ g;exact sL h g)|decide|omega|(refine ret_with [] ?_;simp only[↓eB,seval,go_sem,bne,yr_qahead,hr])
theorem yh_qahead:∀p:(Pr×(Int×Unit)),okV ((fun p:(Pr×(Int×Unit))=>yr_qahead p.1 p.2.1) p)=true:=by intro p;rfl
noncomputable def yp_qahead {X:Ctx} {w0:World}:Sy.Spec Tryz.prog X w0:=specR 62 Tryz.call62 (ahS (cPt rPq) (ahS ((cInt .i64).H) ah0)) (fun p:(Pr×(Int×Unit))=>yc_qahead p.1 p.2.1) (fun p:(Pr×(Int×Unit))=>yr_qahead p.1 p.2.1) yh_qahead y_qahead
theorem ah_0 {t:List UInt8} {p:Pr} (h:okQ p) (ht:sgT t=true):(ahT 0 p==t)=isT t p:=by
 rw[← isQ_T h.i h.e h.l ht]
 obtain⟨h1,h2,h3⟩:=h.i
 have e1:w64i (p.i+0)=p.i:=by unfold w64i;rw[wrap_i64 (by omega) (by omega)];omega
 unfold ahT isQ
 rw[e1]
 cases hd:decide ((p.l.length:Int)≤p.i) with
 |true=>
  have h4:decide (p.i<(p.l.length:Int))=false:=by simp at hd ⊢;omega
  rw[h4,if_pos rfl,Bool.false_and]
  cases t with
  |nil=>cases ht
  |cons b r=>rfl
 |false=>
  have h4:decide (p.i<(p.l.length:Int))=true:=by simp at hd ⊢;omega
  rw[h4,if_neg (by decide),Bool.true_and];rfl
abbrev yc_qis (p:Pr) (t:List UInt8):Prop:=okQ p∧sgT t=true
abbrev yr_qis (p:Pr) (t:List UInt8):Value:=Value.bool (isT t p)
theorem y_qis:CallsR Tryz.prog 47 (ahS (cPt rPq) (ahS (cStr.H) ah0)) (fun p:(Pr×(List UInt8×Unit))=>yc_qis p.1 p.2.1) (fun p:(Pr×(List UInt8×Unit))=>ofV (yr_qis p.1 p.2.1)):=by
 rintro ⟨p,t,_u⟩ w fz xs hc hfz hl hx
 refine calls_toRL Tryz.func47 rfl w fz [yp_qahead] [] (ahS (cPt rPq) (ahS (cStr.H) ah0)) (fun p:(Pr×(List UInt8×Unit))=>ofV (yr_qis p.1 p.2.1)) _ xs hfz hl hx (Nat.le_of_ble_eq_true rfl) ?_
 clear hx hl hfz xs
 simp only[Tryz.f47]
 obtain⟨hq,ht⟩:=hc;have hI:=hq.i;have e1:=ah_0 hq ht
 all_goals simp only[↓eB,seval,go_sem,yp_qahead,yr_qahead]
 try simp only[impB,impN]
 repeat' first|exact ck|with_reducible apply And.intro|intro _
 all_goals try simp only[bne,Bool.not_eq_true',Bool.not_eq_false',Bool.not_not] at*
 all_goals first
  |(exact hI;done)
  |(refine ret_with [] ?_;simp only[↓eB,seval,go_sem,bne,yr_qis,e1];first|done|(simp only[*,if_true,if_false,Bool.false_eq_true,Bool.true_or,Bool.or_true,Bool.false_or,Bool.or_false,Bool.and_false,Bool.false_and,Bool.true_and,Bool.and_true,Bool.not_true,Bool.not_false,Bool.or_self,Bool.and_self,Int.reduceEq,Int.reduceNeg,Nat.reduceEqDiff,reduceCtorEq,dec_T,dec_F,leC_same,leC_nil,and_self,↓reduceIte];done)|(simp_all [e1];done))
  |omega
  |(simp only[decide_eq_true_eq,decide_eq_false_iff_not]at *;omega)
  |(simp_all [e1];done)
  |(simp_all [e1];omega)
  |trace_state
theorem yh_qis:∀p:(Pr×(List UInt8×Unit)),okV ((fun p:(Pr×(List UInt8×Unit))=>yr_qis p.1 p.2.1) p)=true:=by intro p;rfl
noncomputable def yp_qis {X:Ctx} {w0:World}:Sy.Spec Tryz.prog X w0:=specR 47 Tryz.call47 (ahS (cPt rPq) (ahS (cStr.H) ah0)) (fun p:(Pr×(List UInt8×Unit))=>yc_qis p.1 p.2.1) (fun p:(Pr×(List UInt8×Unit))=>yr_qis p.1 p.2.1) yh_qis y_qis
abbrev yc_qisKind (p:Pr) (k:Int):Prop:=okI p
abbrev yr_qisKind (p:Pr) (k:Int):Value:=Value.bool (kdB k p)
theorem y_qisKind:CallsR Tryz.prog 57 (ahS (cPt rPq) (ahS ((cInt .i64).H) ah0)) (fun p:(Pr×(Int×Unit))=>yc_qisKind p.1 p.2.1) (fun p:(Pr×(Int×Unit))=>ofV (yr_qisKind p.1 p.2.1)):=by
 rintro ⟨p,k,_u⟩ w fz xs hc hfz hl hx
 refine calls_toRL Tryz.func57 rfl w fz [yp_qended] [] (ahS (cPt rPq) (ahS ((cInt .i64).H) ah0)) (fun p:(Pr×(Int×Unit))=>ofV (yr_qisKind p.1 p.2.1)) _ xs hfz hl hx (Nat.le_of_ble_eq_true rfl) ?_
 clear hx hl hfz xs
 simp only[Tryz.f57]
 simp only[↓eB,seval,go_sem,yp_qended]
 have h0:0≤p.i:=okI0 hc
 have hl:endB p=false→p.i<(p.l.length:Int):=end_f hc
 try simp only[impB,impN]
 repeat' first|exact ck|with_reducible apply And.intro|intro _
 all_goals try simp only[bne,Bool.not_eq_true',Bool.not_eq_false',Bool.not_not] at*
 all_goals first
  |((exact hc);done)
  |((exact hl (by assumption));done)
  |(refine ret_with [] ?_;simp only[↓eB,seval,go_sem,bne,yr_qisKind,kdB,tk];first|done|(simp only[*,if_true,if_false,Bool.false_eq_true,Bool.true_or,Bool.or_true,Bool.false_or,Bool.or_false,Bool.and_false,Bool.false_and,Bool.true_and,Bool.and_true,Bool.not_true,Bool.not_false,Bool.or_self,Bool.and_self,Int.reduceEq,Int.reduceNeg,Nat.reduceEqDiff,reduceCtorEq,dec_T,dec_F,leC_same,leC_nil,and_self,↓reduceIte];done)|(simp_all [kdB,tk];done))
  |omega
  |(simp only[decide_eq_true_eq,decide_eq_false_iff_not]at *;omega)
  |(simp_all [kdB,tk];done)
  |(simp_all [kdB,tk];omega)
  |trace_state
theorem yh_qisKind:∀p:(Pr×(Int×Unit)),okV ((fun p:(Pr×(Int×Unit))=>yr_qisKind p.1 p.2.1) p)=true:=by intro p;rfl
noncomputable def yp_qisKind {X:Ctx} {w0:World}:Sy.Spec Tryz.prog X w0:=specR 57 Tryz.call57 (ahS (cPt rPq) (ahS ((cInt .i64).H) ah0)) (fun p:(Pr×(Int×Unit))=>yc_qisKind p.1 p.2.1) (fun p:(Pr×(Int×Unit))=>yr_qisKind p.1 p.2.1) yh_qisKind y_qisKind
end Go.Proofs.YtlaggppdgoknjaaGreatDoor
