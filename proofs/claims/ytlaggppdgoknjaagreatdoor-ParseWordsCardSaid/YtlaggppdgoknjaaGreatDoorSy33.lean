/- A body that may panic. No conditions but those in each statement. -/
import Derived.Test.YtlaggppdgoknjaaGreatDoorSy32
import Derived.Test.YtlaggppdgoknjaaGreatDoorPq1
import Derived.Test.YtlaggppdgoknjaaGreatDoorPp
set_option linter.unusedVariables false
set_option linter.unusedSimpArgs false
namespace Go.Sy
open Go Go.RowKit
def pnOf (b:Bool) (q:MV):Option (List (Nat×List C×List (List C))):=if b=true then some [(0,q)] else none
theorem pnOf_t (q:MV):pnOf true q=some [(0,q)]:=rfl
theorem pnOf_f (q:MV):pnOf false q=none:=rfl
abbrev mXP (M fz:Nat→Prop) (I:Nm) (n:Nat) (b:Bool) (q:MV):Ctx:=⟨M,fz,memF I 0 n,pnOf b q,[],[]⟩
theorem at_ctx {X X':Ctx} {w0 w:World} {I:Nm} {lab:Lab} {fz:Nat→Prop} {H:Hp} (hM:X'.M=X.M) (hZ:X'.Z=X.Z) (hF:X'.F=X.F) (h:AtW X w0 I lab fz H w):AtW X' w0 I lab fz H w:=
 ⟨h.h,h.wf,by rw[hM];exact h.own,h.fzl,by rw[hM,hZ];exact h.fzo,by rw[hM];exact h.kept,by rw[hF];exact h.fix⟩
def RESMP (b:Bool) (r:SV) (m':List (Option MV)):St→List SV→Prop:=fun s vs=>b=false∧RESML r m' s vs
theorem e_RESMP (b:Bool) (r:SV) (m':List (Option MV)) (s:St) (vs:List SV):RESMP b r m' s vs=(b=false∧RESML r m' s vs):=rfl
section
variable {P:Program}
theorem calls_toMP {f:FuncId} {fn:Func} {c:Code} (hf:P.funcs[f]?=some fn) (hb:fn.body=some c) (m0:MV) (w:World) (M:Nat→Prop) (I:Nm) (lab:Lab) (fz:Nat→Prop) (bad:Bool) (q:MV) (sp:List (Spec P (mXP M fz I 1 bad q) w)) (g:Gh) (args:List SV) (R:SV)
  (xs:List Value) (hA:AtW (mX M fz I 1) w I lab fz (lkp (memH 0 [m0])) w) (hlen:xs.length=args.length) (hx:∀(j:Nat) (v:SV) (x:Value),args[j]?=some v→xs[j]?=some x→SDen (hp w) fz lab I (lkp (memH 0 [m0])) v x)
  (hnm:∀v∈args,∀k∈v.names,k<1) (hn:args.length≤fn.ntmps) (hq:∀r∈q.2,∀c∈r,c.names=[])
  (h:vc (mXP M fz I 1 bad q) w sp fn.ntmps g c ⟨argE 0 args,memH 0 [m0]⟩ (retQ P (mXP M fz I 1 bad q) fn.results.toList (RESMP bad R [some q]))) :
  Calls P f xs.toArray w (fun en w'=>(bad=false∧MPost w M fz I 1 [some q] R en w')∨(bad=true∧∃ch,en= .panicked ch∧okCh ch∧∃I' lab' fz',AtW (mX M fz I 1) w I' lab' fz' (lkp (memO 0 [some q])) w')):=by
 refine calls_of_wp hf hb (Code.wp_mono ?_ (vc_ok sp g c _ _ h _ w ?_))
 ·rintro e a w' (⟨s,hq',hs⟩|⟨ch,rfl,hd,hch,I1,l1,f1,H1,hA1,hpn⟩)
  ·have fin:RetP P (mXP M fz I 1 bad q) fn.results.toList (RESMP bad R [some q]) s→a.defers=[]∧∃v,(results fn a.tmps).run P w'= .ok v w'∧((bad=false∧MPost w M fz I 1 [some q] R (Ending.returned v) w')∨(bad=true∧∃ch,Ending.returned v= .panicked ch∧okCh ch∧∃I' lab' fz',AtW (mX M fz I 1) w I' lab' fz' (lkp (memO 0 [some q])) w')):=by
    rintro ⟨cs,s',vs,h1,h2,h3,h0,h4,h5,h6⟩
    refine⟨hs.defers,?_⟩
    obtain⟨_,I',lab',fz',hA'⟩:=runCs_ent h1 a w' hs
    obtain⟨x,x1,x2⟩:=results_ok hA' h2 h3
    refine⟨x,x1,.inl ⟨h0,x,I',lab',fz',rfl,at_sub (at_ctx (X:=mXP M fz I 1 bad q) (X':=mX M fz I 1) rfl rfl rfl hA'.m) h6 (fun p hp'=>?_),sd_le h4 (sd_noVw h5 x2)⟩⟩
    obtain⟨q1,q2,_⟩:=mem_memF hp'
    exact memO_keys _ _ _ q1 (by simpa using q2)
   cases e with
   |normal=>exact fin hq'
   |ret=>exact fin hq'
   |_=>exact hq'.elim
  ·have hbt:bad=true:=by
    cases bad with
    |true=>rfl
    |false=>exact hpn.elim
   subst hbt
   obtain⟨hk0,_⟩:=(show pnAll [(0,q)] H1 from hpn)
   cases hk:H1 0 with
   |none=>rw[hk]at hk0;exact hk0.elim
   |some ch0=>
   rw[hk]at hk0
   cases ch0 with
   |dead=>exact hk0.elim
   |mp=>exact hk0.elim
   |fact=>exact hk0.elim
   |vec u z es=>
   obtain⟨hz,hw⟩:=hk0
   have hc0:=hA1.h 0 _ hk
   refine⟨hd.1,.inr ⟨rfl,ch,rfl,hch,I1,l1,f1,?_,?_,hA1.own,hA1.fzl,hA1.fzo,hA1.kept,fun p hp'=>⟨?_,(hA1.fix p hp').2⟩⟩⟩
   ·intro k ch hk2
    rw[lkp_mem0]at hk2
    match k,hk2 with
    |0,hk2=>
     simp only[List.getElem?_cons_zero,Option.map_some,chO,Option.some.injEq]at hk2
     subst hk2
     obtain⟨c1,c2,c3⟩:=hc0
     exact⟨c1,by rw[c2,← hz],by rw[← hz];exact vec_weak c3 (wkL_weak hw)⟩
    |k+1,hk2=>simp at hk2
   ·intro k ch hk2 n hn'
    rw[lkp_mem0]at hk2
    match k,hk2 with
    |0,hk2=>
     simp only[List.getElem?_cons_zero,Option.map_some,chO,Option.some.injEq]at hk2
     subst hk2
     obtain⟨r,hr,hn'⟩:=List.mem_flatMap.1 hn'
     obtain⟨c,hc,hn'⟩:=List.mem_flatMap.1 hn'
     rw[hq r hr c hc]at hn';cases hn'
    |k+1,hk2=>simp at hk2
   ·obtain⟨q1,q2,_⟩:=mem_memF hp'
    rw[lkp_mem0]
    have:p.1=0:=by omega
    rw[this];rfl
 ·refine⟨?_,I,lab,fz,?_,⟨rfl,fun p hp=>by cases hp⟩,?_,at_ctx (X:=mX M fz I 1) (X':=mXP M fz I 1 bad q) rfl rfl rfl hA⟩
  ·intro t g v ht _ k hk
   rw[argE_lkp]at ht
   simp only[Nat.zero_le,if_true,Nat.sub_zero,Option.map_eq_some_iff,Prod.mk.injEq]at ht
   obtain⟨u,hu,rfl,rfl⟩:=ht
   have:=hnm u (List.mem_of_getElem? hu) k hk
   show (lkp (memH 0 [m0]) k).isSome=true
   rw[memH,lkp_mem0]
   simp[this]
  ·simp[hlen];omega
  ·intro t g v ht
   rw[argE_lkp]at ht
   simp only[Nat.zero_le,if_true,Nat.sub_zero,Option.map_eq_some_iff,Prod.mk.injEq]at ht
   obtain⟨u,hu,rfl,rfl⟩:=ht
   have hlt:t<args.length:=(List.getElem?_eq_some_iff.1 hu).1
   have hlt2:t<xs.length:=by omega
   refine⟨xs[t],?_,?_⟩
   ·rw[Array.getElem?_append_left (by simpa using hlt2)]
    simp[hlt2]
   ·simp only[if_true]
    exact hx t u _ hu (List.getElem?_eq_getElem hlt2)
end
attribute [go_sem] specMP_f specMP_fn spMP_some upd_e pnOf_t pnOf_f
end Go.Sy
namespace Go.Proofs.YtlaggppdgoknjaaGreatDoor
open Go Go.Sy Go.RowKit
def Pr.s (p:Pr):List D:=[.sl zTk (p.l.map Tok.r),dI p.i,dI p.en,dI p.deep,dI p.n,dI p.at',dI p.e]
def Pr.q (p:Pr):List C:=[.d (.sl zTk (p.l.map Tok.r)),.v (.int .i64 p.i),.v (.int .i64 p.en),.v (.int .i64 p.deep),.v (.int .i64 p.n),.v (.int .i64 p.at'),.v (.int .i64 p.e)]
def Pr.x (p:Pr):List C:=[.any,.any,.any,.any,.any,.v (.int .i64 p.at'),.v (.int .i64 p.e)]
def zPqD:List D:=[dL0,dI 0,dI 0,dI 0,dI 0,dI 0,dI 0]
abbrev zPq:List C:=[.v (.int .i64 0),.v (.int .i64 0),.v (.int .i64 0),.v (.int .i64 0),.v (.int .i64 0),.v (.int .i64 0),.v (.int .i64 0)]
theorem prs_inj (a b:Pr) (h:a.s=b.s):a=b:=by
 obtain⟨l,i,en,e,at',deep,n⟩:=a
 obtain⟨l',i',en',e',at2,deep',n'⟩:=b
 simp only[Pr.s,List.cons.injEq,D.v.injEq,D.sl.injEq,Value.int.injEq,true_and,and_true]at h
 obtain⟨h1,rfl,rfl,rfl,rfl,rfl,rfl⟩:=h
 rw[map_inj tk_inj h1]
theorem prq_inj (a b:Pr) (h:a.q=b.q):a=b:=by
 obtain⟨l,i,en,e,at',deep,n⟩:=a
 obtain⟨l',i',en',e',at2,deep',n'⟩:=b
 simp only[Pr.q,List.cons.injEq,C.v.injEq,C.d.injEq,D.sl.injEq,Value.int.injEq,true_and,and_true]at h
 obtain⟨h1,rfl,rfl,rfl,rfl,rfl,rfl⟩:=h
 rw[map_inj tk_inj h1]
noncomputable def rPq:RowC Pr:=rowOf zPqD Pr.s prs_inj fun _=>rfl
theorem prq_nm (p:Pr):∀c∈p.q,c.names=[]:=by
 intro c hc
 simp only[Pr.q,List.mem_cons,List.not_mem_nil,or_false]at hc
 rcases hc with rfl|rfl|rfl|rfl|rfl|rfl|rfl<;>rfl
theorem prx_nm (p:Pr):∀c∈p.x,c.names=[]:=by
 intro c hc
 simp only[Pr.x,List.mem_cons,List.not_mem_nil,or_false]at hc
 rcases hc with rfl|rfl|rfl|rfl|rfl|rfl|rfl<;>rfl
noncomputable def mPq:RowM Pr:=rowMOf zPq Pr.q prq_nm
theorem rPq_z:rPq.z=zPqD:=rfl
theorem rPq_e:rPq.e=Pr.s:=rfl
theorem rPq_d (l:List Tok) (i en e at' deep n:Int):rPq.d [.sl zTk (l.map Tok.r),dI i,dI en,dI deep,dI n,dI at',dI e]=some ⟨l,i,en,e,at',deep,n⟩:=rPq.i ⟨l,i,en,e,at',deep,n⟩
theorem mPq_z:mPq.z=zPq:=rfl
theorem mPq_e:mPq.e=Pr.q:=rfl
theorem mPq_d (l:List Tok) (i en e at' deep n:Int):mPq.d [.d (.sl zTk (l.map Tok.r)),.v (.int .i64 i),.v (.int .i64 en),.v (.int .i64 deep),.v (.int .i64 n),.v (.int .i64 at'),.v (.int .i64 e)]=some ⟨l,i,en,e,at',deep,n⟩:=rowMOf_d prq_inj ⟨l,i,en,e,at',deep,n⟩
theorem rPq_d' (l:List Tok) (i en e at' deep n:Int):rPq.d [.sl [D.v (Value.int IntKind.i64 0),D.v (Value.string (bs [])),D.v (Value.int IntKind.i64 0)] (l.map Tok.r),.v (.int .i64 i),.v (.int .i64 en),.v (.int .i64 deep),.v (.int .i64 n),.v (.int .i64 at'),.v (.int .i64 e)]=some ⟨l,i,en,e,at',deep,n⟩:=rPq_d l i en e at' deep n
theorem mPq_d' (l:List Tok) (i en e at' deep n:Int):mPq.d [.d (.sl [D.v (Value.int IntKind.i64 0),D.v (Value.string (bs [])),D.v (Value.int IntKind.i64 0)] (l.map Tok.r)),.v (.int .i64 i),.v (.int .i64 en),.v (.int .i64 deep),.v (.int .i64 n),.v (.int .i64 at'),.v (.int .i64 e)]=some ⟨l,i,en,e,at',deep,n⟩:=mPq_d l i en e at' deep n
theorem memq_nm (p:Pr):∀q,some q∈[some ((zPq,[p.q]):MV)]→∀r∈q.2,∀c∈r,c.names=[]:=by
 intro q hq r hr c hc
 simp only[List.mem_singleton,Option.some.injEq]at hq
 subst hq
 simp only[List.mem_singleton]at hr
 subst hr
 exact prq_nm p c hc
def Pr.w (p:Pr):MV:=if (p.e==0)=true then (zPq,[p.q]) else (zPq,[p.x])
def Pr.b (p:Pr):Bool:=!(p.e==0)
theorem memw_nm (p:Pr):∀q,some q∈[some p.w]→∀r∈q.2,∀c∈r,c.names=[]:=by
 intro q hq r hr c hc
 simp only[List.mem_singleton,Option.some.injEq]at hq
 subst hq
 unfold Pr.w at hr
 split at hr<;>(simp only[List.mem_singleton]at hr;subst hr)
 ·exact prq_nm p c hc
 ·exact prx_nm p c hc
theorem w_t {p:Pr} (h:(p.e==0)=true):p.w=(zPq,[p.q]):=by unfold Pr.w;rw[if_pos h]
theorem w_f {p:Pr} (h:(p.e==0)=false):p.w=(zPq,[p.x]):=by unfold Pr.w;rw[if_neg (by rw[h];decide)]
theorem b_t {p:Pr} (h:(p.e==0)=true):p.b=false:=by unfold Pr.b;rw[h];rfl
theorem b_f {p:Pr} (h:(p.e==0)=false):p.b=true:=by unfold Pr.b;rw[h];rfl
structure okQ (p:Pr):Prop where
 ok:okP p
 e:p.e=0
 l:lexd p.l
theorem okQ.i {p:Pr} (h:okQ p):okI p:=h.ok.i
theorem okQ.e' {p:Pr} (h:okQ p):(p.e==0)=true:=by rw[h.e];rfl
theorem okQ.nx {p q:Pr} (h:okQ p) (k:Nx p q) (he:(q.e==0)=true):okQ q:=⟨k.ok,by simpa using he,by rw[k.l];exact h.l⟩
theorem pan {p q:Pr} (k:p.e≠0→q.e=p.e∧q.at'=p.at') (he:(p.e==0)=false):(q.e==0)=false∧q.x=p.x:=by
 obtain⟨h1,h2⟩:=k (by simpa using he)
 refine⟨by rw[h1];exact he,?_⟩
 unfold Pr.x;rw[h1,h2]
theorem failP_x {c:Int} {p:Pr} (h:p.e=0):(failP c p).at'=(if decide (p.i<(p.l.length:Int))=true then (tk p).p else p.en)∧(failP c p).e=c:=by
 unfold failP;rw[if_pos (by rw[h];rfl)];exact⟨rfl,rfl⟩
end Go.Proofs.YtlaggppdgoknjaaGreatDoor
