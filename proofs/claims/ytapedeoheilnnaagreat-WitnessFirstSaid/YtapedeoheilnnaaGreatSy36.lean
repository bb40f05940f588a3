/- A body that may panic, over some places: a panic tells of the first alone. No conditions but those in each statement. -/
import Derived.Test.YtapedeoheilnnaaGreatMi0
import Derived.Test.YtapedeoheilnnaaGreatSy35
import Derived.Recover
import Derived.Test.YtapedeoheilnnaaGreatSy28
set_option linter.all false
open Option (map_eq_some_iff)
open List (mem_of_getElem? range')
namespace Go.Sy
open Go Go.RowKit
variable{c a b:Code}{s:St}{f:FuncId}{fn:Func}{Q:Exit->St->Prop}{Qd:Exit->Act->World->Prop}{w:World}{fz:Nat->Prop}{lab:Lab}{I:Nm}{H:Hp}
def Xj:Bool->List MV->List (Option MV)
 |_,[]=>[]
 |b,m::r=>(if b=true then none else some m)::Xj b r
theorem A0I(b:Bool):Xj b []=[]:=rfl
theorem A0J(m:MV)(r:List MV):Xj true (m::r)=none::Xj true r:=rfl
theorem A0K(m:MV)(r:List MV):Xj false (m::r)=some m::Xj false r:=rfl
section
variable {P:Program}
end
attribute [go_sem] A0I A0J A0K
open Go Go.RowKit
def pnL:Nat->List (Option MV)->List (Nat×List C×List (List C))
 |_,[]=>[]
 |i,none::r=>pnL (i+1) r
 |i,some q::r=>(i,q)::pnL (i+1) r
theorem Dh(i:Nat):pnL i []=[]:=rfl
theorem D3(i:Nat)(r:List (Option MV)):pnL i (none::r)=pnL (i+1) r:=rfl
theorem D4(i:Nat)(q:MV)(r:List (Option MV)):pnL i (some q::r)=(i,q)::pnL (i+1) r:=rfl
theorem eG:∀(l:List (Option MV)) (i k:Nat) (q:MV),l[k]?=some (some q)->(i+k,q)∈pnL i l
 |[],i,k,q,h=>by simp at h
 |o::r,i,0,q,h=>by
  simp only[List.getElem?_cons_zero,jS]at h
  subst h
  simp[pnL]
 |o::r,i,k+1,q,h=>by
  have h1:=eG r (i+1) k q (by simpa using h)
  have e:i+1+k=i+(k+1):=by omega
  rw[e]at h1
  cases o with
  |none=>exact h1
  |some q'=>exact List.mem_cons_of_mem _ h1
theorem SZ:∀{l:List (Nat×List C×List (List C))} {H:Hp} {k:Nat} {q:MV},LV l H->(k,q)∈l->pn1 (H k) q.1 q.2
 |[],_,_,_,_,h=>by cases h
 |(k0,z,es)::r,H,k,q,hp,h=>by
  obtain⟨h1,h2⟩:=hp
  rcases List.mem_cons.1 h with e|h
  .simp_all
  exact SZ h2 h
def oa(b:Bool)(l:List (Option MV)):Option (List (Nat×List C×List (List C))):=if b=true then some (pnL 0 l) else none
theorem E9(l:List (Option MV)):oa true l=some (pnL 0 l):=rfl
theorem ED(l:List (Option MV)):oa false l=none:=rfl
def mlO(l:List (Option MV)):List (Option ML):=l.map λo=>o.map λq=>.vec q.1 q.2
theorem Xk(l:List (Option MV))(k:Nat):(mlO l)[k]?=(l[k]?).map λo=>o.map λq=>ML.vec q.1 q.2:=by simp[mlO]
theorem DH:mlO []=[]:=rfl
theorem Cj(r:List (Option MV)):mlO (none::r)=none::mlO r:=rfl
theorem Ck(q:MV)(r:List (Option MV)):mlO (some q::r)=some (.vec q.1 q.2)::mlO r:=rfl
abbrev mXL(M fz:Nat->Prop)(I:Nm)(n:Nat)(b:Bool)(pa:List (Option MV)):Ctx:=⟨M,fz,memF I 0 n,oa b pa,[],[]⟩
def A4l(r:SV)(m':List (Option ML)):St->List SV->Prop:=λs vs=>leV (F0 vs) r/\LX (F0 vs)=true/\∀p∈lmO 0 m',KR (lkp s.h p.1) p.2/\Kk (lmO 0 m') (chNames p.2)
def rQ(b:Bool)(r:SV)(m':List (Option ML)):St->List SV->Prop:=λs vs=>b=false/\A4l r m' s vs
theorem A3(b:Bool)(r:SV)(m':List (Option ML))(s:St)(vs:List SV):rQ b r m' s vs=(b=false/\leV (F0 vs) r/\LX (F0 vs)=true/\∀p∈lmO 0 m',KR (lkp s.h p.1) p.2/\Kk (lmO 0 m') (chNames p.2)):=rfl
def N6(b:Bool)(k:Nat)(p:List (Nat×Nat))(s m o:Nat)(m':List (Option ML)):St->List SV->Prop:=λt vs=>
 b=false/\(∃u z es,F0 vs= .one (.q k u p s m o)/\lkp t.h k=some (.vec u z es)/\m'[k]?=some (some (.vec z es)))/\∀p∈lmO 0 m',KR (lkp t.h p.1) p.2/\Kk (lmO 0 m') (chNames p.2)
theorem A4m{h:Bf}{H':Hp}{k u u':Nat}{z:List C}{es:List (List C)}{p:List (Nat×Nat)}{s m o:Nat}{x:Value}(h1:H k=some (.vec u z es))(h2:H' k=some (.vec u' z es))
  (r:Ap h fz lab I H (.one (.q k u p s m o)) x):Ap h fz lab I H' (.one (.q k u' p s m o)) x:=by
 obtain⟨y,⟨y1,y2⟩,rfl⟩:=r
 refine⟨y,⟨y1,λv z' es' hk=>?_⟩,rfl⟩
 rw[h2]at hk
 simp only[jS,Ch.vec.injEq]at hk
 obtain⟨rfl,rfl,rfl⟩:=hk
 exact⟨Nat.le_refl _,λ_ hp=>(y2 u z es h1).2 rfl hp⟩
section
variable {P:Program}
theorem W8{c:Code}(hf:P.funcs[f]?=some fn)(hb:fn.body=some c)(ms:List ML)(w:World)(M:Nat->Prop)(I:Nm)(lab:Lab)(fz:Nat->Prop)(bad:Bool)(pa:List (Option MV))(m':List (Option ML))(sp:List (Spec P (mXL M fz I ms.length bad pa) w))(g:Gh)(args:List SV)(R:SV)(RS:St->List SV->Prop)
  (hRS:∀s vs,RS s vs->bad=false/\(∀p∈lmO 0 m',KR (lkp s.h p.1) p.2/\Kk (lmO 0 m') (chNames p.2))/\∀(h:Bf) (fz:Nat->Prop) (lab:Lab) (I:Nm) (x:Value),Ap h fz lab I (lkp s.h) (F0 vs) x->Ap h fz lab I (lkp (lmO 0 m')) R x)
  (xs:List Value) (hA:AtW (mX M fz I ms.length) w I lab fz (lkp (lmH 0 ms)) w) (hlen:xs.length=args.length) (hx:∀(j:Nat) (v:SV) (x:Value),args[j]?=some v->xs[j]?=some x->Ap (hp w) fz lab I (lkp (lmH 0 ms)) v x)
  (hnm:∀v∈args,∀k∈v.names,k<ms.length) (hn:args.length<=fn.ntmps) (hml:ms.length<=m'.length) (hpl:pa.length=ms.length) (hq:∀q,some q∈pa->∀r∈q.2,∀c∈r,c.names=[])
  (h:vc (mXL M fz I ms.length bad pa) w sp fn.ntmps g c ⟨J7 0 args,lmH 0 ms⟩ (My P (mXL M fz I ms.length bad pa) fn.results.toList RS)) :
  Calls P f xs.toArray w (λen w'=>(bad=false/\Tv w M fz I ms.length m' R en w')∨(bad=true/\aZ w M fz I ms.length (mlO pa) en w')):=by
 refine calls_of_wp hf hb (Code.wp_mono ?_ (AP sp g c _ _ h _ w ?_))
 .rintro e a w' (⟨s,hq',hs⟩|⟨ch,rfl,hd,hch,I1,l1,f1,H1,hA1,hpn⟩)
  .have fin:Mx P (mXL M fz I ms.length bad pa) fn.results.toList RS s->a.defers=[]/\∃v,(results fn a.tmps).run P w'= .ok v w'/\((bad=false/\Tv w M fz I ms.length m' R (Ending.returned v) w')∨(bad=true/\aZ w M fz I ms.length (mlO pa) (Ending.returned v) w')):=by
    rintro ⟨cs,s',vs,h1,h2,h3,h4⟩
    obtain⟨h0,h6,h5⟩:=hRS s' vs h4
    refine⟨hs.defers,?_⟩
    obtain⟨_,I',lab',fz',hA'⟩:=Gm h1 a w' hs
    obtain⟨x,x1,x2⟩:=K4 hA' h2 h3
    refine⟨x,x1,.inl ⟨h0,x,I',lab',fz',rfl,Qo (Ve (X:=mXL M fz I ms.length bad pa) (X':=mX M fz I ms.length) rfl rfl rfl hA'.m) h6 (λp hp'=>?_),h5 _ _ _ _ _ x2⟩⟩
    obtain⟨q1,q2,_⟩:=Ih hp'
    exact aW _ _ _ q1 (by omega)
   cases e with
   |normal=>exact fin hq'
   |ret=>exact fin hq'
   |_=>exact hq'.elim
  .have hbt:bad=true:=by
    cases bad with
    |true=>rfl
    |false=>exact hpn.elim
   subst hbt
   have hpa:∀k q,pa[k]?=some (some q)->pn1 (H1 k) q.1 q.2:=λk q hk=>SZ (show LV (pnL 0 pa) H1 from hpn) (by simpa using eG pa 0 k q hk)
   refine⟨hd.1,.inr ⟨rfl,ch,rfl,hch,I1,l1,f1,?_,?_,hA1.own,hA1.fzl,hA1.fzo,hA1.kept,λp hp'=>⟨?_,(hA1.fix p hp').2⟩⟩⟩
   .intro k ch hk2
    rw[Hz,Xk]at hk2
    simp only[map_eq_some_iff]at hk2
    obtain⟨o,⟨o',ho,rfl⟩,rfl⟩:=hk2
    cases o' with
    |none=>exact trivial
    |some q=>
     have hk0:=hpa k q ho
     cases hk:H1 k with
     |none=>rw[hk]at hk0;exact hk0.elim
     |some ch0=>
     rw[hk]at hk0
     cases ch0 with
     |dead=>exact hk0.elim
     |mp=>exact hk0.elim
     |fact=>exact hk0.elim
     |vec u z es=>
     obtain⟨hz,hw⟩:=hk0
     obtain⟨c1,c2,c3⟩:=hA1.h k _ hk
     exact⟨c1,by rw[c2,<- hz],by rw[<- hz];exact Ux c3 (RU hw)⟩
   .intro k ch hk2 n hn'
    rw[Hz,Xk]at hk2
    simp only[map_eq_some_iff]at hk2
    obtain⟨o,⟨o',ho,rfl⟩,rfl⟩:=hk2
    cases o' with
    |none=>cases hn'
    |some q=>
     obtain⟨r,hr,hn'⟩:=List.mem_flatMap.1 hn'
     obtain⟨c,hc,hn'⟩:=List.mem_flatMap.1 hn'
     rw[hq q (mem_of_getElem? ho) r hr c hc]at hn';cases hn'
   .obtain⟨q1,q2,_⟩:=Ih hp'
    rw[Hz,Xk]
    have:p.1<pa.length:=by omega
    rw[List.getElem?_eq_getElem this];rfl
 .refine⟨?_,I,lab,fz,?_,⟨rfl,λp hp=>by cases hp⟩,?_,Ve (X:=mX M fz I ms.length) (X':=mXL M fz I ms.length bad pa) rfl rfl rfl hA⟩
  .intro t g v ht _ k hk
   rw[H8]at ht
   simp only[Nat.zero_le,if_true,Nat.sub_zero,map_eq_some_iff,jP]at ht
   obtain⟨u,hu,rfl,rfl⟩:=ht
   have:=hnm u (mem_of_getElem? hu) k hk
   show (lkp (lmH 0 ms) k).isSome=true
   rw[lmH,Hz]
   simp[this]
  .simp_all
  .intro t g v ht
   rw[H8]at ht
   simp only[Nat.zero_le,if_true,Nat.sub_zero,map_eq_some_iff,jP]at ht
   exact Ur
theorem Bz{c:Code}(hf:P.funcs[f]?=some fn)(hb:fn.body=some c)(ms:List ML)(w:World)(M:Nat->Prop)(I:Nm)(lab:Lab)(fz:Nat->Prop)(bad:Bool)(pa:List (Option MV))(m':List (Option ML))(sp:List (Spec P (mXL M fz I ms.length bad pa) w))(g:Gh)(args:List SV)(R:SV)
  (xs:List Value) (hA:AtW (mX M fz I ms.length) w I lab fz (lkp (lmH 0 ms)) w) (hlen:xs.length=args.length) (hx:∀(j:Nat) (v:SV) (x:Value),args[j]?=some v->xs[j]?=some x->Ap (hp w) fz lab I (lkp (lmH 0 ms)) v x)
  (hnm:∀v∈args,∀k∈v.names,k<ms.length) (hn:args.length<=fn.ntmps) (hml:ms.length<=m'.length) (hpl:pa.length=ms.length) (hq:∀q,some q∈pa->∀r∈q.2,∀c∈r,c.names=[])
  (h:vc (mXL M fz I ms.length bad pa) w sp fn.ntmps g c ⟨J7 0 args,lmH 0 ms⟩ (My P (mXL M fz I ms.length bad pa) fn.results.toList (rQ bad R m'))) :
  Calls P f xs.toArray w (λen w'=>(bad=false/\Tv w M fz I ms.length m' R en w')∨(bad=true/\aZ w M fz I ms.length (mlO pa) en w')):=
 W8 hf hb ms w M I lab fz bad pa m' sp g args R _ (λs vs h=>⟨h.1,h.2.2.2,λ_ _ _ _ _ r=>VX h.2.1 (Nv h.2.2.1 r)⟩) xs hA hlen hx hnm hn hml hpl hq h
theorem W9{c:Code}(hf:P.funcs[f]?=some fn)(hb:fn.body=some c)(ms:List ML)(w:World)(M:Nat->Prop)(I:Nm)(lab:Lab)(fz:Nat->Prop)(bad:Bool)(pa:List (Option MV))(m':List (Option ML))(sp:List (Spec P (mXL M fz I ms.length bad pa) w))(g:Gh)(args:List SV)(k:Nat)(p:List (Nat×Nat))(so mo oo:Nat)
  (xs:List Value) (hA:AtW (mX M fz I ms.length) w I lab fz (lkp (lmH 0 ms)) w) (hlen:xs.length=args.length) (hx:∀(j:Nat) (v:SV) (x:Value),args[j]?=some v->xs[j]?=some x->Ap (hp w) fz lab I (lkp (lmH 0 ms)) v x)
  (hnm:∀v∈args,∀k∈v.names,k<ms.length) (hn:args.length<=fn.ntmps) (hml:ms.length<=m'.length) (hpl:pa.length=ms.length) (hq:∀q,some q∈pa->∀r∈q.2,∀c∈r,c.names=[])
  (h:vc (mXL M fz I ms.length bad pa) w sp fn.ntmps g c ⟨J7 0 args,lmH 0 ms⟩ (My P (mXL M fz I ms.length bad pa) fn.results.toList (N6 bad k p so mo oo m'))) :
  Calls P f xs.toArray w (λen w'=>(bad=false/\Tv w M fz I ms.length m' (.one (.q k 0 p so mo oo)) en w')∨(bad=true/\aZ w M fz I ms.length (mlO pa) en w')):=
 W8 hf hb ms w M I lab fz bad pa m' sp g args _ _ (λt vs hh=>by
  obtain⟨h0,⟨u,z,es,h4,h5,h7⟩,h6⟩:=hh
  refine⟨h0,h6,λ_ _ _ _ _ r=>?_⟩
  rw[h4]at r
  exact A4m h5 (by rw[Hz,h7];rfl) r) xs hA hlen hx hnm hn hml hpl hq h
end
open Go Go.RowKit
section
variable {P:Program}{X:Ctx}{w0:World}{n:Nat}
def Ut(X:Ctx)(w0:World)(n:Nat)(c:Code)(s:St)(Qd:Exit->Act->World->Prop):Prop:=∀a w,Holds X w0 n s a w->c.wp P Qd a w
theorem vM(Q:Exit->St->Prop)(sp:List (Spec P X w0))(g:Gh)(hq:∀e s' act w,e≠.normal->Q e s'->Holds X w0 n s' act w->Qd e act w)(hp':∀ch act w,Hn X act->Kh X w0 ch w->Qd (.panic ch) act w)
  (h1:vc X w0 sp n g a s (MH (λs'=>Ut (P:=P) X w0 n b s' Qd) Q)):Ut (P:=P) X w0 n (.seq a b) s Qd:=by
 intro act w hs
 refine wp_seq ?_
 refine Code.wp_mono ?_ (AP sp g a s _ h1 act w hs)
 rintro e a' w' (⟨s',hq',hs'⟩|⟨ch,rfl,hk,hpan⟩)
 .cases e with
  |normal=>exact hq' a' w' hs'
  |_=>exact hq _ s' a' w' (by simp) hq' hs'
 .exact hp' ch a' w' hk hpan
theorem vN(Q:Exit->St->Prop)(sp:List (Spec P X w0))(g:Gh)(hq:∀e s' act w,Q e s'->Holds X w0 n s' act w->Qd e act w)(hp':∀ch act w,Hn X act->Kh X w0 ch w->Qd (.panic ch) act w)
  (h1:vc X w0 sp n g c s Q):Ut (P:=P) X w0 n c s Qd:=by
 intro act w hs
 refine Code.wp_mono ?_ (AP sp g c s _ h1 act w hs)
 rintro e a' w' (⟨s',hq',hs'⟩|⟨ch,rfl,hk,hpan⟩)
 .grind
 .simp_all
theorem oc{id:Nat}{o1 o2:Oper}{rest:Code}{a:Act}{w:World}{fid t:Nat}{caps:Array Operand}{ty:Array TypeId}
  (h1:o1.op= .makeFunc (.func fid) #[] caps) (d1:o1.dst=some t) (g1:o1.guard=none) (h2:o2.op= .defer ⟨.value (.tmp t),#[],ty⟩) (d2:o2.dst=none) (g2:o2.guard=none) (ht:t<a.tmps.size)
  (hr:rest.wp P Qd { (a.put (some t) (.func (.func fid) #[] (caps.map a.eval))) with defers:={ target:=.fn (.func fid) (caps.map a.eval),args:=#[] }::a.defers } w):(Code.seq (.region id #[o1,o2] false) rest).wp P Qd a w:=by
 refine wp_seq (wp_region ?_)
 have hl:List.range (#[o1,o2]:Array Oper).size=[0,1]:=rfl
 rw[hl]
 have w1:Region.wanted o1 (yielded #[o1,o2] a.tmps)=true:=by unfold Region.wanted;rw[g1]
 have e1:(execOp a.eval o1).run P w= .ok (.value (.func (.func fid) #[] (caps.map a.eval))) w:=by
  have hmf:∀(fn:Fn) (first cap:Array Value) (w:World),(Instr.makeFunc fn first cap).run P w= .ok (.func fn first cap) w:=λ_ _ _ _=>rfl
  simp[execOp,h1,go_sem,hmf]
 simp only[wpOps,List.getElem?_toArray,List.getElem?_cons_zero,List.getElem?_cons_succ,w1,if_true]
 left
 unfold Oper.wp
 rw[e1]
 have w2:Region.wanted o2 (yielded #[o1,o2] (a.put o1.dst (.func (.func fid) #[] (caps.map a.eval))).tmps)=true:=by unfold Region.wanted;rw[g2]
 simp only[Oper.upon,w2,if_true]
 left
 have ev:(a.put o1.dst (.func (.func fid) #[] (caps.map a.eval))).eval (.tmp t)= .func (.func fid) #[] (caps.map a.eval):=by
  rw[d1]
  simp[Act.eval,Act.put,ht]
 have df:(a.put o1.dst (.func (.func fid) #[] (caps.map a.eval))).defers=a.defers:=put_defers ..
 rw[<- d1]at hr
 generalize hF:Value.func (Fn.func fid) #[] (caps.map a.eval)=F at*
 generalize hA:a.put o1.dst F=a1 at*
 have ev':a1.eval (Operand.tmp t)=F:=ev
 have e2:(execOp a1.eval o2).run P w= .ok (.defer { target:=.fn (.func fid) (caps.map a.eval),args:=#[] }) w:=by
  simp only[execOp,h2,resolve]
  rw[ev',<- hF]
  simp[go_sem]
 rw[e2]
 simp only[Oper.upon,d2]
 rw[df]
 exact hr
end
open Go Go.RowKit
section
variable {P:Program}
theorem kY{id:Nat}{ops:Array Oper}{o0:Oper}{ty:Array TypeId}{Q:Exit->Act->List Frame->World->Prop}{a:Act}{cs cs':List Frame}{w:World}{v:Value}(h0:ops[0]?=some o0)(op0:o0.op= .call ⟨.builtin .recover,#[],ty⟩)(g0:o0.guard=none)
  (hrec:(match recoverD cs with|some (v,cs')=>(v,cs')|none=>(.nilIface,cs))=(v,cs')) (hrest:wpOps P ops (λe a w=>Q e a cs' w) (range' 1 (ops.size-1)) (a.put o0.dst v) w):(Code.region id ops false).wpS P Q a cs w:=by
 intro b k hb hro
 have hsz:0<ops.size:=by grind
 have hl:List.range ops.size=0::range' 1 (ops.size-1):=by
  rw[List.range_eq_range']
  obtain⟨m,hm⟩:∃m,ops.size=m+1:=⟨ops.size-1,by omega⟩
  rw[hm,List.range'_succ];simp
 have hw:Region.wanted o0 (yielded ops a.tmps)=true:=by unfold Region.wanted;rw[g0]
 have hr:(execOp a.eval o0).run P w= .ok .recover w:=by
  simp[execOp,op0,resolve,go_sem]
 obtain⟨e,a',w',hq,harr⟩:=wp_ops _ (a.put o0.dst v) w hrest b k cs'
 refine⟨e,a',cs',w',hq,.of_steps (.head step_region ?_) harr⟩
 rw[hl]
 have hg:=stepG_op (P:=P) (b:=b) (k:=k) (cs:=cs) (w:=w) (rest:=range' 1 (ops.size-1)) h0 hw
 have hfin:∀v,(b.at a (.inRegion ops (0::range' 1 (ops.size-1))::k)).finish v=b.at (a.put o0.dst v) (.inRegion ops (range' 1 (ops.size-1))::k):=by
  intro v;rw[Frame.finish_at,h0];rfl
 have hk:(b.at a (.inRegion ops (0::range' 1 (ops.size-1))::k)).kind= .deferred:=hb
 have htr:=tryRecover_deferred hk cs
 refine .one (step_lone_go ?_)
 rw[hg,<- hfin]
 simp only[Frame.at]at htr ⊢
 cases hd:recoverD cs with
 |none=>
  rw[hd]at hrec htr
  simp only[jP]at hrec
  obtain⟨rfl,rfl⟩:=hrec
  simp[stepG.apply,hr,htr]
 |some p=>
  rw[hd]at hrec htr
  obtain⟨v1,cs1⟩:=p
  simp only[jP]at hrec
  obtain⟨rfl,rfl⟩:=hrec
  simp[stepG.apply,hr,htr]
theorem vO{ops:Array Oper}{o1:Oper}{Q:Exit->Act->World->Prop}{a:Act}{m:Nat}{v:Value}(h1:ops[1]?=some o1)(g1:o1.guard=none)(hr:(execOp a.eval o1).run P w= .ok (.value v) w)
  (h:wpOps P ops Q (range' 2 m) (a.put o1.dst v) w):wpOps P ops Q (range' 1 (m+1)) a w:=by
 rw[List.range'_succ]
 have hw:Region.wanted o1 (yielded ops a.tmps)=true:=by unfold Region.wanted;rw[g1]
 simp only[wpOps,h1,hw,if_true]
 left
 unfold Oper.wp
 rw[hr]
 exact h
end
open Go Go.RowKit
section
variable {P:Program}{X:Ctx}{w0:World}{n:Nat}
theorem nH{s:St}{Q':Exit->St->Prop}(h:Tri (P:=P) X w0 n c s Q)(hq:∀e s,Q e s->Q' e s):Tri (P:=P) X w0 n c s Q':=by
 intro a w hs
 refine Code.wp_mono ?_ (h a w hs)
 rintro e a' w' (⟨s',h1,h2⟩|h)
 .exact .inl ⟨s',hq e s' h1,h2⟩
 exact .inr h
theorem dM(h:Tri (P:=P) X w0 n a s (MH (λs'=>Tri (P:=P) X w0 n b s' Q) Q)):Tri (P:=P) X w0 n (.seq a b) s Q:=by
 intro act w hs
 refine wp_seq ?_
 refine Code.wp_mono ?_ (h act w hs)
 rintro e a' w' (⟨s',hq,hs'⟩|⟨ch,rfl,h⟩)
 .cases e with
  |normal=>exact hq a' w' hs'
  |_=>exact .inl ⟨s',hq,hs'⟩
 exact .inr ⟨ch,rfl,h⟩
theorem yo{t:St}(h:Tri (P:=P) X w0 n c t Q)(hs:To X s t):Tri (P:=P) X w0 n c s Q:=λa w hh=>h a w (hs w0 n a w hh)
theorem TH{Y:Type}(J:Y->Prop)(S:Y->St)(sp:List (Spec P X w0))(g:Gh)(h1:vc X w0 sp n g a s (MH (λs'=>∃y,J y/\To X s' (S y)) Q))(h2:∀y,J y->Tri (P:=P) X w0 n b (S y) Q):Tri (P:=P) X w0 n (.seq a b) s Q:=by
 refine dM (nH (AP sp g a s _ h1) ?_)
 intro e s' hq
 cases e with
 |normal=>obtain⟨y,hy,hto⟩:=hq;exact yo (h2 y hy) hto
 |_=>exact hq
theorem HZ(sp:List (Spec P X w0))(g:Gh)(h1:vc X w0 sp n g a s (MH (λs'=>Tri (P:=P) X w0 n b s' Q) Q)):Tri (P:=P) X w0 n (.seq a b) s Q:=dM (AP sp g a s _ h1)
end
section
variable {P:Program}
theorem jF(hf:P.funcs[f]?=some fn)(hb:fn.body=some c)(w:World)(fz:Nat->Prop)(args:List SV)(hnm:∀v∈args,v.names=[])(hfz:∀b,fz b->b<w.heap.size)
  (xs:List Value) (hlen:xs.length=args.length) (hx:∀(j:Nat) (v:SV) (x:Value),args[j]?=some v->xs[j]?=some x->CD (hp w) fz v x) (R:SV->Prop)
  (hn:args.length<=fn.ntmps) (h:Tri (P:=P) (clX fz) w fn.ntmps c ⟨J7 0 args,[]⟩ (My P (clX fz) fn.results.toList (λ_ vs=>(F0 vs).names=[]/\R (F0 vs)))) :
  Calls P f xs.toArray w (KS w fz R):=by
 refine calls_of_wp hf hb (Code.wp_mono ?_ (h _ w ?_))
 .exact If
 .have hE0:∀t g v,lkp (J7 0 args) t=some (g,v)->g=true/\args[t]?=some v:=by
   exact AAK
  refine⟨?_,nm0,λ_=>none,fz,?_,⟨rfl,λp hp=>by cases hp⟩,?_,⟨?_,?_,?_,λb hb=>⟨hfz b hb,rfl⟩,λb hb=>.inl hb,Kept.refl _ _,by intro p hp;cases hp⟩⟩
  .intro t g v ht _
   have:=(hE0 t g v ht).2
   rw[hnm v (mem_of_getElem? this)]
   intro k hk;cases hk
  .simp_all
  .intro t g v ht
   obtain⟨rfl,hv⟩:=hE0 t g v ht
   have hlt:t<args.length:=(List.getElem?_eq_some_iff.1 hv).1
   have hlt2:t<xs.length:=by omega
   refine⟨xs[t],?_,?_⟩
   .grind
   .simp only[if_true]
    exact HT (λb hb=>⟨hb,rfl⟩) (hnm v (mem_of_getElem? hv)) (hx t v _ hv (List.getElem?_eq_getElem hlt2))
  .intro k ch hk;simp[lkp]at hk
  .intro k ch hk;simp[lkp]at hk
  .simp_all
theorem fY(hf:P.funcs[f]?=some fn)(hb:fn.body=some c)(w:World)(fz:Nat->Prop){A:Type}(ac:ArgC A)(F:A->SV)(a:A)(xs:List Value)(hfz:∀b,fz b->b<w.heap.size)(hl:xs.length=(ac.e a).length)
  (hx:∀(j:Nat) (v:SV) (x:Value),(ac.e a)[j]?=some v->xs[j]?=some x->CD (hp w) fz v x) (hn:(ac.e a).length<=fn.ntmps)
  (h:Tri (P:=P) (clX fz) w fn.ntmps c ⟨J7 0 (ac.e a),[]⟩ (My P (clX fz) fn.results.toList (fU (F a)))):Calls P f xs.toArray w (KS w fz (λv=>v=F a)):=
 (jF hf hb w fz (ac.e a) (ac.n a) hfz xs hl hx (λv=>leV v (F a)) hn h).mono λ_ _ h=>UZ h
end
open Go Go.RowKit
section
variable {P:Program}{X:Ctx}{w0:World}{n:Nat}
theorem A4n{h:Bf}{k i j:Nat}{x:Value}(r:Ap h fz lab I H (.one (.p k i j)) x):x=(I k).p i j:=by
 have h2:=r.2
 cases h2
 rfl
def pnH(l:List (Nat×List C×List (List C))):List (Nat×Ch):=l.map λp=>(p.1,.vec 0 p.2.1 p.2.2)
theorem Xl:∀{l:List (Nat×List C×List (List C))} {k:Nat} {ch:Ch},lkp (pnH l) k=some ch->∃z es,(k,z,es)∈l/\ch= .vec 0 z es
 |[],k,ch,h=>by simp[pnH,lkp]at h
 |(k0,z,es)::r,k,ch,h=>by
  simp only[pnH,List.map_cons,lkp]at h
  split at h
  .grind
  obtain⟨z',es',h1,h2⟩:=Xl (l:=r) h
  exact⟨z',es',List.mem_cons_of_mem _ h1,h2⟩
theorem RN:∀{l:List (Nat×List C×List (List C))} {k:Nat},k∈l.map (·.1)->(lkp (pnH l) k).isSome=true
 |[],k,h=>by cases h
 |(k0,z,es)::r,k,h=>by
  simp only[pnH,List.map_cons,lkp]
  split
  .rfl
  rename_i e
  rcases List.mem_cons.1 h with h|h
  .simp_all
  exact RN (l:=r) h
theorem A4o(hA:AtW X w0 I lab fz H w)(l:List (Nat×List C×List (List C)))(hl:LV l H)(hc:∀p∈l,∀r∈p.2.2,∀c∈r,∀k∈c.names,k∈l.map (·.1))(hF:∀p∈X.F,p.1∈l.map (·.1)):AtW X w0 I lab fz (lkp (pnH l)) w:=by
 refine⟨λk ch hk=>?_,λk ch hk=>?_,hA.own,hA.fzl,hA.fzo,hA.kept,λp hp=>⟨RN (hF p hp),(hA.fix p hp).2⟩⟩
 .obtain⟨z,es,h1,rfl⟩:=Xl hk
  have h2:=SZ hl h1
  cases hH:H k with
  |none=>rw[hH]at h2;exact h2.elim
  |some ch0=>
  rw[hH]at h2
  cases ch0 with
  |dead=>exact h2.elim
  |mp=>exact h2.elim
  |fact=>exact h2.elim
  |vec u z' es'=>
  obtain⟨hz,hw⟩:=h2
  dsimp only at hz hw
  obtain⟨c1,c2,c3⟩:=hA.h k _ hH
  exact⟨c1,by rw[c2,<- hz],by rw[<- hz];exact Ux c3 (RU hw)⟩
 obtain⟨z,es,h1,rfl⟩:=Xl hk
 intro m hm
 obtain⟨r,hr,hm⟩:=List.mem_flatMap.1 hm
 obtain⟨c,hcr,hm⟩:=List.mem_flatMap.1 hm
 exact RN (hc _ h1 r hr c hcr m hm)
theorem A4p{t:St}(hs:To X s t)(h:Ut (P:=P) X w0 n c t Qd):Ut (P:=P) X w0 n c s Qd:=λa w hh=>h a w (hs w0 n a w hh)
end
open Go Go.RowKit
def A7u(m:MV):MV:=(m.1,m.2.map λr=>r.map λ_=>C.any)
def aj(b:Bool)(l:List MV):List (Option MV):=l.map λm=>some (if b=true then A7u m else m)
theorem A0L(b:Bool):aj b []=[]:=rfl
theorem A0M(z:List C)(es:List (List C))(r:List MV):aj true ((z,es)::r)=some (z,es.map λr=>r.map λ_=>C.any)::aj true r:=rfl
theorem A0N(m:MV)(r:List MV):aj false (m::r)=some m::aj false r:=rfl
section
variable {P:Program}
end
attribute [go_sem] A0L A0M A0N E9 ED D4 D3 Dh
end Go.Sy
