/- A body that may panic, over some places: a panic tells of the first alone. No conditions but those in each statement. -/
import Derived.Test.YtapedeoheilnnaaGreatPg1
import Derived.Test.YtapedeoheilnnaaGreatSy35
import Derived.Recover
import Derived.Test.YtapedeoheilnnaaGreatPa8
import Derived.Test.YtapedeoheilnnaaGreatCo
import Derived.Test.YtapedeoheilnnaaGreatMi1
set_option linter.all false
open List (range')
namespace Go.Sy
open Go Go.RowKit
def Xj:Bool->List MV->List (Option MV)
 |_,[]=>[]
 |b,m::r=>(if b=true then none else some m)::Xj b r
theorem A0I(b:Bool):Xj b []=[]:=rfl
theorem A0J(m:MV)(r:List MV):Xj true (m::r)=none::Xj true r:=rfl
theorem A0K(m:MV)(r:List MV):Xj false (m::r)=some m::Xj false r:=rfl
section
variable {P:Program}
end
attribute [go_sem] A0I A0J A0K
open Go Go.RowKit
def pnL:Nat->List (Option MV)->List (Nat×List C×List (List C))
 |_,[]=>[]
 |i,none::r=>pnL (i+1) r
 |i,some q::r=>(i,q)::pnL (i+1) r
theorem Dh(i:Nat):pnL i []=[]:=rfl
theorem D3(i:Nat)(r:List (Option MV)):pnL i (none::r)=pnL (i+1) r:=rfl
theorem D4(i:Nat)(q:MV)(r:List (Option MV)):pnL i (some q::r)=(i,q)::pnL (i+1) r:=rfl
theorem eG:∀(l:List (Option MV)) (i k:Nat) (q:MV),l[k]?=some (some q)->(i+k,q)∈pnL i l
 |[],i,k,q,h=>by simp at h
 |o::r,i,0,q,h=>by
  simp only[List.getElem?_cons_zero,jS]at h
  subst h
  simp[pnL]
 |o::r,i,k+1,q,h=>by
  have h1:=eG r (i+1) k q (by simpa using h)
  have e:i+1+k=i+(k+1):=by omega
  rw[e]at h1
  cases o with
  |none=>exact h1
  |some q'=>exact List.mem_cons_of_mem _ h1
theorem SZ:∀{l:List (Nat×List C×List (List C))} {H:Hp} {k:Nat} {q:MV},LV l H->(k,q)∈l->pn1 (H k) q.1 q.2
 |[],_,_,_,_,h=>by cases h
 |(k0,z,es)::r,H,k,q,hp,h=>by
  obtain⟨h1,h2⟩:=hp
  rcases List.mem_cons.1 h with e|h
  .simp_all
  exact SZ h2 h
def oa(b:Bool)(l:List (Option MV)):Option (List (Nat×List C×List (List C))):=if b=true then some (pnL 0 l) else none
theorem E9(l:List (Option MV)):oa true l=some (pnL 0 l):=rfl
theorem ED(l:List (Option MV)):oa false l=none:=rfl
def mlO(l:List (Option MV)):List (Option ML):=l.map λo=>o.map λq=>.vec q.1 q.2
theorem Xk(l:List (Option MV))(k:Nat):(mlO l)[k]?=(l[k]?).map λo=>o.map λq=>ML.vec q.1 q.2:=by simp[mlO]
theorem DH:mlO []=[]:=rfl
theorem Cj(r:List (Option MV)):mlO (none::r)=none::mlO r:=rfl
theorem Ck(q:MV)(r:List (Option MV)):mlO (some q::r)=some (.vec q.1 q.2)::mlO r:=rfl
abbrev mXL(M fz:Nat->Prop)(I:Nm)(n:Nat)(b:Bool)(pa:List (Option MV)):Ctx:=⟨M,fz,memF I 0 n,oa b pa,[],[]⟩
def A4l(r:SV)(m':List (Option ML)):St->List SV->Prop:=λs vs=>leV (F0 vs) r/\LX (F0 vs)=true/\∀p∈lmO 0 m',KR (lkp s.h p.1) p.2/\Kk (lmO 0 m') (chNames p.2)
def rQ(b:Bool)(r:SV)(m':List (Option ML)):St->List SV->Prop:=λs vs=>b=false/\A4l r m' s vs
theorem A3(b:Bool)(r:SV)(m':List (Option ML))(s:St)(vs:List SV):rQ b r m' s vs=(b=false/\leV (F0 vs) r/\LX (F0 vs)=true/\∀p∈lmO 0 m',KR (lkp s.h p.1) p.2/\Kk (lmO 0 m') (chNames p.2)):=rfl
def N6(b:Bool)(k:Nat)(p:List (Nat×Nat))(s m o:Nat)(m':List (Option ML)):St->List SV->Prop:=λt vs=>
 b=false/\(∃u z es,F0 vs= .one (.q k u p s m o)/\lkp t.h k=some (.vec u z es)/\m'[k]?=some (some (.vec z es)))/\∀p∈lmO 0 m',KR (lkp t.h p.1) p.2/\Kk (lmO 0 m') (chNames p.2)
theorem A4m{h:Bf}{fz:Nat->Prop}{lab:Lab}{I:Nm}{H H':Hp}{k u u':Nat}{z:List C}{es:List (List C)}{p:List (Nat×Nat)}{s m o:Nat}{x:Value}(h1:H k=some (.vec u z es))(h2:H' k=some (.vec u' z es))
  (r:Ap h fz lab I H (.one (.q k u p s m o)) x):Ap h fz lab I H' (.one (.q k u' p s m o)) x:=by
 obtain⟨y,⟨y1,y2⟩,rfl⟩:=r
 refine⟨y,⟨y1,λv z' es' hk=>?_⟩,rfl⟩
 rw[h2]at hk
 simp only[jS,Ch.vec.injEq]at hk
 obtain⟨rfl,rfl,rfl⟩:=hk
 exact⟨Nat.le_refl _,λ_ hp=>(y2 u z es h1).2 rfl hp⟩
section
variable {P:Program}
theorem W8{f:FuncId}{fn:Func}{c:Code}(hf:P.funcs[f]?=some fn)(hb:fn.body=some c)(ms:List ML)(w:World)(M:Nat->Prop)(I:Nm)(lab:Lab)(fz:Nat->Prop)(bad:Bool)(pa:List (Option MV))(m':List (Option ML))(sp:List (Spec P (mXL M fz I ms.length bad pa) w))(g:Gh)(args:List SV)(R:SV)(RS:St->List SV->Prop)
  (hRS:∀s vs,RS s vs->bad=false/\(∀p∈lmO 0 m',KR (lkp s.h p.1) p.2/\Kk (lmO 0 m') (chNames p.2))/\∀(h:Bf) (fz:Nat->Prop) (lab:Lab) (I:Nm) (x:Value),Ap h fz lab I (lkp s.h) (F0 vs) x->Ap h fz lab I (lkp (lmO 0 m')) R x)
  (xs:List Value) (hA:AtW (mX M fz I ms.length) w I lab fz (lkp (lmH 0 ms)) w) (hlen:xs.length=args.length) (hx:∀(j:Nat) (v:SV) (x:Value),args[j]?=some v->xs[j]?=some x->Ap (hp w) fz lab I (lkp (lmH 0 ms)) v x)
  (hnm:∀v∈args,∀k∈v.names,k<ms.length) (hn:args.length<=fn.ntmps) (hml:ms.length<=m'.length) (hpl:pa.length=ms.length) (hq:∀q,some q∈pa->∀r∈q.2,∀c∈r,c.names=[])
  (h:vc (mXL M fz I ms.length bad pa) w sp fn.ntmps g c ⟨J7 0 args,lmH 0 ms⟩ (My P (mXL M fz I ms.length bad pa) fn.results.toList RS)) :
  Calls P f xs.toArray w (λen w'=>(bad=false/\Tv w M fz I ms.length m' R en w')∨(bad=true/\aZ w M fz I ms.length (mlO pa) en w')):=by
 refine calls_of_wp hf hb (Code.wp_mono ?_ (AP sp g c _ _ h _ w ?_))
 .rintro e a w' (⟨s,hq',hs⟩|⟨ch,rfl,hd,hch,I1,l1,f1,H1,hA1,hpn⟩)
  .have fin:Mx P (mXL M fz I ms.length bad pa) fn.results.toList RS s->a.defers=[]/\∃v,(results fn a.tmps).run P w'= .ok v w'/\((bad=false/\Tv w M fz I ms.length m' R (Ending.returned v) w')∨(bad=true/\aZ w M fz I ms.length (mlO pa) (Ending.returned v) w')):=by
    rintro ⟨cs,s',vs,h1,h2,h3,h4⟩
    obtain⟨h0,h6,h5⟩:=hRS s' vs h4
    refine⟨hs.defers,?_⟩
    obtain⟨_,I',lab',fz',hA'⟩:=Gm h1 a w' hs
    obtain⟨x,x1,x2⟩:=K4 hA' h2 h3
    refine⟨x,x1,.inl ⟨h0,x,I',lab',fz',rfl,Qo (Ve (X:=mXL M fz I ms.length bad pa) (X':=mX M fz I ms.length) rfl rfl rfl hA'.m) h6 (λp hp'=>?_),h5 _ _ _ _ _ x2⟩⟩
    obtain⟨q1,q2,_⟩:=Ih hp'
    exact aW _ _ _ q1 (by omega)
   cases e with
   |normal=>exact fin hq'
   |ret=>exact fin hq'
   |_=>exact hq'.elim
  .have hbt:bad=true:=by
    cases bad with
    |true=>rfl
    |false=>exact hpn.elim
   subst hbt
   have hpa:∀k q,pa[k]?=some (some q)->pn1 (H1 k) q.1 q.2:=λk q hk=>SZ (show LV (pnL 0 pa) H1 from hpn) (by simpa using eG pa 0 k q hk)
   refine⟨hd.1,.inr ⟨rfl,ch,rfl,hch,I1,l1,f1,?_,?_,hA1.own,hA1.fzl,hA1.fzo,hA1.kept,λp hp'=>⟨?_,(hA1.fix p hp').2⟩⟩⟩
   .intro k ch hk2
    rw[Hz,Xk]at hk2
    simp only[Option.map_eq_some_iff]at hk2
    obtain⟨o,⟨o',ho,rfl⟩,rfl⟩:=hk2
    cases o' with
    |none=>exact trivial
    |some q=>
     have hk0:=hpa k q ho
     cases hk:H1 k with
     |none=>rw[hk]at hk0;exact hk0.elim
     |some ch0=>
     rw[hk]at hk0
     cases ch0 with
     |dead=>exact hk0.elim
     |mp=>exact hk0.elim
     |fact=>exact hk0.elim
     |vec u z es=>
     obtain⟨hz,hw⟩:=hk0
     obtain⟨c1,c2,c3⟩:=hA1.h k _ hk
     exact⟨c1,by rw[c2,<- hz],by rw[<- hz];exact Ux c3 (RU hw)⟩
   .intro k ch hk2 n hn'
    rw[Hz,Xk]at hk2
    simp only[Option.map_eq_some_iff]at hk2
    obtain⟨o,⟨o',ho,rfl⟩,rfl⟩:=hk2
    cases o' with
    |none=>cases hn'
    |some q=>
     obtain⟨r,hr,hn'⟩:=List.mem_flatMap.1 hn'
     obtain⟨c,hc,hn'⟩:=List.mem_flatMap.1 hn'
     rw[hq q (List.mem_of_getElem? ho) r hr c hc]at hn';cases hn'
   .obtain⟨q1,q2,_⟩:=Ih hp'
    rw[Hz,Xk]
    have:p.1<pa.length:=by omega
    rw[List.getElem?_eq_getElem this];rfl
 .refine⟨?_,I,lab,fz,?_,⟨rfl,λp hp=>by cases hp⟩,?_,Ve (X:=mX M fz I ms.length) (X':=mXL M fz I ms.length bad pa) rfl rfl rfl hA⟩
  .intro t g v ht _ k hk
   rw[H8]at ht
   simp only[Nat.zero_le,if_true,Nat.sub_zero,Option.map_eq_some_iff,jP]at ht
   obtain⟨u,hu,rfl,rfl⟩:=ht
   have:=hnm u (List.mem_of_getElem? hu) k hk
   show (lkp (lmH 0 ms) k).isSome=true
   rw[lmH,Hz]
   simp[this]
  .simp_all
  .intro t g v ht
   rw[H8]at ht
   simp only[Nat.zero_le,if_true,Nat.sub_zero,Option.map_eq_some_iff,jP]at ht
   obtain⟨u,hu,rfl,rfl⟩:=ht
   have hlt:t<args.length:=(List.getElem?_eq_some_iff.1 hu).1
   have hlt2:t<xs.length:=by omega
   refine⟨xs[t],?_,?_⟩
   .grind
   .simp only[if_true]
    exact hx t u _ hu (List.getElem?_eq_getElem hlt2)
theorem Bz{f:FuncId}{fn:Func}{c:Code}(hf:P.funcs[f]?=some fn)(hb:fn.body=some c)(ms:List ML)(w:World)(M:Nat->Prop)(I:Nm)(lab:Lab)(fz:Nat->Prop)(bad:Bool)(pa:List (Option MV))(m':List (Option ML))(sp:List (Spec P (mXL M fz I ms.length bad pa) w))(g:Gh)(args:List SV)(R:SV)
  (xs:List Value) (hA:AtW (mX M fz I ms.length) w I lab fz (lkp (lmH 0 ms)) w) (hlen:xs.length=args.length) (hx:∀(j:Nat) (v:SV) (x:Value),args[j]?=some v->xs[j]?=some x->Ap (hp w) fz lab I (lkp (lmH 0 ms)) v x)
  (hnm:∀v∈args,∀k∈v.names,k<ms.length) (hn:args.length<=fn.ntmps) (hml:ms.length<=m'.length) (hpl:pa.length=ms.length) (hq:∀q,some q∈pa->∀r∈q.2,∀c∈r,c.names=[])
  (h:vc (mXL M fz I ms.length bad pa) w sp fn.ntmps g c ⟨J7 0 args,lmH 0 ms⟩ (My P (mXL M fz I ms.length bad pa) fn.results.toList (rQ bad R m'))) :
  Calls P f xs.toArray w (λen w'=>(bad=false/\Tv w M fz I ms.length m' R en w')∨(bad=true/\aZ w M fz I ms.length (mlO pa) en w')):=
 W8 hf hb ms w M I lab fz bad pa m' sp g args R _ (λs vs h=>⟨h.1,h.2.2.2,λ_ _ _ _ _ r=>VX h.2.1 (Nv h.2.2.1 r)⟩) xs hA hlen hx hnm hn hml hpl hq h
theorem W9{f:FuncId}{fn:Func}{c:Code}(hf:P.funcs[f]?=some fn)(hb:fn.body=some c)(ms:List ML)(w:World)(M:Nat->Prop)(I:Nm)(lab:Lab)(fz:Nat->Prop)(bad:Bool)(pa:List (Option MV))(m':List (Option ML))(sp:List (Spec P (mXL M fz I ms.length bad pa) w))(g:Gh)(args:List SV)(k:Nat)(p:List (Nat×Nat))(so mo oo:Nat)
  (xs:List Value) (hA:AtW (mX M fz I ms.length) w I lab fz (lkp (lmH 0 ms)) w) (hlen:xs.length=args.length) (hx:∀(j:Nat) (v:SV) (x:Value),args[j]?=some v->xs[j]?=some x->Ap (hp w) fz lab I (lkp (lmH 0 ms)) v x)
  (hnm:∀v∈args,∀k∈v.names,k<ms.length) (hn:args.length<=fn.ntmps) (hml:ms.length<=m'.length) (hpl:pa.length=ms.length) (hq:∀q,some q∈pa->∀r∈q.2,∀c∈r,c.names=[])
  (h:vc (mXL M fz I ms.length bad pa) w sp fn.ntmps g c ⟨J7 0 args,lmH 0 ms⟩ (My P (mXL M fz I ms.length bad pa) fn.results.toList (N6 bad k p so mo oo m'))) :
  Calls P f xs.toArray w (λen w'=>(bad=false/\Tv w M fz I ms.length m' (.one (.q k 0 p so mo oo)) en w')∨(bad=true/\aZ w M fz I ms.length (mlO pa) en w')):=
 W8 hf hb ms w M I lab fz bad pa m' sp g args _ _ (λt vs hh=>by
  obtain⟨h0,⟨u,z,es,h4,h5,h7⟩,h6⟩:=hh
  refine⟨h0,h6,λ_ _ _ _ _ r=>?_⟩
  rw[h4]at r
  exact A4m h5 (by rw[Hz,h7];rfl) r) xs hA hlen hx hnm hn hml hpl hq h
end
open Go Go.RowKit
section
variable {P:Program}{X:Ctx}{w0:World}{n:Nat}
def Ut(X:Ctx)(w0:World)(n:Nat)(c:Code)(s:St)(Qd:Exit->Act->World->Prop):Prop:=∀a w,Holds X w0 n s a w->c.wp P Qd a w
theorem vM{a b:Code}{s:St}{Qd:Exit->Act->World->Prop}(Q:Exit->St->Prop)(sp:List (Spec P X w0))(g:Gh)(hq:∀e s' act w,e≠.normal->Q e s'->Holds X w0 n s' act w->Qd e act w)(hp':∀ch act w,Hn X act->Kh X w0 ch w->Qd (.panic ch) act w)
  (h1:vc X w0 sp n g a s (MH (λs'=>Ut (P:=P) X w0 n b s' Qd) Q)):Ut (P:=P) X w0 n (.seq a b) s Qd:=by
 intro act w hs
 refine wp_seq ?_
 refine Code.wp_mono ?_ (AP sp g a s _ h1 act w hs)
 rintro e a' w' (⟨s',hq',hs'⟩|⟨ch,rfl,hk,hpan⟩)
 .cases e with
  |normal=>exact hq' a' w' hs'
  |_=>exact hq _ s' a' w' (by simp) hq' hs'
 .exact hp' ch a' w' hk hpan
theorem vN{c:Code}{s:St}{Qd:Exit->Act->World->Prop}(Q:Exit->St->Prop)(sp:List (Spec P X w0))(g:Gh)(hq:∀e s' act w,Q e s'->Holds X w0 n s' act w->Qd e act w)(hp':∀ch act w,Hn X act->Kh X w0 ch w->Qd (.panic ch) act w)
  (h1:vc X w0 sp n g c s Q):Ut (P:=P) X w0 n c s Qd:=by
 intro act w hs
 refine Code.wp_mono ?_ (AP sp g c s _ h1 act w hs)
 rintro e a' w' (⟨s',hq',hs'⟩|⟨ch,rfl,hk,hpan⟩)
 .grind
 .simp_all
theorem oc{id:Nat}{o1 o2:Oper}{rest:Code}{Qd:Exit->Act->World->Prop}{a:Act}{w:World}{fid t:Nat}{caps:Array Operand}{ty:Array TypeId}
  (h1:o1.op= .makeFunc (.func fid) #[] caps) (d1:o1.dst=some t) (g1:o1.guard=none) (h2:o2.op= .defer ⟨.value (.tmp t),#[],ty⟩) (d2:o2.dst=none) (g2:o2.guard=none) (ht:t<a.tmps.size)
  (hr:rest.wp P Qd { (a.put (some t) (.func (.func fid) #[] (caps.map a.eval))) with defers:={ target:=.fn (.func fid) (caps.map a.eval),args:=#[] }::a.defers } w):(Code.seq (.region id #[o1,o2] false) rest).wp P Qd a w:=by
 refine wp_seq (wp_region ?_)
 have hl:List.range (#[o1,o2]:Array Oper).size=[0,1]:=rfl
 rw[hl]
 have w1:Region.wanted o1 (yielded #[o1,o2] a.tmps)=true:=by unfold Region.wanted;rw[g1]
 have e1:(execOp a.eval o1).run P w= .ok (.value (.func (.func fid) #[] (caps.map a.eval))) w:=by
  have hmf:∀(fn:Fn) (first cap:Array Value) (w:World),(Instr.makeFunc fn first cap).run P w= .ok (.func fn first cap) w:=λ_ _ _ _=>rfl
  simp[execOp,h1,go_sem,hmf]
 simp only[wpOps,List.getElem?_toArray,List.getElem?_cons_zero,List.getElem?_cons_succ,w1,if_true]
 left
 unfold Oper.wp
 rw[e1]
 have w2:Region.wanted o2 (yielded #[o1,o2] (a.put o1.dst (.func (.func fid) #[] (caps.map a.eval))).tmps)=true:=by unfold Region.wanted;rw[g2]
 simp only[Oper.upon,w2,if_true]
 left
 have ev:(a.put o1.dst (.func (.func fid) #[] (caps.map a.eval))).eval (.tmp t)= .func (.func fid) #[] (caps.map a.eval):=by
  rw[d1]
  simp[Act.eval,Act.put,ht]
 have df:(a.put o1.dst (.func (.func fid) #[] (caps.map a.eval))).defers=a.defers:=put_defers ..
 rw[<- d1]at hr
 generalize hF:Value.func (Fn.func fid) #[] (caps.map a.eval)=F at*
 generalize hA:a.put o1.dst F=a1 at*
 have ev':a1.eval (Operand.tmp t)=F:=ev
 have e2:(execOp a1.eval o2).run P w= .ok (.defer { target:=.fn (.func fid) (caps.map a.eval),args:=#[] }) w:=by
  simp only[execOp,h2,resolve]
  rw[ev',<- hF]
  simp[go_sem]
 rw[e2]
 simp only[Oper.upon,d2]
 rw[df]
 exact hr
end
open Go Go.RowKit
section
variable {P:Program}
theorem kY{id:Nat}{ops:Array Oper}{o0:Oper}{ty:Array TypeId}{Q:Exit->Act->List Frame->World->Prop}{a:Act}{cs cs':List Frame}{w:World}{v:Value}(h0:ops[0]?=some o0)(op0:o0.op= .call ⟨.builtin .recover,#[],ty⟩)(g0:o0.guard=none)
  (hrec:(match recoverD cs with|some (v,cs')=>(v,cs')|none=>(.nilIface,cs))=(v,cs')) (hrest:wpOps P ops (λe a w=>Q e a cs' w) (range' 1 (ops.size-1)) (a.put o0.dst v) w):(Code.region id ops false).wpS P Q a cs w:=by
 intro b k hb hro
 have hsz:0<ops.size:=by grind
 have hl:List.range ops.size=0::range' 1 (ops.size-1):=by
  rw[List.range_eq_range']
  obtain⟨m,hm⟩:∃m,ops.size=m+1:=⟨ops.size-1,by omega⟩
  rw[hm,List.range'_succ];simp
 have hw:Region.wanted o0 (yielded ops a.tmps)=true:=by unfold Region.wanted;rw[g0]
 have hr:(execOp a.eval o0).run P w= .ok .recover w:=by
  simp[execOp,op0,resolve,go_sem]
 obtain⟨e,a',w',hq,harr⟩:=wp_ops _ (a.put o0.dst v) w hrest b k cs'
 refine⟨e,a',cs',w',hq,.of_steps (.head step_region ?_) harr⟩
 rw[hl]
 have hg:=stepG_op (P:=P) (b:=b) (k:=k) (cs:=cs) (w:=w) (rest:=range' 1 (ops.size-1)) h0 hw
 have hfin:∀v,(b.at a (.inRegion ops (0::range' 1 (ops.size-1))::k)).finish v=b.at (a.put o0.dst v) (.inRegion ops (range' 1 (ops.size-1))::k):=by
  intro v;rw[Frame.finish_at,h0];rfl
 have hk:(b.at a (.inRegion ops (0::range' 1 (ops.size-1))::k)).kind= .deferred:=hb
 have htr:=tryRecover_deferred hk cs
 refine .one (step_lone_go ?_)
 rw[hg,<- hfin]
 simp only[Frame.at]at htr ⊢
 cases hd:recoverD cs with
 |none=>
  rw[hd]at hrec htr
  simp only[jP]at hrec
  obtain⟨rfl,rfl⟩:=hrec
  simp[stepG.apply,hr,htr]
 |some p=>
  rw[hd]at hrec htr
  obtain⟨v1,cs1⟩:=p
  simp only[jP]at hrec
  obtain⟨rfl,rfl⟩:=hrec
  simp[stepG.apply,hr,htr]
theorem vO{ops:Array Oper}{o1:Oper}{Q:Exit->Act->World->Prop}{a:Act}{w:World}{m:Nat}{v:Value}(h1:ops[1]?=some o1)(g1:o1.guard=none)(hr:(execOp a.eval o1).run P w= .ok (.value v) w)
  (h:wpOps P ops Q (range' 2 m) (a.put o1.dst v) w):wpOps P ops Q (range' 1 (m+1)) a w:=by
 rw[List.range'_succ]
 have hw:Region.wanted o1 (yielded ops a.tmps)=true:=by unfold Region.wanted;rw[g1]
 simp only[wpOps,h1,hw,if_true]
 left
 unfold Oper.wp
 rw[hr]
 exact h
end
open Go Go.RowKit
section
variable {P:Program}{X:Ctx}{w0:World}{n:Nat}
theorem A4n{h:Bf}{fz:Nat->Prop}{lab:Lab}{I:Nm}{H:Hp}{k i j:Nat}{x:Value}(r:Ap h fz lab I H (.one (.p k i j)) x):x=(I k).p i j:=by
 have h2:=r.2
 cases h2
 rfl
def pnH(l:List (Nat×List C×List (List C))):List (Nat×Ch):=l.map λp=>(p.1,.vec 0 p.2.1 p.2.2)
theorem Xl:∀{l:List (Nat×List C×List (List C))} {k:Nat} {ch:Ch},lkp (pnH l) k=some ch->∃z es,(k,z,es)∈l/\ch= .vec 0 z es
 |[],k,ch,h=>by simp[pnH,lkp]at h
 |(k0,z,es)::r,k,ch,h=>by
  simp only[pnH,List.map_cons,lkp]at h
  split at h
  .grind
  obtain⟨z',es',h1,h2⟩:=Xl (l:=r) h
  exact⟨z',es',List.mem_cons_of_mem _ h1,h2⟩
theorem RN:∀{l:List (Nat×List C×List (List C))} {k:Nat},k∈l.map (·.1)->(lkp (pnH l) k).isSome=true
 |[],k,h=>by cases h
 |(k0,z,es)::r,k,h=>by
  simp only[pnH,List.map_cons,lkp]
  split
  .rfl
  rename_i e
  rcases List.mem_cons.1 h with h|h
  .simp_all
  exact RN (l:=r) h
theorem A4o{I:Nm}{lab:Lab}{fz:Nat->Prop}{H:Hp}{w:World}(hA:AtW X w0 I lab fz H w)(l:List (Nat×List C×List (List C)))(hl:LV l H)(hc:∀p∈l,∀r∈p.2.2,∀c∈r,∀k∈c.names,k∈l.map (·.1))(hF:∀p∈X.F,p.1∈l.map (·.1)):AtW X w0 I lab fz (lkp (pnH l)) w:=by
 refine⟨λk ch hk=>?_,λk ch hk=>?_,hA.own,hA.fzl,hA.fzo,hA.kept,λp hp=>⟨RN (hF p hp),(hA.fix p hp).2⟩⟩
 .obtain⟨z,es,h1,rfl⟩:=Xl hk
  have h2:=SZ hl h1
  cases hH:H k with
  |none=>rw[hH]at h2;exact h2.elim
  |some ch0=>
  rw[hH]at h2
  cases ch0 with
  |dead=>exact h2.elim
  |mp=>exact h2.elim
  |fact=>exact h2.elim
  |vec u z' es'=>
  obtain⟨hz,hw⟩:=h2
  dsimp only at hz hw
  obtain⟨c1,c2,c3⟩:=hA.h k _ hH
  exact⟨c1,by rw[c2,<- hz],by rw[<- hz];exact Ux c3 (RU hw)⟩
 obtain⟨z,es,h1,rfl⟩:=Xl hk
 intro m hm
 obtain⟨r,hr,hm⟩:=List.mem_flatMap.1 hm
 obtain⟨c,hcr,hm⟩:=List.mem_flatMap.1 hm
 exact RN (hc _ h1 r hr c hcr m hm)
theorem A4p{c:Code}{s t:St}{Qd:Exit->Act->World->Prop}(hs:To X s t)(h:Ut (P:=P) X w0 n c t Qd):Ut (P:=P) X w0 n c s Qd:=λa w hh=>h a w (hs w0 n a w hh)
end
open Go Go.RowKit
def A7u(m:MV):MV:=(m.1,m.2.map λr=>r.map λ_=>C.any)
def aj(b:Bool)(l:List MV):List (Option MV):=l.map λm=>some (if b=true then A7u m else m)
theorem A0L(b:Bool):aj b []=[]:=rfl
theorem A0M(z:List C)(es:List (List C))(r:List MV):aj true ((z,es)::r)=some (z,es.map λr=>r.map λ_=>C.any)::aj true r:=rfl
theorem A0N(m:MV)(r:List MV):aj false (m::r)=some m::aj false r:=rfl
section
variable {P:Program}
end
attribute [go_sem] A0L A0M A0N E9 ED D4 D3 Dh
end Go.Sy
namespace Go.Proofs.YtapedeoheilnnaaGreat
open Go Go.Sy Go.RowKit
structure Gy where
 s:List UInt8
 n:Int
structure Gl where
 c:List (List UInt8)
 a:List Gy
structure Pg where
 g:Gl
 fs:List Fn
structure Va where
 p:Bool
 n:Int
 s:List UInt8
structure Nb where
 s:List UInt8
 n:Int
structure Na where
 s:List UInt8
 l:List Int
abbrev Vs:=List (List UInt8×Va)
structure Ms where
 fuel:Int
 deep:Int
 cs:List Nb
 ar:List Na
 e:Int
 v:Int
 f:List UInt8
 al:Int
 k:Int
structure Fa where
 nm:List UInt8
 ret:Int
 P:Pg
 m:Ms
 vs:Vs
theorem od{α:Type}{es:List (List UInt8×α)}{s t:List UInt8}{v k:α}(h:AH (B5 es s v) t=some k):AH es t=some k∨k=v:=by
 induction es with
 |nil=>
  simp only[B5,AH]at h
  split at h
  .exact .inr (Option.some.inj h).symm
  cases h
 |cons p r ih=>
 obtain⟨a,b⟩:=p
 simp only[B5]at h
 split at h
 .rename_i e
  simp only[AH]at h ⊢
  split at h
  .exact .inr (Option.some.inj h).symm
  rename_i e2
  have e3:(a==t)=false:=by rw[eq_of_beq e];simpa using e2
  rw[e3];exact .inl h
 simp only[AH]at h ⊢
 split at h
 .rename_i e2
  rw[if_pos e2];exact .inl h
 rename_i e2
 rw[if_neg e2];exact ih h
def Gc:List (List UInt8)->Nat->List (List UInt8×Int)->List (List UInt8×Int)
 |[],_,es=>es
 |s::r,i,es=>Gc r (i+1) (if (AH es s).isSome=true then es else B5 es s (i:Int))
def fI(l:List (List UInt8)):List (List UInt8×Int):=Gc l 0 []
def Pg.ci(P:Pg)(s:List UInt8):Option Int:=AH (fI P.g.c) s
def Pg.ai(P:Pg)(s:List UInt8):Option Int:=AH (fI (P.g.a.map Gy.s)) s
def Pg.fi(P:Pg)(s:List UInt8):Option Int:=AH (fI (P.fs.map Fn.name)) s
def va0:Va:=⟨false,0,[]⟩
def GB(vs:Vs)(s:List UInt8):Va:=(AH vs s).getD va0
inductive Ev (α:Type) where
 |ok (a:α)
 |no (k:Int)
def Ev.b{α:Type}:Ev α->Bool
 | .ok _=>false
 | .no _=>true
def Ev.kd{α:Type}:Ev α->Int
 | .ok _=>0
 | .no k=>k
def Ev.vl{α:Type}(d:α):Ev α->α
 | .ok a=>a
 | .no _=>d
def Ms.cell(m:Ms)(i:Int):Int:=(m.cs.getD i.toNat ⟨[],0⟩).n
def vlF(P:Pg)(m:Ms)(vs:Vs)(s:List UInt8):Ev Int:=match AH vs s with
 |some v=>.ok v.n
 |none=>match P.ci s with
  |some i=>.ok (m.cell i)
  |none=>.no 4
def arF(k x y:Int):Int:=if k=2 then w64i (x+y) else if k=3 then w64i (x-y) else if k=4 then w64i (x*y) else if k=5 then w64i (x.tdiv y) else if k=6 then x.tmod y else 0
def evF(P:Pg)(m:Ms)(vs:Vs):Ex->Ev Int
 | .nil=>.ok 0
 | .mk k n s a b=>
  if k=0 then .ok n
  else if k=1 then vlF P m vs s
  else if k=7 then match evF P m vs a with
   | .ok x=>.ok (w64i (0-x))
   | .no j=>.no j
  else match evF P m vs a with
   | .no j=>.no j
   | .ok x=>match evF P m vs b with
    | .no j=>.no j
    | .ok y=>if (k=5∨k=6)/\y=0 then .no 0 else .ok (arF k x y)
def cmF(k x y:Int):Bool:=if k=0 then x==y else if k=1 then !(x==y) else if k=2 then decide (x<y) else if k=3 then decide (x<=y) else if k=4 then decide (y<x) else if k=5 then decide (y<=x) else false
def cdF(P:Pg)(m:Ms)(vs:Vs):Cd->Ev Bool
 | .nil=>.ok false
 | .mk k a b p q s=>
  if k=6 then match cdF P m vs p with
   | .ok true=>cdF P m vs q
   | .ok false=>.ok false
   | .no j=>.no j
  else if k=7 then match cdF P m vs p with
   | .ok true=>.ok true
   | .ok false=>cdF P m vs q
   | .no j=>.no j
  else if k=8 then match cdF P m vs p with
   | .ok x=>.ok (!x)
   | .no j=>.no j
  else if k=9 then .ok ((GB vs s).s==[])
  else match evF P m vs a with
   | .no j=>.no j
   | .ok x=>match evF P m vs b with
    | .no j=>.no j
    | .ok y=>.ok (cmF k x y)
def Fj(P:Pg)(m:Ms)(vs:Vs):List Ar->Ev (List Va)
 |[]=>.ok []
 |a::l=>if a.p=true then match Fj P m vs l with
   | .ok r=>.ok (⟨true,0,(GB vs a.s).s⟩::r)
   | .no j=>.no j
  else match evF P m vs a.e with
   | .no j=>.no j
   | .ok x=>match Fj P m vs l with
    | .ok r=>.ok (⟨false,x,[]⟩::r)
    | .no j=>.no j
def Dw:List Vr->List Va->Bool
 |[],[]=>true
 |v::l,a::r=>(v.p==a.p)&&Dw l r
 |_,_=>false
def vsL:List Vr->Vs->Vs
 |[],vs=>vs
 |v::l,vs=>vsL l (B5 vs v.s ⟨v.p,0,[]⟩)
def vsP:List Vr->List Va->Vs->Vs
 |v::l,a::r,vs=>vsP l r (B5 vs v.s (if v.p=true then ⟨true,0,a.s⟩ else ⟨false,a.n,[]⟩))
 |_,_,vs=>vs
def Ms.brk(m:Ms)(nm:List UInt8)(al k:Int):Ms:={ m with e:=1,v:=0,f:=nm,al:=al,k:=k }
def Ms.exh(m:Ms):Ms:={ m with e:=2,v:=0,f:=[],al:=0,k:=0 }
def Ms.out(m:Ms):Bool:=decide (m.fuel<1)
def Ms.spd(m:Ms):Ms:={ m with fuel:=w64i (m.fuel-1) }
def Ms.set(m:Ms)(i:Int)(v:Int):Ms:={ m with cs:=m.cs.set i.toNat ⟨(m.cs.getD i.toNat ⟨[],0⟩).s,v⟩ }
def Ms.arr(m:Ms)(i:Int):List Int:=(m.ar.getD i.toNat ⟨[],[]⟩).l
def Ms.put(m:Ms)(i j:Int)(v:Int):Ms:={ m with ar:=m.ar.set i.toNat ⟨(m.ar.getD i.toNat ⟨[],[]⟩).s,(m.arr i).set j.toNat v⟩ }
def Fa.dead(q:Fa)(s:Sm):Fa:={ q with m:={ q.m with cs:=[⟨[],0⟩],ar:=[⟨[],[0]⟩] },vs:=B5 q.vs s.x va0 }
def evA{α:Type}(q:Fa)(s:Sm):Ev α->Fa
 | .ok _=>q
 | .no _=>q.dead s
def evW{α:Type}(q:Fa)(s:Sm):Ev α->Fa
 | .ok _=>q
 | .no k=>{ q with m:=q.m.brk q.nm s.no k }
structure okC(P:Pg)(m:Ms):Prop where
 c:m.cs.length=P.g.c.length
 a:m.ar.length=P.g.a.length
 n:P.g.c.length<=1000000
 k:P.g.a.length<=1000000
theorem kZ:∀(l:List (List UInt8)) (i:Nat) (es:List (List UInt8×Int)) (s:List UInt8) (j:Int),(∀t k,AH es t=some k->0<=k/\k<(i:Int))->AH (Gc l i es) s=some j->0<=j/\j<((i+l.length:Nat):Int)
 |[],i,es,s,j,h,hj=>by simpa using h s j hj
 |x::r,i,es,s,j,h,hj=>by
  simp only[Gc]at hj
  have ih:=kZ r (i+1) _ s j (λt k hk=>?_) hj
  .simp only[List.length_cons];omega
  split at hk
  .have:=h t k hk;omega
  rcases od hk with hk|hk
  .have:=h t k hk;omega
  omega
theorem WA{l:List (List UInt8)}{s:List UInt8}{j:Int}(h:AH (fI l) s=some j):0<=j/\j<(l.length:Int):=by
 have:=kZ l 0 [] s j (λt k hk=>by cases hk) h
 simpa using this
theorem Pg.ci_lt{P:Pg}{m:Ms}{s:List UInt8}{i:Int}(hc:okC P m)(h:P.ci s=some i):0<=i/\i<(m.cs.length:Int):=by
 rw[hc.c];exact WA h
theorem Pg.ai_lt{P:Pg}{m:Ms}{s:List UInt8}{i:Int}(hc:okC P m)(h:P.ai s=some i):0<=i/\i<(m.ar.length:Int):=by
 rw[hc.a,<- List.length_map (f:=Gy.s)];exact WA h
theorem Pg.fi_lt{P:Pg}{s:List UInt8}{i:Int}(h:P.fi s=some i):0<=i/\i<(P.fs.length:Int):=by
 rw[<- List.length_map (f:=Fn.name)];exact WA h
structure Ro where
 b:Bool
 t:Bool
 q:Fa
def Fa.brk(q:Fa)(s:Sm)(k:Int):Ro:=⟨true,false,{ q with m:=q.m.brk q.nm s.no k }⟩
def Fa.go(q:Fa):Ro:=⟨false,false,q⟩
def Fk(q:Fa)(s:Sm)(v:Int):Ro:=match AH q.vs s.x with
 |some _=>Fa.go { q with vs:=B5 q.vs s.x ⟨false,v,[]⟩ }
 |none=>match q.P.ci s.x with
  |some i=>Fa.go { q with m:=q.m.set i v }
  |none=>q.brk s 4
def GC(q:Fa)(nm:List UInt8):Ev Int:=if ((GB q.vs nm).s==[])=true then .no 2 else match q.P.ci (GB q.vs nm).s with
 |some i=>.ok i
 |none=>.no 4
def FR(q:Fa)(s:Sm)(i:Int):Ev Int:=match q.P.ai s.y with
 |none=>.no 4
 |some k=>if i<0∨((q.m.arr k).length:Int)<=i then .no 1 else .ok k
def blF(st:Sm->Fa->Ro):List Sm->Fa->Ro
 |[],q=>q.go
 |s::l,q=>if (st s q).b=true∨(st s q).t=true then st s q else blF st l (st s q).q
def IX(st:Sm->Fa->Ro)(P:Pg)(g:Fn)(a:List Va)(m:Ms):Bool×Int×Ms:=
 if 200<=m.deep then (true,0,m.exh)
 else
  let r:=blF st g.body ⟨g.name,0,P,{ m with deep:=w64i (m.deep+1) },vsP g.ps a (vsL g.ls [])⟩
  if r.b=true then (true,0,r.q.m) else (false,r.q.ret,{ r.q.m with deep:=w64i (r.q.m.deep-1) })
def lpF(bl:Fa->Ro)(s:Sm):Nat->Fa->Ro
 |0,q=>⟨true,false,{ q with m:=q.m.exh }⟩
 |k+1,q=>
  if q.m.out=true then ⟨true,false,{ q with m:=q.m.exh }⟩
  else match cdF q.P q.m.spd q.vs s.cd with
   | .no j=>Fa.brk { q with m:=q.m.spd } s j
   | .ok false=>Fa.go { q with m:=q.m.spd }
   | .ok true=>
    let r:=bl { q with m:=q.m.spd }
    if r.b=true∨r.t=true then r else lpF bl s k r.q
def RO(s:Sm)(q:Fa)(r:Bool×Int×Ms):Ro:=
 if r.1=true then ⟨true,false,{ q with m:=r.2.2 }⟩
 else if (s.x==[])=true then Fa.go { q with m:=r.2.2 }
 else Fk { q with m:=r.2.2 } s r.2.1
def GQ(st:Sm->Fa->Ro)(s:Sm)(q:Fa):Ro:=match Fj q.P q.m q.vs s.ar with
 | .no j=>q.brk s j
 | .ok a=>match q.P.fi s.y with
  |none=>q.brk s 4
  |some i=>
   let g:=q.P.fs.getD i.toNat ⟨[],[],[],[]⟩
   if Dw g.ps a=false then q.brk s 4
   else RO s q (IX st q.P g a q.m)
def smF(st:Sm->Fa->Ro)(s:Sm)(q:Fa):Ro:=
 if s.k=0 then match evF q.P q.m q.vs s.e with
  | .no j=>q.brk s j
  | .ok v=>Fk q s v
 else if s.k=1 then match q.P.ci s.y with
  |none=>q.brk s 4
  |some _=>Fa.go { q with vs:=B5 q.vs s.x ⟨true,0,s.y⟩ }
 else if s.k=2 then Fa.go { q with vs:=B5 q.vs s.x ⟨true,0,(GB q.vs s.y).s⟩ }
 else if s.k=3 then Fa.go { q with vs:=B5 q.vs s.x ⟨true,0,[]⟩ }
 else if s.k=4 then match GC q s.y with
  | .no j=>q.brk s j
  | .ok i=>Fk q s (q.m.cell i)
 else if s.k=5 then match evF q.P q.m q.vs s.e with
  | .no j=>q.brk s j
  | .ok v=>match GC q s.x with
   | .no j=>q.brk s j
   | .ok i=>Fa.go { q with m:=q.m.set i v }
 else if s.k=6 then match evF q.P q.m q.vs s.e with
  | .no j=>q.brk s j
  | .ok i=>match FR q s i with
   | .no j=>q.brk s j
   | .ok k=>Fk q s ((q.m.arr k).getD i.toNat 0)
 else if s.k=7 then match evF q.P q.m q.vs s.e with
  | .no j=>q.brk s j
  | .ok i=>match evF q.P q.m q.vs s.f with
   | .no j=>q.brk s j
   | .ok v=>match FR q s i with
    | .no j=>q.brk s j
    | .ok k=>Fa.go { q with m:=q.m.put k i v }
 else if s.k=8 then GQ st s q
 else if s.k=9 then match evF q.P q.m q.vs s.e with
  | .no j=>q.brk s j
  | .ok v=>⟨false,true,{ q with ret:=v }⟩
 else if s.k=10 then match cdF q.P q.m q.vs s.cd with
  | .no j=>q.brk s j
  | .ok true=>blF st s.th q
  | .ok false=>blF st s.el q
 else if s.k=12 then match cdF q.P q.m q.vs s.cd with
  | .no j=>q.brk s j
  | .ok true=>q.go
  | .ok false=>q.brk s 3
 else q.go
def stF:Nat->Sm->Fa->Ro
 |0,_,q=>⟨true,false,{ q with m:=q.m.exh }⟩
 |n+1,s,q=>
  if s.k=11 then lpF (blF (stF n) s.th) s (n+1) q
  else if q.m.out=true then ⟨true,false,{ q with m:=q.m.exh }⟩
  else smF (stF n) s { q with m:=q.m.spd }
end Go.Proofs.YtapedeoheilnnaaGreat
