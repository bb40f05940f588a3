/- The chapter's example on reports. Conditions: the table of powers of ten is laid. -/
import Derived.Test.YtbiepiggmagfcaaGreatDoorPr6
import Derived.Test.YtbiepiggmagfcaaGreatDoorRp11
import Derived.Test.YtbiepiggmagfcaaGreatDoorSyC
import Derived.Deep.Draws
import Derived.LaidMore
import Derived.ProofKit
import Derived.OpenShut
import Derived.Test.YtbiepiggmagfcaaGreatDoorMk5
set_option linter.unusedVariables false
set_option linter.unusedSimpArgs false
set_option maxRecDepth 20000
set_option maxHeartbeats 4000000
open List (getElem?_eq_getElem)
namespace Go.Proofs.YtbiepiggmagfcaaGreatDoor
open Go Go.Sy Go.Shelf Go.RowKit
theorem xu:Lw [102,110,32,102,40,120,41,32,123,32,120,32,61,32,49,32,47,32,120,59,32] [(0,[102,110]),(0,[102]),(2,[40]),(0,[120]),(2,[41]),(2,[123]),(0,[120]),(2,[61]),(1,[49]),(2,[47]),(0,[120]),(2,[59])]:=Lp.of (n:=20) (fun i=>[⟨0,[102,110],((i+0:Nat):Int)⟩,⟨0,[102],((i+3:Nat):Int)⟩,⟨2,[40],((i+4:Nat):Int)⟩,⟨0,[120],((i+5:Nat):Int)⟩,⟨2,[41],((i+6:Nat):Int)⟩,⟨2,[123],((i+8:Nat):Int)⟩,⟨0,[120],((i+10:Nat):Int)⟩,⟨2,[61],((i+12:Nat):Int)⟩,⟨1,[49],((i+14:Nat):Int)⟩,⟨2,[47],((i+16:Nat):Int)⟩,⟨0,[120],((i+18:Nat):Int)⟩,⟨2,[59],((i+19:Nat):Int)⟩]) (by decide) (fun _=>rfl) (fun f i r out=>by kernel_rfl)
def kT29:List UInt8:=[102,110,32,102,40,120,41,32,123,32,120,32,61,32,49,32,47,32,120,59,32,125]
def xv:Cf:=⟨[102],[⟨[120],false⟩],[],[.asg [120] (.bin 5 (.num [49]) (.var [120]))]⟩
def A7v:Ex:=.mk 5 0 [] (.mk 0 1 [] .nil .nil) (.mk 1 0 [120] .nil .nil)
def Mb:Fn:=⟨[102],[⟨[120],false⟩],[],[.mk 0 [120] [] A7v .nil .nil [] [] [] 0]⟩
theorem A3A:nmO [102]:=⟨by decide,(idn (s:=[102]) (by decide) (by decide)).1⟩
theorem cR:nmO [120]:=⟨by decide,(idn (s:=[120]) (by decide) (by decide)).1⟩
theorem mk29:mkQ kT29 xv:=by
 refine⟨⟨A3A,?_,(fun v hv=>by cases hv),by decide,by decide,?_,by decide,by decide⟩,?_,by decide,by decide,by decide,by decide,?_,(fun v hv=>by cases hv)⟩
 ·intro v hv
  obtain rfl:=List.mem_singleton.1 (show v∈[(⟨[120],false⟩:Vr)] from hv)
  exact cR
 ·refine⟨⟨cR,.inr ⟨by decide,by decide,by decide,trivial,by show Dz [120]=false;decide⟩,⟨⟨49,[],rfl,by decide⟩,cR.2⟩⟩,trivial⟩
 ·exact(xu.wapp (Bs 125)).cast rfl rfl
 ·intro v hv
  obtain rfl:=List.mem_singleton.1 (show v∈[(⟨[120],false⟩:Vr)] from hv)
  exact Nat.le_refl _
theorem xw:xv.v=Mb:=by kernel_rfl
theorem xx:funF kT29=(Mb,0,0):=by
 obtain⟨T,e1,e2⟩:=TR mk29.z mk29.l
 rw[eJ mk29.ok e1 e2,xw]
theorem cT:RqF Mb∧RnF Mb:=by
 obtain⟨T,e1,e2⟩:=TR mk29.z mk29.l
 have h:=Sg kT29
 rw[e1]at h
 have r:=bM mk29 (by rw[← e2,List.length_map];exact h.1) (fun t ht=>by
  rw[← e2]at ht
  obtain⟨x,hx,rfl⟩:=List.mem_map.1 ht
  exact h.2 x hx)
 have n:=nN mk29
 rw[xw]at r n
 exact⟨r,n⟩
theorem A7w:Eo Mb [102] 8=(Mb,0,0):=by kernel_rfl
theorem A7x:pgF ⟨[102],kT29⟩ 8=[Mb]:=by
 unfold pgF
 dsimp only
 rw[xx]
 dsimp only
 rw[if_neg (by decide),A7w]
 rfl
theorem A7y:rpX [⟨0,0⟩] [] (lnF Mb)=[102,110,32,102,40,120,41,32,123,10,9,120,32,61,32,49,32,47,32,120,59,32,35,32,100,105,118,10,125,10]:=by kernel_rfl
theorem A7z:jnN (rpL Mb [⟨0,0⟩] [])=[102,110,32,102,40,120,41,32,123,10,9,120,32,61,32,49,32,47,32,120,59,32,35,32,100,105,118,10,125,10]:=by rw[Xc cT.2,A7y]
theorem A80:tbU [⟨[102],none,false,⟨false,0,0⟩,none⟩]=[102,32,110,101,118,101,114,32,110,111,110,101,32,48,10]:=by kernel_rfl
theorem A81:cAs.d (.one (.d (.sl zAl [[dI 0,dI 0]])))=some [⟨0,0⟩]:=Sp [⟨0,0⟩]
theorem A3B:cAs.d (.one (.d (.sl [.v (.int .i64 0),.v (.int .i64 0)] [[.v (.int .i64 0),.v (.int .i64 0)]])))=some [⟨0,0⟩]:=Sp [⟨0,0⟩]
theorem A82:cNs.d (.one (.v (.slice none 0 0)))=some []:=Df (e:=fun l:List Nt=>.one (.d (.sl zNt (l.map Nt.r)))) (a:=[]) (.inr ⟨rfl,rfl⟩)
theorem cU (n m:Nat):Cn Tryz.prog 21 AY Hy (fun p=>KX n m p.1 p.2.1 p.2.2.1) (fun a=>ofV ((fun p:Fn×List Al×List Nt×Unit=>Value.string (bs (jnN (rpL p.1 p.2.1 p.2.2.1)))) a)):=PY n m
theorem km:Cn Tryz.prog 23 AY Lr (fun p=>OO p.1) (fun a=>ofV ((fun p:List Su×Unit=>Value.string (bs (tbU p.1))) a)):=aD
theorem Yi:∀a:Fn×List Al×List Nt×Unit,okV ((fun p:Fn×List Al×List Nt×Unit=>Value.string (bs (jnN (rpL p.1 p.2.1 p.2.2.1)))) a)=true:=fun _=>rfl
theorem gf:∀a:List Su×Unit,okV ((fun p:List Su×Unit=>Value.string (bs (tbU p.1))) a)=true:=fun _=>rfl
section
variable {X:Ctx} {w0:World}
noncomputable def TB (n m:Nat) (hG:BB X w0 AY CX):Sy.Spec Tryz.prog X w0:=WF 21 Tryz.call21 AY Hy (fun p=>KX n m p.1 p.2.1 p.2.2.1) (fun p=>.string (bs (jnN (rpL p.1 p.2.1 p.2.2.1)))) Yi (cU n m) hG.stays
noncomputable def Xp (hG:BB X w0 AY CX):Sy.Spec Tryz.prog X w0:=WF 23 Tryz.call23 AY Lr (fun p=>OO p.1) (fun p=>.string (bs (tbU p.1))) gf km hG.stays
end
theorem kd5:(kdT 5==[99,97,108,108])=true:=by decide
theorem A83:(kdT 6==[63])=true:=by decide
theorem A84:cUs.d (.one (.d (.sl [dS [],.v (.slice none 0 0),.v (.bool false),.v (.bool false),dI 0,dI 0,.v (.slice none 0 0)] [[dS [102],.v (.slice none 0 0),.v (.bool false),.v (.bool false),dI 0,dI 0,.v (.slice none 0 0)]])))=some [⟨[102],none,false,⟨false,0,0⟩,none⟩]:=WH [⟨[102],none,false,⟨false,0,0⟩,none⟩]
theorem nS:∀x∈([⟨[102],none,false,⟨false,0,0⟩,none⟩]:List Su),okSu x:=by
 intro x hx
 rw[List.mem_singleton.1 hx]
 exact⟨by decide,⟨⟨by decide,by decide⟩,by decide,by decide⟩,by decide,by decide⟩
theorem A85:∃u:Un,[(⟨[102],kT29⟩:Un)]=[u]∧(u.s==KH)=false∧Dr u.t∧okF (funF u.t).1∧okB 5000 8 (funF u.t).1.body:=by
 refine⟨_,rfl,by decide,by unfold Dr;decide,?_⟩
 dsimp only
 rw[xx]
 exact⟨(show okF Mb from ⟨by decide,by decide⟩),T6 cT.1.p⟩
abbrev TC:Prop:=True
abbrev I4:SV:=.one (.v (.bool true))
noncomputable abbrev OP:ArgC (Unit):=ac0
abbrev TD:Prop:=Cn Tryz.prog 20 AY OP (fun p:Unit=>TC ) (fun p:Unit=>I4 )
theorem cV:∀p:Unit,((fun p:Unit=>I4 ) p).names=[]:=by intro p;rfl
noncomputable def TE {X:Ctx} {w0:World} (h:TD) (hG:BB X w0 AY CX):Sy.Spec Tryz.prog X w0:=FK 20 Tryz.call20 AY OP (fun p:Unit=>TC ) (fun p:Unit=>I4 ) (cV) h hG.stays
theorem gg:TD:=by
 rintro ⟨_u⟩ w fz xs hT hc hfz hl hx
 have hG:=Cj Br DA (fz:=fz) hT
 refine A9 Tryz.func20 rfl w fz [(Ka 5000 8 (y_Program 5000 8)),(TB 5000 8 hG),Fk,(Xp hG)] [] OP (fun p:Unit=>I4 ) _ xs hfz hl hx (jN rfl) ?_
 clear hx hl hfz xs
 simp only[Tryz.f20]
 have ok:=(gS cT.1 cT.2 (A:=[⟨0,0⟩]) (N:=[]) (by decide) (by decide)).1
 have h0:([⟨[102],kT29⟩]:List Un).headD ⟨[],[]⟩=⟨[102],kT29⟩:=rfl
 have hp:=A7x
 have hc:=A85
 unfold kT29 at h0 hp hc
 simp only[↓eB,seval,go_sem,Fn.c,GU,Dl,Dm,Ev,cy,cx,ni,Un.c,rJ,kc,lyA,lyV,lyS,lyL,lyC,A34,A35,Ka,TB,Xp,Fk,CW,pgC,Fn.r,zFn,Ht,h0,hp,A7z,A80,A81,A3B,A82,A84,kd5,A83]
 try simp only[A1,A2]
 repeat' first|exact ck|with_reducible apply And.intro|intro _
 all_goals first|exact ok|exact hc|(exact nS _ (by assumption))|exact nS|(rename_i h;first|exact oI h|exact nah h)|(rename_i _ h _ g;exact sL h g)|decide|omega|(refine A0 [] ?_;simp only[↓eB,seval,go_sem,bne,I4])
noncomputable def OQ {X:Ctx} {w0:World} (hG:BB X w0 AY CX):Sy.Spec Tryz.prog X w0:=TE gg hG
end Go.Proofs.YtbiepiggmagfcaaGreatDoor
namespace Go.Proofs.YtbiepiggmagfcaaGreatDoor
open Go Go.Sy Go.Shelf Go.RowKit
end Go.Proofs.YtbiepiggmagfcaaGreatDoor
namespace Go.Sy
open Go Go.RowKit Go.ChangeShapes Go.WideShapes Go.ChangeAt
def D0 {H:Type} (enc:TypeId×Value→H) (P:Program) (W:World) (t:TypeId) (fuel:Nat) {A:Type} (e:A→List D) (Q:A→Prop):Prop:=
 ∀(cs:List Value) (x:DataW H×List MemPlace),DataW.trod enc P W 0 (fun _=>true) true fuel t cs=some x→
  ∃a:A,Q a∧(e a).length=cs.length∧∀(j:Nat) (d:D),(e a)[j]?=some d→∃v,cs[j]?=some v∧Rd (hp W) (fun b=>b<W.heap.size) d v
abbrev Opn {H:Type} (enc:TypeId×Value→H) (P:Program) (W:World) (t:TypeId) {A:Type} (e:A→List D) (Q:A→Prop):Prop:=∀fuel,D0 enc P W t fuel e Q
section
variable {H:Type} {enc:TypeId×Value→H} {P:Program} {W:World} {t:TypeId} {fuel:Nat} {A B:Type} {e:A→List D} {Q:A→Prop}
theorem CV:D0 enc P W t 0 e Q:=by intro cs x h;simp[DataW.trod]at h
theorem DK (f:A→B) (e':B→List D) (Q':B→Prop) (h:D0 enc P W t fuel e Q) (he:∀a,e' (f a)=e a) (hq:∀a,Q a→Q' (f a)):D0 enc P W t fuel e' Q':=by
 intro cs x hx
 obtain⟨a,h1,h2,h3⟩:=h cs x hx
 exact⟨f a,hq a h1,by rw[he];exact h2,by rw[he];exact h3⟩
theorem HT {d:D} {v:Value} (r:Rd (hp W) (fun b=>b<W.heap.size) d v):∀(j:Nat) (d':D),[d][j]?=some d'→∃v',[v][j]?=some v'∧Rd (hp W) (fun b=>b<W.heap.size) d' v':=by
 intro j d' h
 cases j with
 |zero=>simp only[List.getElem?_cons_zero,jS]at h;subst h;exact⟨v,rfl,r⟩
 |succ j=>simp at h
theorem El {k:IntKind} (ht:P.underlying t=some (.int k)):D0 enc P W t fuel (fun n:Int=>[.v (.int k n)]) (fun n=>(Lit.int k n).wf=true):=by
 intro cs x h
 obtain⟨n,rfl,_,hw⟩:=DataW.trod_int ht h
 exact⟨n,hw,rfl,HT (.v _ rfl)⟩
theorem OR (ht:P.underlying t=some .string):D0 enc P W t fuel (fun l:List UInt8=>[.v (.string (bs l))]) (fun l=>l.length≤maxLen):=by
 intro cs x h
 obtain⟨s,rfl,_,hs⟩:=DataW.trod_string ht h
 refine⟨s.toList,by rw[EF]at hs;exact hs,rfl,?_⟩
 simp only[Oc]
 exact HT (.v _ rfl)
theorem HU {a:Addr} {n:Nat} {cs:List Value} (h:W.cells? 0 a n=some cs):cs.length=n∧∀j,j<n→W.cell? (a.add j)=cs[j]?:=by
 unfold World.cells? at h
 rw[if_pos (Nat.zero_le _)]at h
 exact⟨by simpa using mapM_some_length h,fun j hj=>mapM_some_get h j j (by simp[hj])⟩
theorem cell_spot {a:Addr} {v:Value} (h:W.cell? a=some v):a.spot=none∧∃arr T m,W.heap[a.block]?=some (.cells arr T m)∧arr[a.off]?=some v:=by
 unfold World.cell? at h
 split at h
 ·rename_i c e m hh
  split at h
  ·cases h
  ·rename_i hs
   exact⟨by simpa using hs,c,e,m,hh,h⟩
 ·cases h
theorem Pe (a:Addr):a.add 0=a:=rfl
theorem Pf (b off k:Nat):(⟨b,off,none⟩:Addr).add k=⟨b,off+k,none⟩:=by
 unfold Addr.add
 split
 ·rename_i h0
  have h0:k=0:=by simpa using h0
  subst h0;rfl
 ·rfl
theorem I5 {et:TypeId} (ht:P.underlying t=some (.slice et)) (z:List D) (hz:P.cellsOf et=z.length) (hp0:0<z.length) (h:D0 enc P W et fuel e Q) :
  D0 enc P W t (fuel+1) (fun l:List A=>[.sl z (l.map e)]) (fun l=>l.length≤maxLen∧∀a∈l,Q a):=by
 classical
 intro cs x hx
 rcases DataW.trod_slice ht hx with⟨rfl,_⟩|⟨a,len,cap,elems,rest,n,hn,rfl,_,_,hlc,hcm,hlen,hel,_,_⟩
 ·exact⟨[],⟨by simp,by simp⟩,rfl,HT (.nil _ _ _ fun _=>rfl)⟩
 ·obtain rfl:fuel=n:=by omega
  by_cases h0:len=0
  ·subst h0
   exact⟨[],⟨by simp,by simp⟩,rfl,HT (.nil _ _ _ fun h=>by cases h)⟩
  rw[hz]at hel
  have hE:∀i,i<len→∃cs' b,W.cells? 0 (a.add (i*z.length)) z.length=some cs'∧Q b∧(e b).length=z.length∧∀(j:Nat) (d:D),(e b)[j]?=some d→∃v,cs'[j]?=some v∧Rd (hp W) (fun b=>b<W.heap.size) d v:=by
   intro i hi
   have h1:=hel i hi
   rw[getElem?_eq_getElem (by omega)]at h1
   obtain⟨cs',c1,c2⟩:=Option.bind_eq_some_iff.1 h1
   obtain⟨b,b1,b2,b3⟩:=h cs' _ c2
   exact⟨cs',b,c1,b1,by rw[b2,(HU c1).1],b3⟩
  have hne:Nonempty A:=by obtain⟨_,b,_⟩:=hE 0 (by omega);exact⟨b⟩
  have hspot:a.spot=none:=by
   obtain⟨cs',_,c1,_⟩:=hE 0 (by omega)
   have h2:=(HU c1).2 0 hp0
   rw[Nat.zero_mul,Pe,Pe]at h2
   have h3:∃v,cs'[0]?=some v:=⟨_,getElem?_eq_getElem (by rw[(HU c1).1];exact hp0)⟩
   obtain⟨v,hv⟩:=h3
   rw[hv]at h2
   exact(cell_spot h2).1
  obtain⟨b,off,spot⟩:=a
  have hspot:spot=none:=hspot
  subst hspot
  obtain⟨f,hf⟩:∃f:Nat→A,∀i,i<len→∃cs',W.cells? 0 ((⟨b,off,none⟩:Addr).add (i*z.length)) z.length=some cs'∧Q (f i)∧(e (f i)).length=z.length∧∀(j:Nat) (d:D),(e (f i))[j]?=some d→∃v,cs'[j]?=some v∧Rd (hp W) (fun b=>b<W.heap.size) d v:=by
   refine Classical.axiomOfChoice (r:=fun i g=>i<len→∃cs',W.cells? 0 ((⟨b,off,none⟩:Addr).add (i*z.length)) z.length=some cs'∧Q g∧(e g).length=z.length∧∀(j:Nat) (d:D),(e g)[j]?=some d→∃v,cs'[j]?=some v∧Rd (hp W) (fun b=>b<W.heap.size) d v) ?_
   intro i
   by_cases hi:i<len
   ·obtain⟨cs',g,g1⟩:=hE i hi
    exact⟨g,fun _=>⟨cs',g1⟩⟩
   ·exact⟨Classical.choice hne,fun hi'=>absurd hi' hi⟩
  have hcell:∀i j,i<len→j<z.length→∃arr T m v,W.heap[b]?=some (.cells arr T m)∧arr[off+i*z.length+j]?=some v∧∀d,(e (f i))[j]?=some d→Rd (hp W) (fun b=>b<W.heap.size) d v:=by
   intro i j hi hj
   obtain⟨cs',c1,_,_,c2⟩:=hf i hi
   have h2:=(HU c1).2 j hj
   obtain⟨v,hv⟩:∃v,cs'[j]?=some v:=⟨_,getElem?_eq_getElem (by rw[(HU c1).1];exact hj)⟩
   rw[hv,Pf,Pf]at h2
   obtain⟨_,arr,T,m,h3,h4⟩:=cell_spot h2
   refine⟨arr,T,m,v,h3,h4,fun d hd=>?_⟩
   obtain⟨v',h5,h6⟩:=c2 j d hd
   rw[hv]at h5
   obtain rfl:=Option.some.inj h5
   exact h6
  obtain⟨arr,T,m,_,hb,_,_⟩:=hcell 0 0 (by omega) hp0
  have hlt:b<W.heap.size:=(Array.getElem?_eq_some_iff.1 hb).1
  have hcell':∀i j,i<len→j<z.length→∃v,arr[off+i*z.length+j]?=some v∧∀d,(e (f i))[j]?=some d→Rd (hp W) (fun b=>b<W.heap.size) d v:=by
   intro i j hi hj
   obtain⟨arr',T',m',v,h1,h2,h3⟩:=hcell i j hi hj
   rw[hb]at h1
   simp only[jS,Obj.cells.injEq]at h1
   obtain⟨rfl,_,_⟩:=h1
   exact⟨v,h2,h3⟩
  have hget:∀(i:Nat) (r:List D),(((List.range len).map f).map e)[i]?=some r→i<len∧r=e (f i):=by
   intro i r hr
   simp only[List.getElem?_map,Option.map_eq_some_iff]at hr
   obtain⟨a',⟨a'',h1,rfl⟩,rfl⟩:=hr
   have hi:=(List.getElem?_eq_some_iff.1 h1).1
   simp only[List.length_range]at hi
   rw[List.getElem?_range hi]at h1
   obtain rfl:=Option.some.inj h1
   exact⟨hi,rfl⟩
  have hll:(((List.range len).map f).map e).length=len:=by simp
  have key:Rd (hp W) (fun b=>b<W.heap.size) (.sl z (((List.range len).map f).map e)) (.slice (some ⟨b,off,none⟩) (((List.range len).map f).map e).length cap):=by
   refine .sl z _ b off cap arr T m (fun i j=>(arr[off+i*z.length+j]?).getD (.bool false)) hlt hb (by omega) ?_ ?_ ?_
   ·intro i r hr
    obtain⟨h1,rfl⟩:=hget i r hr
    obtain⟨_,_,_,h2,_⟩:=hf i h1
    exact h2
   ·intro i j r d hr hd
    obtain⟨h1,rfl⟩:=hget i r hr
    obtain⟨_,_,_,h2,_⟩:=hf i h1
    obtain⟨v,h3,_⟩:=hcell' i j h1 (by have:=(List.getElem?_eq_some_iff.1 hd).1;omega)
    rw[h3];rfl
   ·intro i j r d hr hd
    obtain⟨h1,rfl⟩:=hget i r hr
    obtain⟨_,_,_,h2,_⟩:=hf i h1
    obtain⟨v,h3,h4⟩:=hcell' i j h1 (by have:=(List.getElem?_eq_some_iff.1 hd).1;omega)
    simp only[h3,Option.getD_some]
    exact h4 d hd
  rw[hll]at key
  refine⟨(List.range len).map f,⟨by simp;omega,?_⟩,rfl,HT key⟩
  intro a' ha
  obtain⟨i,hi,rfl⟩:=List.mem_map.1 ha
  obtain⟨_,_,h1,_⟩:=hf i (by simpa using hi)
  exact h1
theorem kn {et:TypeId} (ht:P.underlying t=some (.pointer et)) (hp0:0<P.cellsOf et) (h:D0 enc P W et fuel e Q) :
  D0 enc P W t (fuel+1) (fun o:Option A=>[.pt (o.map e)]) (fun o=>∀a,o=some a→Q a):=by
 intro cs x hx
 rcases DataW.trod_pointer ht hx with⟨rfl,_⟩|⟨a,cs',y,n,hn,rfl,_,hcs,hy⟩
 ·exact⟨none,by simp,rfl,HT .pnil⟩
 ·obtain rfl:fuel=n:=by omega
  obtain⟨b,h1,h2,h3⟩:=h cs' y hy
  obtain⟨c1,c2⟩:=HU hcs
  obtain⟨v0,hv0⟩:∃v,cs'[0]?=some v:=⟨_,getElem?_eq_getElem (by omega)⟩
  have h4:=c2 0 hp0
  rw[hv0,Pe]at h4
  obtain⟨hspot,arr,T,m,hb,_⟩:=cell_spot h4
  obtain⟨bl,off,spot⟩:=a
  have hspot:spot=none:=hspot
  subst hspot
  have hlt:bl<W.heap.size:=(Array.getElem?_eq_some_iff.1 hb).1
  have hcell:∀(j:Nat) (d:D),(e b)[j]?=some d→∃v,arr[off+j]?=some v∧Rd (hp W) (fun b=>b<W.heap.size) d v:=by
   intro j d hd
   obtain⟨v,h5,h6⟩:=h3 j d hd
   have hj:j<P.cellsOf et:=by have:=(List.getElem?_eq_some_iff.1 h5).1;omega
   have h7:=c2 j hj
   rw[h5,Pf]at h7
   obtain⟨_,arr',T',m',g1,g2⟩:=cell_spot h7
   have g1:W.heap[bl]?=some (.cells arr' T' m'):=g1
   have hb:W.heap[bl]?=some (.cells arr T m):=hb
   rw[hb]at g1
   simp only[jS,Obj.cells.injEq]at g1
   obtain⟨rfl,_,_⟩:=g1
   exact⟨v,g2,h6⟩
  refine⟨some b,by rintro a ⟨⟩;exact h1,rfl,HT ?_⟩
  refine .pt (e b) bl off arr T m (fun j=>(arr[off+j]?).getD (.bool false)) hlt hb ?_ ?_
  ·intro j d hd
   obtain⟨v,h5,_⟩:=hcell j d hd
   rw[h5];rfl
  ·intro j d hd
   obtain⟨v,h5,h6⟩:=hcell j d hd
   simp only[h5,Option.getD_some]
   exact h6
def cW {H:Type} (enc:TypeId×Value→H) (P:Program) (W:World) (fs:List Field) (fuel o n:Nat) {A:Type} (e:A→List D) (Q:A→Prop):Prop:=
 ∀(cs:List Value) (xs:List (DataW H×List MemPlace)),(∀(i:Nat) (f:Field),fs[i]?=some f→DataW.trod enc P W 0 (fun _=>true) true fuel f.type ((cs.drop f.offset).take (P.cellsOf f.type))=xs[i]?)→xs.length=fs.length→cs.length=o+n→
  ∃a:A,Q a∧(e a).length=n∧∀(j:Nat) (d:D),(e a)[j]?=some d→∃v,cs[o+j]?=some v∧Rd (hp W) (fun b=>b<W.heap.size) d v
theorem H4 (o:Nat):cW enc P W [] fuel o 0 (fun _:Unit=>[]) (fun _=>True):=by
 intro cs xs _ _ _
 exact⟨(),trivial,rfl,by simp⟩
theorem BK {f:Field} {fs:List Field} {o m n:Nat} {e2:B→List D} {Q2:B→Prop} (hf:f.offset=o) (hm:P.cellsOf f.type=m) (h1:D0 enc P W f.type fuel e Q) (h2:cW enc P W fs fuel (o+m) n e2 Q2) :
  cW enc P W (f::fs) fuel o (m+n) (fun p:A×B=>e p.1++e2 p.2) (fun p=>Q p.1∧Q2 p.2):=by
 intro cs xs hx hl hcl
 have g0:=hx 0 f rfl
 rw[getElem?_eq_getElem (by simp[hl]),hf,hm]at g0
 obtain⟨a,a1,a2,a3⟩:=h1 _ _ g0
 obtain⟨b,b1,b2,b3⟩:=h2 cs (xs.drop 1) (fun i g hg=>by
  have:=hx (i+1) g (by simpa using hg)
  rw[this,List.getElem?_drop,Nat.add_comm]) (by simp[hl]) (by omega)
 have hal:(e a).length=m:=by rw[a2,List.length_take,List.length_drop,hcl];omega
 refine⟨(a,b),⟨a1,b1⟩,by simp[hal,b2],fun j d hd=>?_⟩
 simp only at hd
 by_cases hj:j<m
 ·rw[List.getElem?_append_left (by omega)]at hd
  obtain⟨v,v1,v2⟩:=a3 j d hd
  rw[List.getElem?_take,if_pos hj,List.getElem?_drop]at v1
  exact⟨v,v1,v2⟩
 ·rw[List.getElem?_append_right (by omega),hal]at hd
  obtain⟨v,v1,v2⟩:=b3 _ d hd
  exact⟨v,by rw[← v1];congr 1;omega,v2⟩
theorem EB {fs:Array Field} {n:Nat} (ht:P.underlying t=some (.struct fs)) (hn:P.cellsOf t=n) (h:cW enc P W fs.toList fuel 0 n e Q):D0 enc P W t (fuel+1) e Q:=by
 intro cs x hx
 obtain⟨xs,m,hm,_,hl,hxl,hf⟩:=DataW.trod_struct ht hx
 obtain rfl:fuel=m:=by omega
 obtain⟨a,a1,a2,a3⟩:=h cs xs (fun i f hi=>hf i f (by simpa using hi)) (by simpa using hxl) (by omega)
 exact⟨a,a1,by omega,fun j d hd=>by simpa using a3 j d hd⟩
end
section
variable {H:Type} {enc:TypeId×Value→H} {P:Program} {W:World} {t:TypeId} {A:Type} {e:A→List D} {Q:A→Prop}
theorem A3C {h:Aj} {fz:Nat→Prop} {d:D} {x:Value} (r:Rd h fz d x):CD h fz (.one (oD d)) x:=IG (H:=fun _=>none) (LC d) (Y9 r)
theorem OS {r:Reach} {base:Nat} {v:Value} {d:DataW H} {p:List MemPlace} {f:A→D} (hv:v.cells.toList=[v]) (h:DataW.Trod enc P W 0 (fun _=>true) true t v d p) (ho:Opn enc P W t (fun a=>[f a]) Q) :
  ∃a:A,Q a∧CD (hp W) (fun b=>b<W.heap.size) (.one (oD (f a))) v:=by
 obtain⟨fuel,hf⟩:=h
 obtain⟨a,a1,a2,a3⟩:=ho fuel _ _ hf
 obtain⟨v',v1,v2⟩:=a3 0 (f a) rfl
 rw[hv]at v1
 simp only[List.getElem?_cons_zero,jS]at v1
 subst v1
 exact⟨a,a1,A3C v2⟩
theorem MO {r:Reach} {base:Nat} {v:Value} {et:TypeId} (ht:P.underlying t=some (.slice et)) (hv:Value.okWide P W r base t v):v.cells.toList=[v]:=by
 obtain⟨a,l,c,rfl⟩:=okWide_slice ht hv
 rfl
end
end Go.Sy
namespace Go.Proofs.YtbiepiggmagfcaaGreatDoor
open Go Go.Sy Go.RowKit
theorem vV (l:List Int):cBy.d (.one (.d (.sl zBy (l.map byD))))=some l:=bR l
theorem vW:zBy.length=1:=rfl
def plF (k:Int):Int:=if decide (k.tmod 4<0)=true then Ad (k.tmod 4+4) else k.tmod 4
theorem mW (k:Int) : -4<k.tmod 4∧k.tmod 4<4:=by
 refine⟨?_,Int.tmod_lt_of_pos k (by decide)⟩
 have:=Int.tmod_lt_of_pos (-k) (b:=4) (by decide)
 rw[Int.neg_tmod]at this
 omega
theorem vX (k:Int):0≤plF k∧plF k<4:=by
 have:=mW k
 unfold plF
 split
 ·rename_i h
  have h:=of_decide_eq_true h
  unfold Ad;rw[wrap_i64 (by omega) (by omega)];omega
 ·rename_i h
  simp only[decide_eq_true_eq]at h
  omega
abbrev WT (k:Int) (n:Int):Prop:=n=4
abbrev Gi (k:Int) (n:Int):SV:=SV.one (.v (.int .i64 (plF k)))
theorem oL:AP Tryz.prog 9 (acS (cInt .i64) (acS (cInt .i64) ac0)) (fun p:(Int×(Int×Unit))=>WT p.1 p.2.1) (fun p:(Int×(Int×Unit))=>Gi p.1 p.2.1):=by
 rintro ⟨k,n,_u⟩ w fz xs hc hfz hl hx
 refine A9 Tryz.func9 rfl w fz [] [] (acS (cInt .i64) (acS (cInt .i64) ac0)) (fun p:(Int×(Int×Unit))=>Gi p.1 p.2.1) _ xs hfz hl hx (jN rfl) ?_
 clear hx hl hfz xs
 simp only[Tryz.f9]
 have hc:n=4:=hc
 subst hc
 have h1:=mW k
 cases h2:decide (k.tmod 4<0) with
 |true=>
  have hr:plF k=Ad (k.tmod 4+4):=by unfold plF;rw[if_pos h2]
  simp only[↓eB,seval,go_sem,h2]
  try simp only[A1,A2]
  repeat' first|exact ck|with_reducible apply And.intro|intro _
  all_goals first|exact h1|(rename_i h;first|exact oI h|exact nah h)|(rename_i _ h _ g;exact sL h g)|decide|omega|(refine A0 [] ?_;simp only[↓eB,seval,go_sem,bne,Gi,hr])
 |false=>
  have hr:plF k=k.tmod 4:=by unfold plF;rw[if_neg (by rw[h2];decide)]
  simp only[↓eB,seval,go_sem,h2]
  try simp only[A1,A2]
  repeat' first|exact ck|with_reducible apply And.intro|intro _
  all_goals first|exact h1|(rename_i h;first|exact oI h|exact nah h)|(rename_i _ h _ g;exact sL h g)|decide|omega|(refine A0 [] ?_;simp only[↓eB,seval,go_sem,bne,Gi,hr])
theorem jH:∀p:(Int×(Int×Unit)),((fun p:(Int×(Int×Unit))=>Gi p.1 p.2.1) p).names=[]:=by intro p;first|rfl|simp[SV.names,C.names]
noncomputable def RC {X:Ctx} {w0:World}:Sy.Spec Tryz.prog X w0:=Am 9 Tryz.call9 (acS (cInt .i64) (acS (cInt .i64) ac0)) (fun p:(Int×(Int×Unit))=>WT p.1 p.2.1) (fun p:(Int×(Int×Unit))=>Gi p.1 p.2.1) jH oL
end Go.Proofs.YtbiepiggmagfcaaGreatDoor
