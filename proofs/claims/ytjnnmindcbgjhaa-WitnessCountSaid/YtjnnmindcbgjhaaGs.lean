/- The rules of the walks, in one set. No conditions but those in each statement. -/
import Derived.Test.YtjnnmindcbgjhaaOp
import Derived.Test.YtjnnmindcbgjhaaTy2
set_option linter.unusedVariables false
set_option linter.unusedSimpArgs false
open List (mem_singleton)
namespace Go.Proofs.Ytjnnmindcbgjhaa
open Go Go.Sy Go.RowKit
set_option linter.defProp false in
def eB:=And.intro @e_nil (And.intro @e_cons (And.intro @e_text (And.intro @e_draw (And.intro @e_seq (And.intro @e_block (And.intro @e_then1 (And.intro @e_then2 (And.intro @e_then3 (And.intro @e_in1 (And.intro @e_in2 (And.intro @e_in3 (And.intro @e_nrmK (And.intro @e_textT (And.intro @e_drawK (And.intro @e_fac0 (And.intro @e_fac1 (And.intro @e_fac2 (And.intro @e_fac3 (And.intro @e_seqK (And.intro @e_ret (And.intro @e_skip (And.intro @e_label (And.intro @e_exit (And.intro @e_cond (And.intro @e_loop (And.intro @e_impBt (And.intro @e_impBf (And.intro @e_impNt @e_impNf))))))))))))))))))))))))))))
theorem sW {r0:List C} (h:r0.all C.stor=true):∀r∈[r0],∀c∈r,C.stor c=true:=by
 intro r h1 c h2
 rw[mem_singleton]at h1
 subst h1
 exact List.all_eq_true.1 h c h2
attribute [go_sem] wD wE wG A6M pi pj pk A6N iy wI VM pm IJ I9 opG guarded slotOf Su WT guardOf opS fresh rV KY PZ Pa Rx Ml QE S2 Xc flB II Gu Hx KZ J8 QA ptrA Em Mm En Mn boI J9 KC KD JA Mo M2 HR lkV QB WR iK DT JB O8 S0 JE iL Kc A1k pnN wkL wkR pB du Rz Dd inP GV A5u A5v A0P A5w A0Q A0R A5x tT R9 Ry unV VA aZ MN Si Ip JM HQ Kb GD Hd JD ah S1 reads JX F8 EO HP GB GC setAll Jr MD Sh tgN A1W A1X A1Y A6B A6C A6D A1Z A1a A1b A6E A6F A6G A1c A1d A1e ve vf A6H A6I A6J vg vh A1f A1g A1h A1i A1j ldc ldV tU A5y A5z A60 A61 A0S A0T A0U A0V A62 A0W clL Nd A5p A0I A0J A0K V9 eqL eqC iH arI aY rdv rdg okV lkp St.app Y0 iZ ofV SV.tupB SV.cells tN A5Q A5R A5S A5T zq zr zs zu A5U zw C.flat Fq Kg RM Dk MQ toP updH capN List.getElem?_nil A1V H5 wM wN bR pq jE jD A1w A1x A1y A1z bP bQ VO VP OZ ndB updM QP Oa tP A5a A5b A5c A5d A03 A04 A05 A06 A5e A07 nmM chO Ew memO A20 A21 A22 A23 A24 A25 A26 A27 jF take_len A28 A29 A2A A2B Nat.sub_zero Ln Lo ph ir pr jH po iz bO A1t A1s A1v A1u bN wJ wK A1q A1r slR slD QM T1 toD Eu D4 List.length_map Int.toNat_natCast Int.natCast_nonneg A1o A1n HU HT bM eT pe io pg iq bK WU dt aX Option.map_some Option.getD_some Option.getD_none Option.map_none Option.bind_some List.all_cons List.all_nil Bool.and_true Bool.true_and Bool.and_self Bool.not_not true_and and_true and_self true_or or_true forall_const true_implies imp_self implies_true List.getElem?_cons_zero List.getElem?_cons_succ List.getElem?_toArray List.length_cons List.length_nil List.map_cons List.map_nil List.set_cons_zero List.set_cons_succ List.length_set List.drop_zero List.drop_succ_cons List.take_succ_cons List.take_zero List.getD_cons_zero List.getD_cons_succ ne_eq not_false_eq_true Nat.le_refl Int.toNat_zero Nat.zero_mul Nat.zero_add Nat.add_zero Nat.one_mul jB Bool.not_false Bool.not_true Bool.or_false Bool.false_or Bool.or_true Bool.true_or Bool.and_false Bool.false_and Bool.not_eq_false' Bool.not_eq_true' Bool.or_self wrap_i64 wrap_u64 wrap_u8 Int.natCast_zero Int.natCast_one Int.cast_ofNat_Int Int.lt_irrefl decide_false decide_true Nat.lt_irrefl Nat.lt_add_one Int.toNat_one List.take_nil List.drop_nil List.flatMap_cons List.flatMap_nil List.append_nil List.nil_append List.cons_append List.append_eq List.any_nil List.any_cons List.contains_cons List.contains_nil tO A5V A5W A5X A5Y zx zy A00 A01 A5Z A02 SV.names pNames List.mem_cons List.not_mem_nil or_false forall_eq forall_eq_or_imp and_imp false_implies mem_singleton not_true_eq_false if_true if_false tL lY leV leL leT leP Fi Gg Ja eR Jw chNames Kf tM A5L A5M A5N A5O zk zl zm zo A5P zp Cmd.run ia tS A5q A5r A5s A5t A0L A0M A0N A0O QK bG bF bH bI ie S4 fzS tQ A5f A5g A5h A5i A08 A09 A0A A0B A5j A0C tR A5k A5l A5m A5n A0D A0E A0F A0G A5o A0H VK OC VI Ll To1 memF Sy.Sub wH A1p
attribute [go_sem] ya2 A6b A74 A7U A7t A8E xO A97 A9V A33 A3N A3j A47 qm A4i rT
theorem ck {o:Array Oper} {t:Sy.Trace} (h:RL o t=true:=by kernel_rfl):RL o t=true:=h
theorem sL {r0 r:List C} {c:C} (h1:r∈[r0]) (h2:c∈r) (h:r0.all C.stor=true:=by simp only[go_sem]):C.stor c=true:=sW h r h1 c h2
theorem oI {A:Type} {a b:A} (h:some a=some b):b=a:=(Option.some.inj h).symm
theorem nah {p q:Prop} (h:p) (k:¬p:=by decide):q:=absurd h k
end Go.Proofs.Ytjnnmindcbgjhaa
namespace Go.Proofs.Ytjnnmindcbgjhaa
open Go Go.Sy Go.RowKit
inductive Ex where
 |nil
 |mk (k n:Int) (s:List UInt8) (a b:Ex)
inductive Cd where
 |nil
 |mk (k:Int) (a b:Ex) (p q:Cd) (s:List UInt8)
structure Ar where
 p:Bool
 s:List UInt8
 e:Ex
inductive Sm where
 |mk (k:Int) (x y:List UInt8) (e f:Ex) (c:Cd) (args:List Ar) (th el:List Sm) (no:Int)
structure Vr where
 s:List UInt8
 p:Bool
structure Fn where
 name:List UInt8
 ps:List Vr
 ls:List Vr
 body:List Sm
structure Tok where
 k:Int
 t:List UInt8
 p:Int
abbrev dN:D:=.v (.pointer none)
abbrev dI (n:Int):D:=.v (.int .i64 n)
abbrev dS (s:List UInt8):D:=.v (.string (bs s))
abbrev dL0:D:=.v (.slice none 0 0)
def Ex.d:Ex→D
 | .nil=>dN
 | .mk k n s a b=>.pt (some [dI k,dI n,dS s,a.d,b.d])
def Cd.d:Cd→D
 | .nil=>dN
 | .mk k a b p q s=>.pt (some [dI k,a.d,b.d,p.d,q.d,dS s])
def Ar.r (a:Ar):List D:=[.v (.bool a.p),dS a.s,a.e.d]
def zAr:List D:=[.v (.bool false),dS [],dN]
def zSm:List D:=[dI 0,dS [],dS [],dN,dN,dN,dL0,dL0,dL0,dI 0]
mutual
def Sm.r:Sm→List D
 | .mk k x y e f c args th el no=>[dI k,dS x,dS y,e.d,f.d,c.d,.sl zAr (args.map Ar.r),.sl zSm (Sm.rs th),.sl zSm (Sm.rs el),dI no]
def Sm.rs:List Sm→List (List D)
 |[]=>[]
 |s::l=>s.r::Sm.rs l
end
theorem bj:∀l:List Sm,Sm.rs l=l.map Sm.r
 |[]=>by simp[Sm.rs]
 |s::l=>by simp only[Sm.rs,List.map_cons,bj l]
def Vr.r (v:Vr):List D:=[dS v.s,.v (.bool v.p)]
def zVr:List D:=[dS [],.v (.bool false)]
def Fn.r (f:Fn):List D:=[dS f.name,.sl zVr (f.ps.map Vr.r),.sl zVr (f.ls.map Vr.r),.sl zSm (f.body.map Sm.r)]
def zFn:List D:=[dS [],dL0,dL0,dL0]
def Tok.r (x:Tok):List D:=[dI x.k,dS x.t,dI x.p]
def zTk:List D:=[dI 0,dS [],dI 0]
theorem fB:ByteArray.empty=bs []:=rfl
theorem bs_inj {a b:List UInt8} (h:bs a=bs b):a=b:=by rw[← H5 a,← H5 b,h]
theorem K0:∀{a b:Ex},a.d=b.d→a=b
 | .nil,.nil,_=>rfl
 | .nil,.mk ..,h=>by simp[Ex.d]at h
 | .mk ..,.nil,h=>by simp[Ex.d]at h
 | .mk k n s a b,.mk k' n' s' a' b',h=>by
  simp only[Ex.d,D.pt.injEq,jS,List.cons.injEq,D.v.injEq,Value.int.injEq,Value.string.injEq,true_and,and_true]at h
  obtain⟨rfl,rfl,h1,h2,h3⟩:=h
  rw[bs_inj h1,K0 h2,K0 h3]
theorem RQ:∀{a b:Cd},a.d=b.d→a=b
 | .nil,.nil,_=>rfl
 | .nil,.mk ..,h=>by simp[Cd.d]at h
 | .mk ..,.nil,h=>by simp[Cd.d]at h
 | .mk k a b p q s,.mk k' a' b' p' q' s',h=>by
  simp only[Cd.d,D.pt.injEq,jS,List.cons.injEq,D.v.injEq,Value.int.injEq,Value.string.injEq,true_and,and_true]at h
  obtain⟨rfl,h1,h2,h3,h4,h5⟩:=h
  rw[bs_inj h5,K0 h1,K0 h2,RQ h3,RQ h4]
theorem Ay {A B:Type} {f:A→B} (hf:∀a b,f a=f b→a=b):∀{l m:List A},l.map f=m.map f→l=m
 |[],[],_=>rfl
 |[],_::_,h=>by simp at h
 |_::_,[],h=>by simp at h
 |a::l,b::m,h=>by
  simp only[List.map_cons,List.cons.injEq]at h
  rw[hf _ _ h.1,Ay hf h.2]
theorem bk (a b:Ar) (h:a.r=b.r):a=b:=by
 obtain⟨p,s,e⟩:=a
 obtain⟨p',s',e'⟩:=b
 simp only[Ar.r,List.cons.injEq,D.v.injEq,Value.bool.injEq,Value.string.injEq,and_true]at h
 obtain⟨rfl,h1,h2⟩:=h
 rw[bs_inj h1,K0 h2]
mutual
theorem Mw:∀(a b:Sm),a.r=b.r→a=b
 | .mk k x y e f c args th el no,.mk k' x' y' e' f' c' args' th' el' no',h=>by
  simp only[Sm.r,List.cons.injEq,D.v.injEq,D.sl.injEq,Value.int.injEq,Value.string.injEq,true_and,and_true]at h
  obtain⟨rfl,h1,h2,h3,h4,h5,h6,h7,h8,rfl⟩:=h
  rw[bs_inj h1,bs_inj h2,K0 h3,K0 h4,RQ h5,Ay bk h6,UP th th' h7,UP el el' h8]
theorem UP:∀(l m:List Sm),Sm.rs l=Sm.rs m→l=m
 |[],[],_=>rfl
 |[],_::_,h=>by simp[Sm.rs]at h
 |_::_,[],h=>by simp[Sm.rs]at h
 |a::l,b::m,h=>by
  simp only[Sm.rs,List.cons.injEq]at h
  rw[Mw a b h.1,UP l m h.2]
end
theorem Qe (a b:Vr) (h:a.r=b.r):a=b:=by
 obtain⟨s,p⟩:=a
 obtain⟨s',p'⟩:=b
 simp only[Vr.r,List.cons.injEq,D.v.injEq,Value.bool.injEq,Value.string.injEq,and_true]at h
 rw[bs_inj h.1,h.2]
theorem Wd (a b:Fn) (h:a.r=b.r):a=b:=by
 obtain⟨n,ps,ls,bd⟩:=a
 obtain⟨n',ps',ls',bd'⟩:=b
 simp only[Fn.r,List.cons.injEq,D.v.injEq,D.sl.injEq,Value.string.injEq,true_and,and_true]at h
 rw[bs_inj h.1,Ay Qe h.2.1,Ay Qe h.2.2.1,Ay Mw h.2.2.2]
theorem bm (a b:Tok) (h:a.r=b.r):a=b:=by
 obtain⟨s,p,q⟩:=a
 obtain⟨s',p',q'⟩:=b
 simp only[Tok.r,List.cons.injEq,D.v.injEq,Value.int.injEq,Value.string.injEq,and_true,true_and]at h
 rw[h.1,bs_inj h.2.1,h.2.2]
theorem We (d:D):toD (oD d)=some d:=by cases d<;>rfl
theorem YZ (d:D):Dm (oD d)=true:=by cases d<;>rfl
theorem Ya (d:D):(oD d).flat=true:=by cases d<;>rfl
theorem bp (n:Nat) (d:D):C0 n (oD d)=true:=by cases d<;>rfl
theorem bq (f:Nat→Nat) (d:D):Ey f (oD d)=oD d:=by cases d<;>rfl
theorem jW (k t:Nat) (d:D):mvC k t (oD d)=oD d:=by cases d<;>rfl
theorem jX (k:Nat) (z:List D) (es:List (List D)) (d:D):fzC k z es (oD d)=oD d:=by cases d<;>rfl
theorem br (k u:Nat) (p:List (Nat×Nat)) (i j:Nat) (d:D) (r:List C):ldc k u p i j (oD d::r)=oD d::ldc k u p i (j+1) r:=by cases d<;>rfl
def Ex.isNil:Ex→Bool
 | .nil=>true
 |_=>false
def Cd.isNil:Cd→Bool
 | .nil=>true
 |_=>false
def exC (e:Ex):C:=oD e.d
theorem zV (e:Ex):oD e.d=exC e:=rfl
theorem Wf (e:Ex):toD (exC e)=some e.d:=We _
theorem kV (e:Ex):Dm (exC e)=true:=YZ _
theorem UQ (e:Ex):C.stor (exC e)=true:=Pd _
theorem Ff (e:Ex):C.names (exC e)=[]:=QC _
theorem kW (e:Ex):(exC e).flat=true:=Ya _
theorem AO (n:Nat) (e:Ex):C0 n (exC e)=true:=bp n _
theorem sX (f:Nat→Nat) (e:Ex):Ey f (exC e)=exC e:=bq f _
theorem zW (k t:Nat) (e:Ex):mvC k t (exC e)=exC e:=jW k t _
theorem zX (k:Nat) (z:List D) (es:List (List D)) (e:Ex):fzC k z es (exC e)=exC e:=jX k z es _
theorem sY (k u:Nat) (p:List (Nat×Nat)) (i j:Nat) (e:Ex) (r:List C):ldc k u p i j (exC e::r)=exC e::ldc k u p i (j+1) r:=br ..
theorem kX (e:Ex):Ka (exC e)=some e.isNil:=by cases e<;>rfl
theorem AY:exC .nil= .v (.pointer none):=rfl
def cdC (e:Cd):C:=oD e.d
theorem zY (e:Cd):oD e.d=cdC e:=rfl
theorem bt (e:Cd):toD (cdC e)=some e.d:=We _
theorem kY (e:Cd):Dm (cdC e)=true:=YZ _
theorem Yb (e:Cd):C.stor (cdC e)=true:=Pd _
theorem H9 (e:Cd):C.names (cdC e)=[]:=QC _
theorem kZ (e:Cd):(cdC e).flat=true:=Ya _
theorem AP (n:Nat) (e:Cd):C0 n (cdC e)=true:=bp n _
theorem sZ (f:Nat→Nat) (e:Cd):Ey f (cdC e)=cdC e:=bq f _
theorem zZ (k t:Nat) (e:Cd):mvC k t (cdC e)=cdC e:=jW k t _
theorem za (k:Nat) (z:List D) (es:List (List D)) (e:Cd):fzC k z es (cdC e)=cdC e:=jX k z es _
theorem sd (k u:Nat) (p:List (Nat×Nat)) (i j:Nat) (e:Cd) (r:List C):ldc k u p i j (cdC e::r)=cdC e::ldc k u p i (j+1) r:=br ..
theorem ke (e:Cd):Ka (cdC e)=some e.isNil:=by cases e<;>rfl
theorem Ao:cdC .nil= .v (.pointer none):=rfl
theorem DL (k n:Int) (s:List UInt8) (a b:Ex):exC (.mk k n s a b)= .d (.pt (some [.v (.int .i64 k),.v (.int .i64 n),.v (.string (bs s)),a.d,b.d])):=rfl
theorem DC (k:Int) (a b:Ex) (p q:Cd) (s:List UInt8):cdC (.mk k a b p q s)= .d (.pt (some [.v (.int .i64 k),a.d,b.d,p.d,q.d,.v (.string (bs s))])):=rfl
theorem Fw:Ex.d .nil= .v (.pointer none):=rfl
theorem Oe:Cd.d .nil= .v (.pointer none):=rfl
structure Pr where
 l:List Tok
 i:Int
 en:Int
 e:Int
 at':Int
 deep:Int
 n:Int
theorem AQ (p:Pr):(⟨p.l,p.i,p.en,p.e,p.at',p.deep,p.n⟩:Pr)=p:=rfl
def Pr.r (p:Pr):List D:=[.sl zTk (p.l.map Tok.r),dI p.i,dI p.en,dI p.e,dI p.at',dI p.deep,dI p.n]
def Pr.c (p:Pr):List C:=[.d (.sl zTk (p.l.map Tok.r)),.v (.int .i64 p.i),.v (.int .i64 p.en),.v (.int .i64 p.e),.v (.int .i64 p.at'),.v (.int .i64 p.deep),.v (.int .i64 p.n)]
def sf:List D:=[dL0,dI 0,dI 0,dI 0,dI 0,dI 0,dI 0]
abbrev zPr:List C:=[.v (.int .i64 0),.v (.int .i64 0),.v (.int .i64 0),.v (.int .i64 0),.v (.int .i64 0),.v (.int .i64 0),.v (.int .i64 0)]
theorem kh (a b:Pr) (h:a.r=b.r):a=b:=by
 obtain⟨l,i,en,e,at',deep,n⟩:=a
 obtain⟨l',i',en',e',at2,deep',n'⟩:=b
 simp only[Pr.r,List.cons.injEq,D.v.injEq,D.sl.injEq,Value.int.injEq,true_and,and_true]at h
 obtain⟨h1,rfl,rfl,rfl,rfl,rfl,rfl⟩:=h
 rw[Ay bm h1]
theorem ki (a b:Pr) (h:a.c=b.c):a=b:=by
 obtain⟨l,i,en,e,at',deep,n⟩:=a
 obtain⟨l',i',en',e',at2,deep',n'⟩:=b
 simp only[Pr.c,List.cons.injEq,C.v.injEq,C.d.injEq,D.sl.injEq,Value.int.injEq,true_and,and_true]at h
 obtain⟨h1,rfl,rfl,rfl,rfl,rfl,rfl⟩:=h
 rw[Ay bm h1]
noncomputable def rPr:RowC Pr:=rowOf sf Pr.r kh fun _=>rfl
theorem TF (p:Pr):∀c∈p.c,c.names=[]:=by
 intro c hc
 simp only[Pr.c,List.mem_cons,List.not_mem_nil,or_false]at hc
 rcases hc with rfl|rfl|rfl|rfl|rfl|rfl|rfl<;>rfl
noncomputable def mPr:RowM Pr:=Lt zPr Pr.c TF
theorem jY:rPr.z=sf:=rfl
theorem jZ:rPr.e=Pr.r:=rfl
theorem Af (l:List Tok) (i en e at' deep n:Int):rPr.d [.sl zTk (l.map Tok.r),dI i,dI en,dI e,dI at',dI deep,dI n]=some ⟨l,i,en,e,at',deep,n⟩:=rPr.i ⟨l,i,en,e,at',deep,n⟩
theorem Ag:mPr.z=zPr:=rfl
theorem Ah:mPr.e=Pr.c:=rfl
theorem Ai (l:List Tok) (i en e at' deep n:Int):mPr.d [.d (.sl zTk (l.map Tok.r)),.v (.int .i64 i),.v (.int .i64 en),.v (.int .i64 e),.v (.int .i64 at'),.v (.int .i64 deep),.v (.int .i64 n)]=some ⟨l,i,en,e,at',deep,n⟩:=HC ki ⟨l,i,en,e,at',deep,n⟩
theorem Fg (p:Pr):∀q,some q∈[some ((zPr,[p.c]):MV)]→∀r∈q.2,∀c∈r,c.names=[]:=by
 intro q hq r hr c hc
 simp only[mem_singleton,jS]at hq
 subst hq
 simp only[mem_singleton]at hr
 subst hr
 exact TF p c hc
abbrev tk0:Tok:=⟨0,[],0⟩
theorem kj (l:List Tok) (i:Nat):(l.map Tok.r).getD i zTk=Tok.r (l.getD i tk0):=by
 simp only[List.getD,List.getElem?_map]
 cases l[i]?<;>rfl
attribute [go_sem] zV Wf kV UQ Ff kW sX zW zX sY kX zY bt kY Yb H9 kZ sZ zZ za sd ke dI dL0 dN dS fB We
end Go.Proofs.Ytjnnmindcbgjhaa
namespace Go.Proofs.Ytjnnmindcbgjhaa
open Go Go.Sy Go.RowKit
abbrev Ce (l:List UInt8):Prop:=l.length≤4294967296
def Km (b:Int):Bool:=decide (97≤b)&&decide (b≤122)||(decide (65≤b)&&decide (b≤90))||b==95
def Dg (b:Int):Bool:=decide (48≤b)&&decide (b≤57)
abbrev chI (l:List UInt8) (i:Nat):Int:=((l.getD i 0).toNat:Int)
def idB (b:Int):Bool:=Km b||Dg b
def FQ (x:Tok):List C:=[.v (.int .i64 x.k),.v (.string (bs x.t)),.v (.int .i64 x.p)]
def sg (x:Tok):List D:=[.v (.int .i64 x.k),.v (.string (bs x.t)),.v (.int .i64 x.p)]
def EH:List C:=[.v (.int .i64 0),.v (.string ByteArray.empty),.v (.int .i64 0)]
theorem si:zT EH=none:=rfl
attribute [go_sem] si
def Lh:List D:=[.v (.int .i64 0),.v (.string ByteArray.empty),.v (.int .i64 0)]
theorem kl (u:Nat) (z:List C) (l:List Tok):chNames (.vec u z (l.map FQ))=[]:=Y8 FQ (by intro a c hc;simp only[FQ,List.mem_cons,List.not_mem_nil,or_false]at hc;rcases hc with rfl|rfl|rfl<;>rfl) u z l
theorem Cw (l:List Tok):List.flatMap (fun r=>List.flatMap C.names r) (l.map FQ)=[]:=kl 0 [] l
theorem bu (l:List Tok):D4 (l.map FQ)=some (l.map sg):=FJ FQ (fun _=>rfl) l
theorem MR (k t:Nat) (l:List Tok):(l.map FQ).map (fun r=>r.map (mvC k t))=l.map FQ:=GH FQ (fun _=>rfl) l
def Li (r:List Tok×Int×Int):SV:=.tup [.inl (.d (.sl Lh (r.1.map sg))),.inl (.v (.int .i64 r.2.1)),.inl (.v (.int .i64 r.2.2))]
def Mx (l:List UInt8) (c:Int):Bool:=l.any fun b=>((b.toNat:Nat):Int)==c
theorem km {l:List UInt8} {i:Nat} (h:i<l.length) (c:Int):Mx (l.drop i) c=(((l.getD i 0).toNat:Int)==c||Mx (l.drop (i+1)) c):=by
 rw[List.drop_eq_getElem_cons h]
 simp only[Mx,List.any_cons,List.getD,List.getElem?_eq_getElem h,Option.getD_some]
def blB (c:Int):Bool:=c==32||c==9||c==13||c==10
def nlB (c:Int):Bool:=!(c==10)
def dgF:List UInt8→Int→Bool→Int×Bool
 |[],n,g=>(n,g)
 |b::r,n,g=>if Dg (b.toNat:Int)=true then (if decide (922337203685477580<n)=true then dgF r n true else dgF r (IntKind.u64.wrap (IntKind.u64.wrap (10*n)+IntKind.u64.wrap (IntKind.u8.wrap ((b.toNat:Int)-48)))) g) else (n,g)
theorem sj {l:List UInt8} {i:Nat} (h:i<l.length) (n:Int) (g:Bool):dgF (l.drop i) n g=if Dg (chI l i)=true then (if decide (922337203685477580<n)=true then dgF (l.drop (i+1)) n true else dgF (l.drop (i+1)) (IntKind.u64.wrap (IntKind.u64.wrap (10*n)+IntKind.u64.wrap (IntKind.u8.wrap (chI l i-48)))) g) else (n,g):=by
 rw[List.drop_eq_getElem_cons h]
 simp only[dgF,chI,List.getD,List.getElem?_eq_getElem h,Option.getD_some]
theorem kr {l:List UInt8} {i:Nat} (h:l.length≤i) (n:Int) (g:Bool):dgF (l.drop i) n g=(n,g):=by
 rw[List.drop_eq_nil_of_le h];rfl
def UR (l:List UInt8):Bool:=(dgF l 0 false).2||decide (9223372036854775807<(dgF l 0 false).1)
def Zw (s:List UInt8) (i:Nat):Bool:=decide (((i+2:Nat):Int)≤(s.length:Int))&&((s.drop i).take 2==[61,61]||(s.drop i).take 2==[33,61]||(s.drop i).take 2==[60,61]||(s.drop i).take 2==[62,61]||(s.drop i).take 2==[38,38]||(s.drop i).take 2==[124,124])
abbrev TG:List UInt8:=[61,60,62,43,45,42,47,37,38,33,40,41,123,125,91,93,44,59]
def rxF (s:List UInt8):Nat→Nat→List Tok→List Tok×Int×Int
 |0,_,out=>(out,0,0)
 |f+1,i,out=>
  if s.length≤i then (out,0,0)
  else if blB (chI s i)=true then rxF s f (i+1) out
  else if (chI s i==35)=true then rxF s f (i+Cn nlB (s.drop i)) out
  else if Km (chI s i)=true then (if decide (32<((Cn idB (s.drop i):Nat):Int))=true then ([],(i:Int),53) else rxF s f (i+Cn idB (s.drop i)) (out++[⟨0,(s.drop i).take (Cn idB (s.drop i)),(i:Int)⟩]))
  else if Dg (chI s i)=true then
   (
    if UR (s.drop i)=true then ([],(i:Int),53)
    else if (decide (((i+Cn Dg (s.drop i):Nat):Int)<(s.length:Int))&&Km (chI s (i+Cn Dg (s.drop i)))||(chI s i==48&&decide (1<((Cn Dg (s.drop i):Nat):Int))))=true then ([],(i:Int),50)
    else rxF s f (i+Cn Dg (s.drop i)) (out++[⟨1,(s.drop i).take (Cn Dg (s.drop i)),(i:Int)⟩]))
  else if Zw s i=true then rxF s f (i+2) (out++[⟨2,(s.drop i).take 2,(i:Int)⟩])
  else if Mx TG (chI s i)=true then rxF s f (i+1) (out++[⟨2,(s.drop i).take 1,(i:Int)⟩])
  else ([],(i:Int),50)
def rxT (s:List UInt8):List Tok×Int×Int:=if decide (4096<(s.length:Int))=true then ([],0,53) else rxF s s.length 0 []
abbrev rxI (s:List UInt8) (i:Nat) (out:List Tok):St:=⟨[(0,true,.one (.v (.string (bs s)))),(5,true,.one (.s 1000)),(6,true,.one (.v (.int .i64 (i:Int))))],[(1000,.vec 0 EH (out.map FQ))]⟩
abbrev rxJ (s:List UInt8) (i:Nat) (out:List Tok):Prop:=i≤s.length∧out.length≤i∧∃f,s.length-i≤f∧rxF s f i out=rxT s
theorem zb {b:Bool} (h:(!b)=true):b=false:=by cases b<;>simp_all
theorem zc {b:Bool} (h:(!b)=false):b=true:=by cases b<;>simp_all
theorem ja {a b:Bool} (h:(a&&b)=true):a=true:=by cases a<;>simp_all
end Go.Proofs.Ytjnnmindcbgjhaa
