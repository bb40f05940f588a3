/- The rules of the walks, in one set. No conditions but those in each statement. -/
import Derived.Test.YtjnnmindcbgjhaaSy28
import Derived.Test.YtjnnmindcbgjhaaTy2
set_option linter.unusedVariables false
set_option linter.unusedSimpArgs false
open List (mem_singleton)
namespace Go.Proofs.Ytjnnmindcbgjhaa
open Go Go.Sy Go.RowKit
set_option linter.defProp false in
def eB:=And.intro @e_nil (And.intro @e_cons (And.intro @e_text (And.intro @e_draw (And.intro @e_seq (And.intro @e_block (And.intro @e_then1 (And.intro @e_then2 (And.intro @e_then3 (And.intro @e_in1 (And.intro @e_in2 (And.intro @e_in3 (And.intro @e_nrmK (And.intro @e_textT (And.intro @e_drawK (And.intro @e_fac0 (And.intro @e_fac1 (And.intro @e_fac2 (And.intro @e_fac3 (And.intro @e_seqK (And.intro @e_ret (And.intro @e_skip (And.intro @e_label (And.intro @e_exit (And.intro @e_cond (And.intro @e_loop (And.intro @e_impBt (And.intro @e_impBf (And.intro @e_impNt @e_impNf))))))))))))))))))))))))))))
theorem uA {r0:List C} (h:r0.all C.stor=true):∀r∈[r0],∀c∈r,C.stor c=true:=by
 intro r h1 c h2
 rw[mem_singleton]at h1
 subst h1
 exact List.all_eq_true.1 h c h2
attribute [go_sem] xj xk xo A7c rL rM rN A7d kF xr Vj rO Ie IP opG guarded slotOf TI Ws guardOf opS fresh rV Ko Pi Pj SD N1 QS SI Y5 flB Ib HD ID Kp JL QO ptrA En N2 Eo N3 boI JM KM KN JN N5 MG Hi lkV QP Wp ja DU JO OH SG JR jb Ku A31 pnN wkL wkR qf ez SF Dd inP Gf A7H A7I A2W A7J A2X A2Y A7K wu RK SE unV VW bY Md T8 J4 JW Hh Ks GP Hu JQ bZ SH reads Jj FA EQ Hg GN GO setAll K3 MS T7 tgN A2n A2o A2p A7R A7S A7T A2q A2r A2s A7U A7V A7W A2t A2u A2v xI xJ A7X A7Y A7Z xK xL A2w A2x A2y A2z A30 ldc ldV wv A7L A7M A7N A7O A2Z A2a A2b A2c A7P A2d clL Nv A7C A2P A2Q A2R VV eqL eqC jX arI bX rdv rdg okV lkp St.app YT jq ofV SV.tupB SV.cells wm A6n A6o A6p A6q A20 A21 A22 A23 A6r A24 C.flat G1 Kx RY Dj Mg toP updH capN List.getElem?_nil A2m HK xx xy cM rQ kM kL A3D A3E A3F A3G cK cL Vl Vm Of ndB updM Qe Og wo A6x A6y A6z A70 A2A A2B A2C A2D A71 A2E nmM chO Ey memO A3H A3I A3J A3K A3L A3M A3N A3O kN take_len A3P A3Q A3R A3S Nat.sub_zero M1 M2 rK kB rR kQ rP kH cJ A3A A39 A3C A3B cH xu xv A37 A38 slR slD Oe Qa toD Ew D3 List.length_map Int.toNat_natCast Int.natCast_nonneg A35 A34 Hl Hk cG fW rI jz rJ kA cE Wt ey bW Option.map_some Option.getD_some Option.getD_none Option.map_none Option.bind_some List.all_cons List.all_nil Bool.and_true Bool.true_and Bool.and_self Bool.not_not true_and and_true and_self true_or or_true forall_const true_implies imp_self implies_true List.getElem?_cons_zero List.getElem?_cons_succ List.getElem?_toArray List.length_cons List.length_nil List.map_cons List.map_nil List.set_cons_zero List.set_cons_succ List.length_set List.drop_zero List.drop_succ_cons List.take_succ_cons List.take_zero List.getD_cons_zero List.getD_cons_succ ne_eq not_false_eq_true Nat.le_refl Int.toNat_zero Nat.zero_mul Nat.zero_add Nat.add_zero Nat.one_mul jB Bool.not_false Bool.not_true Bool.or_false Bool.false_or Bool.or_true Bool.true_or Bool.and_false Bool.false_and Bool.not_eq_false' Bool.not_eq_true' Bool.or_self wrap_i64 wrap_u64 wrap_u8 Int.natCast_zero Int.natCast_one Int.cast_ofNat_Int Int.lt_irrefl decide_false decide_true Nat.lt_irrefl Nat.lt_add_one Int.toNat_one List.take_nil List.drop_nil List.flatMap_cons List.flatMap_nil List.append_nil List.nil_append List.cons_append List.append_eq List.any_nil List.any_cons List.contains_cons List.contains_nil wn A6s A6t A6u A6v A25 A26 A27 A28 A6w A29 SV.names pNames List.mem_cons List.not_mem_nil or_false forall_eq forall_eq_or_imp and_imp false_implies mem_singleton not_true_eq_false if_true if_false wk qG leV leL leT leP Fx H9 Jm fU K8 chNames Kw wl A6i A6j A6k A6l A1v A1w A1x A1y A6m A1z Cmd.run jr wt A7D A7E A7F A7G A2S A2T A2U A2V QY cA bz cB cC js SK fzS wr A72 A73 A74 A75 A2F A2G A2H A2I A76 A2J ws A77 A78 A79 A7A A2K A2L A2M A2N A7B A2O Vh OL Vf Lz To1 memF Sy.Sub xq A36
attribute [go_sem] ya2 A7r A8K A8k A99 A9U yx B0N B0l A4K A4e A50 A5O sf A5z tS
theorem ck {o:Array Oper} {t:Sy.Trace} (h:RX o t=true:=by kernel_rfl):RX o t=true:=h
theorem sL {r0 r:List C} {c:C} (h1:r∈[r0]) (h2:c∈r) (h:r0.all C.stor=true:=by simp only[go_sem]):C.stor c=true:=uA h r h1 c h2
theorem oI {A:Type} {a b:A} (h:some a=some b):b=a:=(Option.some.inj h).symm
theorem nah {p q:Prop} (h:p) (k:¬p:=by decide):q:=absurd h k
end Go.Proofs.Ytjnnmindcbgjhaa
namespace Go.Proofs.Ytjnnmindcbgjhaa
open Go Go.Sy Go.RowKit
inductive Ex where
 |nil
 |mk (k n:Int) (s:List UInt8) (a b:Ex)
inductive Cd where
 |nil
 |mk (k:Int) (a b:Ex) (p q:Cd) (s:List UInt8)
structure Ar where
 p:Bool
 s:List UInt8
 e:Ex
inductive Sm where
 |mk (k:Int) (x y:List UInt8) (e f:Ex) (c:Cd) (args:List Ar) (th el:List Sm) (no:Int)
structure Vr where
 s:List UInt8
 p:Bool
structure Fn where
 name:List UInt8
 ps:List Vr
 ls:List Vr
 body:List Sm
structure Tok where
 k:Int
 t:List UInt8
 p:Int
abbrev dN:D:=.v (.pointer none)
abbrev dI (n:Int):D:=.v (.int .i64 n)
abbrev dS (s:List UInt8):D:=.v (.string (bs s))
abbrev dL0:D:=.v (.slice none 0 0)
def Ex.d:Ex→D
 | .nil=>dN
 | .mk k n s a b=>.pt (some [dI k,dI n,dS s,a.d,b.d])
def Cd.d:Cd→D
 | .nil=>dN
 | .mk k a b p q s=>.pt (some [dI k,a.d,b.d,p.d,q.d,dS s])
def Ar.r (a:Ar):List D:=[.v (.bool a.p),dS a.s,a.e.d]
def zAr:List D:=[.v (.bool false),dS [],dN]
def zSm:List D:=[dI 0,dS [],dS [],dN,dN,dN,dL0,dL0,dL0,dI 0]
mutual
def Sm.r:Sm→List D
 | .mk k x y e f c args th el no=>[dI k,dS x,dS y,e.d,f.d,c.d,.sl zAr (args.map Ar.r),.sl zSm (Sm.rs th),.sl zSm (Sm.rs el),dI no]
def Sm.rs:List Sm→List (List D)
 |[]=>[]
 |s::l=>s.r::Sm.rs l
end
theorem cV:∀l:List Sm,Sm.rs l=l.map Sm.r
 |[]=>by simp[Sm.rs]
 |s::l=>by simp only[Sm.rs,List.map_cons,cV l]
def Vr.r (v:Vr):List D:=[dS v.s,.v (.bool v.p)]
def zVr:List D:=[dS [],.v (.bool false)]
def Fn.r (f:Fn):List D:=[dS f.name,.sl zVr (f.ps.map Vr.r),.sl zVr (f.ls.map Vr.r),.sl zSm (f.body.map Sm.r)]
def zFn:List D:=[dS [],dL0,dL0,dL0]
def Tok.r (x:Tok):List D:=[dI x.k,dS x.t,dI x.p]
def zTk:List D:=[dI 0,dS [],dI 0]
theorem gG:ByteArray.empty=bs []:=rfl
theorem bs_inj {a b:List UInt8} (h:bs a=bs b):a=b:=by rw[← HK a,← HK b,h]
theorem KA:∀{a b:Ex},a.d=b.d→a=b
 | .nil,.nil,_=>rfl
 | .nil,.mk ..,h=>by simp[Ex.d]at h
 | .mk ..,.nil,h=>by simp[Ex.d]at h
 | .mk k n s a b,.mk k' n' s' a' b',h=>by
  simp only[Ex.d,D.pt.injEq,jS,List.cons.injEq,D.v.injEq,Value.int.injEq,Value.string.injEq,true_and,and_true]at h
  obtain⟨rfl,rfl,h1,h2,h3⟩:=h
  rw[bs_inj h1,KA h2,KA h3]
theorem Re:∀{a b:Cd},a.d=b.d→a=b
 | .nil,.nil,_=>rfl
 | .nil,.mk ..,h=>by simp[Cd.d]at h
 | .mk ..,.nil,h=>by simp[Cd.d]at h
 | .mk k a b p q s,.mk k' a' b' p' q' s',h=>by
  simp only[Cd.d,D.pt.injEq,jS,List.cons.injEq,D.v.injEq,Value.int.injEq,Value.string.injEq,true_and,and_true]at h
  obtain⟨rfl,h1,h2,h3,h4,h5⟩:=h
  rw[bs_inj h5,KA h1,KA h2,Re h3,Re h4]
theorem Az {A B:Type} {f:A→B} (hf:∀a b,f a=f b→a=b):∀{l m:List A},l.map f=m.map f→l=m
 |[],[],_=>rfl
 |[],_::_,h=>by simp at h
 |_::_,[],h=>by simp at h
 |a::l,b::m,h=>by
  simp only[List.map_cons,List.cons.injEq]at h
  rw[hf _ _ h.1,Az hf h.2]
theorem cW (a b:Ar) (h:a.r=b.r):a=b:=by
 obtain⟨p,s,e⟩:=a
 obtain⟨p',s',e'⟩:=b
 simp only[Ar.r,List.cons.injEq,D.v.injEq,Value.bool.injEq,Value.string.injEq,and_true]at h
 obtain⟨rfl,h1,h2⟩:=h
 rw[bs_inj h1,KA h2]
mutual
theorem NC:∀(a b:Sm),a.r=b.r→a=b
 | .mk k x y e f c args th el no,.mk k' x' y' e' f' c' args' th' el' no',h=>by
  simp only[Sm.r,List.cons.injEq,D.v.injEq,D.sl.injEq,Value.int.injEq,Value.string.injEq,true_and,and_true]at h
  obtain⟨rfl,h1,h2,h3,h4,h5,h6,h7,h8,rfl⟩:=h
  rw[bs_inj h1,bs_inj h2,KA h3,KA h4,Re h5,Az cW h6,Uf th th' h7,Uf el el' h8]
theorem Uf:∀(l m:List Sm),Sm.rs l=Sm.rs m→l=m
 |[],[],_=>rfl
 |[],_::_,h=>by simp[Sm.rs]at h
 |_::_,[],h=>by simp[Sm.rs]at h
 |a::l,b::m,h=>by
  simp only[Sm.rs,List.cons.injEq]at h
  rw[NC a b h.1,Uf l m h.2]
end
theorem Qn (a b:Vr) (h:a.r=b.r):a=b:=by
 obtain⟨s,p⟩:=a
 obtain⟨s',p'⟩:=b
 simp only[Vr.r,List.cons.injEq,D.v.injEq,Value.bool.injEq,Value.string.injEq,and_true]at h
 rw[bs_inj h.1,h.2]
theorem X1 (a b:Fn) (h:a.r=b.r):a=b:=by
 obtain⟨n,ps,ls,bd⟩:=a
 obtain⟨n',ps',ls',bd'⟩:=b
 simp only[Fn.r,List.cons.injEq,D.v.injEq,D.sl.injEq,Value.string.injEq,true_and,and_true]at h
 rw[bs_inj h.1,Az Qn h.2.1,Az Qn h.2.2.1,Az NC h.2.2.2]
theorem cX (a b:Tok) (h:a.r=b.r):a=b:=by
 obtain⟨s,p,q⟩:=a
 obtain⟨s',p',q'⟩:=b
 simp only[Tok.r,List.cons.injEq,D.v.injEq,Value.int.injEq,Value.string.injEq,and_true,true_and]at h
 rw[h.1,bs_inj h.2.1,h.2.2]
theorem X2 (d:D):toD (oD d)=some d:=by cases d<;>rfl
theorem Yv (d:D):Dn (oD d)=true:=by cases d<;>rfl
theorem Yw (d:D):(oD d).flat=true:=by cases d<;>rfl
theorem cY (n:Nat) (d:D):C0 n (oD d)=true:=by cases d<;>rfl
theorem cZ (f:Nat→Nat) (d:D):Ez f (oD d)=oD d:=by cases d<;>rfl
theorem kY (k t:Nat) (d:D):mvC k t (oD d)=oD d:=by cases d<;>rfl
theorem kZ (k:Nat) (z:List D) (es:List (List D)) (d:D):fzC k z es (oD d)=oD d:=by cases d<;>rfl
theorem cb (k u:Nat) (p:List (Nat×Nat)) (i j:Nat) (d:D) (r:List C):ldc k u p i j (oD d::r)=oD d::ldc k u p i (j+1) r:=by cases d<;>rfl
def Ex.isNil:Ex→Bool
 | .nil=>true
 |_=>false
def Cd.isNil:Cd→Bool
 | .nil=>true
 |_=>false
def exC (e:Ex):C:=oD e.d
theorem A0h (e:Ex):oD e.d=exC e:=rfl
theorem X3 (e:Ex):toD (exC e)=some e.d:=X2 _
theorem lu (e:Ex):Dn (exC e)=true:=Yv _
theorem Ug (e:Ex):C.stor (exC e)=true:=N4 _
theorem Fp (e:Ex):C.names (exC e)=[]:=QQ _
theorem lv (e:Ex):(exC e).flat=true:=Yw _
theorem AO (n:Nat) (e:Ex):C0 n (exC e)=true:=cY n _
theorem uB (f:Nat→Nat) (e:Ex):Ez f (exC e)=exC e:=cZ f _
theorem A0i (k t:Nat) (e:Ex):mvC k t (exC e)=exC e:=kY k t _
theorem A0j (k:Nat) (z:List D) (es:List (List D)) (e:Ex):fzC k z es (exC e)=exC e:=kZ k z es _
theorem uC (k u:Nat) (p:List (Nat×Nat)) (i j:Nat) (e:Ex) (r:List C):ldc k u p i j (exC e::r)=exC e::ldc k u p i (j+1) r:=cb ..
theorem lw (e:Ex):Kr (exC e)=some e.isNil:=by cases e<;>rfl
theorem AZ:exC .nil= .v (.pointer none):=rfl
def cdC (e:Cd):C:=oD e.d
theorem A0k (e:Cd):oD e.d=cdC e:=rfl
theorem cf (e:Cd):toD (cdC e)=some e.d:=X2 _
theorem ly (e:Cd):Dn (cdC e)=true:=Yv _
theorem Yx (e:Cd):C.stor (cdC e)=true:=N4 _
theorem HQ (e:Cd):C.names (cdC e)=[]:=QQ _
theorem lz (e:Cd):(cdC e).flat=true:=Yw _
theorem AP (n:Nat) (e:Cd):C0 n (cdC e)=true:=cY n _
theorem uD (f:Nat→Nat) (e:Cd):Ez f (cdC e)=cdC e:=cZ f _
theorem A0l (k t:Nat) (e:Cd):mvC k t (cdC e)=cdC e:=kY k t _
theorem A0m (k:Nat) (z:List D) (es:List (List D)) (e:Cd):fzC k z es (cdC e)=cdC e:=kZ k z es _
theorem uE (k u:Nat) (p:List (Nat×Nat)) (i j:Nat) (e:Cd) (r:List C):ldc k u p i j (cdC e::r)=cdC e::ldc k u p i (j+1) r:=cb ..
theorem mA (e:Cd):Kr (cdC e)=some e.isNil:=by cases e<;>rfl
theorem Aq:cdC .nil= .v (.pointer none):=rfl
theorem DL (k n:Int) (s:List UInt8) (a b:Ex):exC (.mk k n s a b)= .d (.pt (some [.v (.int .i64 k),.v (.int .i64 n),.v (.string (bs s)),a.d,b.d])):=rfl
theorem DC (k:Int) (a b:Ex) (p q:Cd) (s:List UInt8):cdC (.mk k a b p q s)= .d (.pt (some [.v (.int .i64 k),a.d,b.d,p.d,q.d,.v (.string (bs s))])):=rfl
theorem G9:Ex.d .nil= .v (.pointer none):=rfl
theorem Ok:Cd.d .nil= .v (.pointer none):=rfl
structure Pr where
 l:List Tok
 i:Int
 en:Int
 e:Int
 at':Int
 deep:Int
 n:Int
theorem AQ (p:Pr):(⟨p.l,p.i,p.en,p.e,p.at',p.deep,p.n⟩:Pr)=p:=rfl
def Pr.r (p:Pr):List D:=[.sl zTk (p.l.map Tok.r),dI p.i,dI p.en,dI p.e,dI p.at',dI p.deep,dI p.n]
def Pr.c (p:Pr):List C:=[.d (.sl zTk (p.l.map Tok.r)),.v (.int .i64 p.i),.v (.int .i64 p.en),.v (.int .i64 p.e),.v (.int .i64 p.at'),.v (.int .i64 p.deep),.v (.int .i64 p.n)]
def uF:List D:=[dL0,dI 0,dI 0,dI 0,dI 0,dI 0,dI 0]
abbrev zPr:List C:=[.v (.int .i64 0),.v (.int .i64 0),.v (.int .i64 0),.v (.int .i64 0),.v (.int .i64 0),.v (.int .i64 0),.v (.int .i64 0)]
theorem mB (a b:Pr) (h:a.r=b.r):a=b:=by
 obtain⟨l,i,en,e,at',deep,n⟩:=a
 obtain⟨l',i',en',e',at2,deep',n'⟩:=b
 simp only[Pr.r,List.cons.injEq,D.v.injEq,D.sl.injEq,Value.int.injEq,true_and,and_true]at h
 obtain⟨h1,rfl,rfl,rfl,rfl,rfl,rfl⟩:=h
 rw[Az cX h1]
theorem mC (a b:Pr) (h:a.c=b.c):a=b:=by
 obtain⟨l,i,en,e,at',deep,n⟩:=a
 obtain⟨l',i',en',e',at2,deep',n'⟩:=b
 simp only[Pr.c,List.cons.injEq,C.v.injEq,C.d.injEq,D.sl.injEq,Value.int.injEq,true_and,and_true]at h
 obtain⟨h1,rfl,rfl,rfl,rfl,rfl,rfl⟩:=h
 rw[Az cX h1]
noncomputable def rPr:RowC Pr:=rowOf uF Pr.r mB fun _=>rfl
theorem TV (p:Pr):∀c∈p.c,c.names=[]:=by
 intro c hc
 simp only[Pr.c,List.mem_cons,List.not_mem_nil,or_false]at hc
 rcases hc with rfl|rfl|rfl|rfl|rfl|rfl|rfl<;>rfl
noncomputable def mPr:RowM Pr:=MD zPr Pr.c TV
theorem ke:rPr.z=uF:=rfl
theorem kh:rPr.e=Pr.r:=rfl
theorem Af (l:List Tok) (i en e at' deep n:Int):rPr.d [.sl zTk (l.map Tok.r),dI i,dI en,dI e,dI at',dI deep,dI n]=some ⟨l,i,en,e,at',deep,n⟩:=rPr.i ⟨l,i,en,e,at',deep,n⟩
theorem Ag:mPr.z=zPr:=rfl
theorem Ah:mPr.e=Pr.c:=rfl
theorem Ai (l:List Tok) (i en e at' deep n:Int):mPr.d [.d (.sl zTk (l.map Tok.r)),.v (.int .i64 i),.v (.int .i64 en),.v (.int .i64 e),.v (.int .i64 at'),.v (.int .i64 deep),.v (.int .i64 n)]=some ⟨l,i,en,e,at',deep,n⟩:=Hc mC ⟨l,i,en,e,at',deep,n⟩
theorem Fq (p:Pr):∀q,some q∈[some ((zPr,[p.c]):MV)]→∀r∈q.2,∀c∈r,c.names=[]:=by
 intro q hq r hr c hc
 simp only[mem_singleton,jS]at hq
 subst hq
 simp only[mem_singleton]at hr
 subst hr
 exact TV p c hc
abbrev tk0:Tok:=⟨0,[],0⟩
theorem mD (l:List Tok) (i:Nat):(l.map Tok.r).getD i zTk=Tok.r (l.getD i tk0):=by
 simp only[List.getD,List.getElem?_map]
 cases l[i]?<;>rfl
attribute [go_sem] A0h X3 lu Ug Fp lv uB A0i A0j uC lw A0k cf ly Yx HQ lz uD A0l A0m uE mA dI dL0 dN dS gG X2
end Go.Proofs.Ytjnnmindcbgjhaa
namespace Go.Proofs.Ytjnnmindcbgjhaa
open Go Go.Sy Go.RowKit
abbrev Ct (l:List UInt8):Prop:=l.length≤4294967296
def L2 (b:Int):Bool:=decide (97≤b)&&decide (b≤122)||(decide (65≤b)&&decide (b≤90))||b==95
def Df (b:Int):Bool:=decide (48≤b)&&decide (b≤57)
abbrev chI (l:List UInt8) (i:Nat):Int:=((l.getD i 0).toNat:Int)
def idB (b:Int):Bool:=L2 b||Df b
def FS (x:Tok):List C:=[.v (.int .i64 x.k),.v (.string (bs x.t)),.v (.int .i64 x.p)]
def uG (x:Tok):List D:=[.v (.int .i64 x.k),.v (.string (bs x.t)),.v (.int .i64 x.p)]
def EJ:List C:=[.v (.int .i64 0),.v (.string ByteArray.empty),.v (.int .i64 0)]
theorem uH:zT EJ=none:=rfl
attribute [go_sem] uH
def Lv:List D:=[.v (.int .i64 0),.v (.string ByteArray.empty),.v (.int .i64 0)]
theorem mE (u:Nat) (z:List C) (l:List Tok):chNames (.vec u z (l.map FS))=[]:=Yb FS (by intro a c hc;simp only[FS,List.mem_cons,List.not_mem_nil,or_false]at hc;rcases hc with rfl|rfl|rfl<;>rfl) u z l
theorem Cw (l:List Tok):List.flatMap (fun r=>List.flatMap C.names r) (l.map FS)=[]:=mE 0 [] l
theorem cg (l:List Tok):D3 (l.map FS)=some (l.map uG):=FM FS (fun _=>rfl) l
theorem Mh (k t:Nat) (l:List Tok):(l.map FS).map (fun r=>r.map (mvC k t))=l.map FS:=G4 FS (fun _=>rfl) l
def Lw (r:List Tok×Int×Int):SV:=.tup [.inl (.d (.sl Lv (r.1.map uG))),.inl (.v (.int .i64 r.2.1)),.inl (.v (.int .i64 r.2.2))]
def ND (l:List UInt8) (c:Int):Bool:=l.any fun b=>((b.toNat:Nat):Int)==c
theorem mF {l:List UInt8} {i:Nat} (h:i<l.length) (c:Int):ND (l.drop i) c=(((l.getD i 0).toNat:Int)==c||ND (l.drop (i+1)) c):=by
 rw[List.drop_eq_getElem_cons h]
 simp only[ND,List.any_cons,List.getD,List.getElem?_eq_getElem h,Option.getD_some]
def blB (c:Int):Bool:=c==32||c==9||c==13||c==10
def nlB (c:Int):Bool:=!(c==10)
def dgF:List UInt8→Int→Bool→Int×Bool
 |[],n,g=>(n,g)
 |b::r,n,g=>if Df (b.toNat:Int)=true then (if decide (922337203685477580<n)=true then dgF r n true else dgF r (IntKind.u64.wrap (IntKind.u64.wrap (10*n)+IntKind.u64.wrap (IntKind.u8.wrap ((b.toNat:Int)-48)))) g) else (n,g)
theorem uI {l:List UInt8} {i:Nat} (h:i<l.length) (n:Int) (g:Bool):dgF (l.drop i) n g=if Df (chI l i)=true then (if decide (922337203685477580<n)=true then dgF (l.drop (i+1)) n true else dgF (l.drop (i+1)) (IntKind.u64.wrap (IntKind.u64.wrap (10*n)+IntKind.u64.wrap (IntKind.u8.wrap (chI l i-48)))) g) else (n,g):=by
 rw[List.drop_eq_getElem_cons h]
 simp only[dgF,chI,List.getD,List.getElem?_eq_getElem h,Option.getD_some]
theorem mG {l:List UInt8} {i:Nat} (h:l.length≤i) (n:Int) (g:Bool):dgF (l.drop i) n g=(n,g):=by
 rw[List.drop_eq_nil_of_le h];rfl
def Uh (l:List UInt8):Bool:=(dgF l 0 false).2||decide (9223372036854775807<(dgF l 0 false).1)
def aZ (s:List UInt8) (i:Nat):Bool:=decide (((i+2:Nat):Int)≤(s.length:Int))&&((s.drop i).take 2==[61,61]||(s.drop i).take 2==[33,61]||(s.drop i).take 2==[60,61]||(s.drop i).take 2==[62,61]||(s.drop i).take 2==[38,38]||(s.drop i).take 2==[124,124])
abbrev TW:List UInt8:=[61,60,62,43,45,42,47,37,38,33,40,41,123,125,91,93,44,59]
def rxF (s:List UInt8):Nat→Nat→List Tok→List Tok×Int×Int
 |0,_,out=>(out,0,0)
 |f+1,i,out=>
  if s.length≤i then (out,0,0)
  else if blB (chI s i)=true then rxF s f (i+1) out
  else if (chI s i==35)=true then rxF s f (i+Cm nlB (s.drop i)) out
  else if L2 (chI s i)=true then (if decide (32<((Cm idB (s.drop i):Nat):Int))=true then ([],(i:Int),53) else rxF s f (i+Cm idB (s.drop i)) (out++[⟨0,(s.drop i).take (Cm idB (s.drop i)),(i:Int)⟩]))
  else if Df (chI s i)=true then
   (
    if Uh (s.drop i)=true then ([],(i:Int),53)
    else if (decide (((i+Cm Df (s.drop i):Nat):Int)<(s.length:Int))&&L2 (chI s (i+Cm Df (s.drop i)))||(chI s i==48&&decide (1<((Cm Df (s.drop i):Nat):Int))))=true then ([],(i:Int),50)
    else rxF s f (i+Cm Df (s.drop i)) (out++[⟨1,(s.drop i).take (Cm Df (s.drop i)),(i:Int)⟩]))
  else if aZ s i=true then rxF s f (i+2) (out++[⟨2,(s.drop i).take 2,(i:Int)⟩])
  else if ND TW (chI s i)=true then rxF s f (i+1) (out++[⟨2,(s.drop i).take 1,(i:Int)⟩])
  else ([],(i:Int),50)
def rxT (s:List UInt8):List Tok×Int×Int:=if decide (4096<(s.length:Int))=true then ([],0,53) else rxF s s.length 0 []
abbrev rxI (s:List UInt8) (i:Nat) (out:List Tok):St:=⟨[(0,true,.one (.v (.string (bs s)))),(5,true,.one (.s 1000)),(6,true,.one (.v (.int .i64 (i:Int))))],[(1000,.vec 0 EJ (out.map FS))]⟩
abbrev rxJ (s:List UInt8) (i:Nat) (out:List Tok):Prop:=i≤s.length∧out.length≤i∧∃f,s.length-i≤f∧rxF s f i out=rxT s
theorem A0n {b:Bool} (h:(!b)=true):b=false:=by cases b<;>simp_all
theorem A0o {b:Bool} (h:(!b)=false):b=true:=by cases b<;>simp_all
theorem ki {a b:Bool} (h:(a&&b)=true):a=true:=by cases a<;>simp_all
end Go.Proofs.Ytjnnmindcbgjhaa
