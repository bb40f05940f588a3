/- The rules of the walks, in one set. No conditions but those in each statement. -/
import Derived.Test.YtjnnmindcbgjhaaSy28
import Derived.Test.YtjnnmindcbgjhaaTy2
set_option linter.unusedVariables false
set_option linter.unusedSimpArgs false
open List (mem_singleton)
namespace Go.Proofs.Ytjnnmindcbgjhaa
open Go Go.Sy Go.RowKit
set_option linter.defProp false in
def eB:=And.intro @e_nil (And.intro @e_cons (And.intro @e_text (And.intro @e_draw (And.intro @e_seq (And.intro @e_block (And.intro @e_then1 (And.intro @e_then2 (And.intro @e_then3 (And.intro @e_in1 (And.intro @e_in2 (And.intro @e_in3 (And.intro @e_nrmK (And.intro @e_textT (And.intro @e_drawK (And.intro @e_fac0 (And.intro @e_fac1 (And.intro @e_fac2 (And.intro @e_fac3 (And.intro @e_seqK (And.intro @e_ret (And.intro @e_skip (And.intro @e_label (And.intro @e_exit (And.intro @e_cond (And.intro @e_loop (And.intro @e_impBt (And.intro @e_impBf (And.intro @e_impNt @e_impNf))))))))))))))))))))))))))))
theorem rU {r0:List C} (h:r0.all C.stor=true):∀r∈[r0],∀c∈r,C.stor c=true:=by
 intro r h1 c h2
 rw[mem_singleton]at h1
 subst h1
 exact List.all_eq_true.1 h c h2
attribute [go_sem] v8 vA vD A5S oE oF oG A5T gg vF UA oH Hm H4 opG guarded slotOf Rk VG guardOf opS fresh rV K2 Og Oh Qs MB PK Qx WW flB Hl GU HT K3 IZ PG ptrA Ea MC Eb MD boI Ia Ji Jj Ib MF LO Gx lkV PH VE fq DM Ie NL Qv Ii fr K6 A0q pnN wkL wkR nR cW Qu DX inP GC A57 A58 A0L A59 A0M A0N A5A uH Q4 Qt unV Ty ZO Ll RZ IH Ip Gw K5 Fx HB Ih ZP Qw reads J3 Es ED Gv Fv Fw setAll JL LZ RY tgN A0c A0d A0e A5H A5I A5J A0f A0g A0h A5K A5L A5M A0i A0j A0k uZ ua A5N A5O A5P ub uc A0l A0m A0n A0o A0p ldc ldV uI A5B A5C A5D A5E A0O A0P A0Q A0R A5F A0S clL Mz A52 A0E A0F A0G Tx eqL eqC fj arI ZN rdv rdg okV lkp St.app Wv gM ofV SV.tupB SV.cells uB A4e A4f A4g A4h zl zm zo zp A4i zq C.flat FU K9 QH Dc Lo toP updH capN List.getElem?_nil A0b Ga vJ vK Zt oK gp gm A12 A13 A14 A15 Zr Zs UC UD QI ndB updM PV Nr uD A4n A4o A4p A4q zy A00 A01 A02 A4r A03 nmM chO Eh memO A16 A17 A18 A19 A1A A1B A1C A1D gq take_len A1E A1F A1G A1H Nat.sub_zero LD LF oC gY oL gu oJ gh Zq A0z A0y A11 A10 Zp vG vH A0w A0x slR slD Nq PS toD Eg D7 List.length_map Int.toNat_natCast Int.natCast_nonneg A0u A0t Ho Hn Zo dE oA gV oB gX Zm VH cV ZM Option.map_some Option.getD_some Option.getD_none Option.map_none Option.bind_some List.all_cons List.all_nil Bool.and_true Bool.true_and Bool.and_self Bool.not_not true_and and_true and_self true_or or_true forall_const true_implies imp_self implies_true List.getElem?_cons_zero List.getElem?_cons_succ List.getElem?_toArray List.length_cons List.length_nil List.map_cons List.map_nil List.set_cons_zero List.set_cons_succ List.length_set List.drop_zero List.drop_succ_cons List.take_succ_cons List.take_zero List.getD_cons_zero List.getD_cons_succ ne_eq not_false_eq_true Nat.le_refl Int.toNat_zero Nat.zero_mul Nat.zero_add Nat.add_zero Nat.one_mul jB Bool.not_false Bool.not_true Bool.or_false Bool.false_or Bool.or_true Bool.true_or Bool.and_false Bool.false_and Bool.not_eq_false' Bool.not_eq_true' Bool.or_self wrap_i64 wrap_u64 wrap_u8 Int.natCast_zero Int.natCast_one Int.cast_ofNat_Int Int.lt_irrefl decide_false decide_true Nat.lt_irrefl Nat.lt_add_one Int.toNat_one List.take_nil List.drop_nil List.flatMap_cons List.flatMap_nil List.append_nil List.nil_append List.cons_append List.append_eq List.any_nil List.any_cons List.contains_cons List.contains_nil uC A4j A4k A4l A4m zr zs zu zw nm_q zx SV.names pNames List.mem_cons List.not_mem_nil or_false forall_eq forall_eq_or_imp and_imp false_implies mem_singleton not_true_eq_false if_true if_false u9 mq leV leL leT leP FQ GP J6 dC JQ chNames K8 uA A4Z A4a A4b A4c zg zh zi zj A4d zk Cmd.run gN uG A53 A54 A55 A56 A0H A0I A0J A0K PQ Zi Zh Zj Zk gO Qz fzS uE A4s A4t A4u A4v A04 A05 A06 A07 A4w A08 uF A4x A4y A4z A50 A09 A0A A0B A0C A51 A0D U8 NP U6 LB To1 memF Sy.Sub vE A0v
attribute [go_sem] ya2 A5h A6A A6a A6z A7K wJ A8D A8b A29 A2T A2p A3D pR A3o qH
theorem ck {o:Array Oper} {t:Sy.Trace} (h:QG o t=true:=by kernel_rfl):QG o t=true:=h
theorem sL {r0 r:List C} {c:C} (h1:r∈[r0]) (h2:c∈r) (h:r0.all C.stor=true:=by simp only[go_sem]):C.stor c=true:=rU h r h1 c h2
theorem oI {A:Type} {a b:A} (h:some a=some b):b=a:=(Option.some.inj h).symm
theorem nah {p q:Prop} (h:p) (k:¬p:=by decide):q:=absurd h k
end Go.Proofs.Ytjnnmindcbgjhaa
namespace Go.Proofs.Ytjnnmindcbgjhaa
open Go Go.Sy Go.RowKit
inductive Ex where
 |nil
 |mk (k n:Int) (s:List UInt8) (a b:Ex)
inductive Cd where
 |nil
 |mk (k:Int) (a b:Ex) (p q:Cd) (s:List UInt8)
structure Ar where
 p:Bool
 s:List UInt8
 e:Ex
inductive Sm where
 |mk (k:Int) (x y:List UInt8) (e f:Ex) (c:Cd) (args:List Ar) (th el:List Sm) (no:Int)
structure Vr where
 s:List UInt8
 p:Bool
structure Fn where
 name:List UInt8
 ps:List Vr
 ls:List Vr
 body:List Sm
structure Tok where
 k:Int
 t:List UInt8
 p:Int
abbrev dN:D:=.v (.pointer none)
abbrev dI (n:Int):D:=.v (.int .i64 n)
abbrev dS (s:List UInt8):D:=.v (.string (bs s))
abbrev dL0:D:=.v (.slice none 0 0)
def Ex.d:Ex→D
 | .nil=>dN
 | .mk k n s a b=>.pt (some [dI k,dI n,dS s,a.d,b.d])
def Cd.d:Cd→D
 | .nil=>dN
 | .mk k a b p q s=>.pt (some [dI k,a.d,b.d,p.d,q.d,dS s])
def Ar.r (a:Ar):List D:=[.v (.bool a.p),dS a.s,a.e.d]
def zAr:List D:=[.v (.bool false),dS [],dN]
def zSm:List D:=[dI 0,dS [],dS [],dN,dN,dN,dL0,dL0,dL0,dI 0]
mutual
def Sm.r:Sm→List D
 | .mk k x y e f c args th el no=>[dI k,dS x,dS y,e.d,f.d,c.d,.sl zAr (args.map Ar.r),.sl zSm (Sm.rs th),.sl zSm (Sm.rs el),dI no]
def Sm.rs:List Sm→List (List D)
 |[]=>[]
 |s::l=>s.r::Sm.rs l
end
theorem aO:∀l:List Sm,Sm.rs l=l.map Sm.r
 |[]=>by simp[Sm.rs]
 |s::l=>by simp only[Sm.rs,List.map_cons,aO l]
def Vr.r (v:Vr):List D:=[dS v.s,.v (.bool v.p)]
def zVr:List D:=[dS [],.v (.bool false)]
def Fn.r (f:Fn):List D:=[dS f.name,.sl zVr (f.ps.map Vr.r),.sl zVr (f.ls.map Vr.r),.sl zSm (f.body.map Sm.r)]
def zFn:List D:=[dS [],dL0,dL0,dL0]
def Tok.r (x:Tok):List D:=[dI x.k,dS x.t,dI x.p]
def zTk:List D:=[dI 0,dS [],dI 0]
theorem dr:ByteArray.empty=bs []:=rfl
theorem bs_inj {a b:List UInt8} (h:bs a=bs b):a=b:=by rw[← Ga a,← Ga b,h]
theorem JY:∀{a b:Ex},a.d=b.d→a=b
 | .nil,.nil,_=>rfl
 | .nil,.mk ..,h=>by simp[Ex.d]at h
 | .mk ..,.nil,h=>by simp[Ex.d]at h
 | .mk k n s a b,.mk k' n' s' a' b',h=>by
  simp only[Ex.d,D.pt.injEq,jS,List.cons.injEq,D.v.injEq,Value.int.injEq,Value.string.injEq,true_and,and_true]at h
  obtain⟨rfl,rfl,h1,h2,h3⟩:=h
  rw[bs_inj h1,JY h2,JY h3]
theorem QQ:∀{a b:Cd},a.d=b.d→a=b
 | .nil,.nil,_=>rfl
 | .nil,.mk ..,h=>by simp[Cd.d]at h
 | .mk ..,.nil,h=>by simp[Cd.d]at h
 | .mk k a b p q s,.mk k' a' b' p' q' s',h=>by
  simp only[Cd.d,D.pt.injEq,jS,List.cons.injEq,D.v.injEq,Value.int.injEq,Value.string.injEq,true_and,and_true]at h
  obtain⟨rfl,h1,h2,h3,h4,h5⟩:=h
  rw[bs_inj h5,JY h1,JY h2,QQ h3,QQ h4]
theorem B2 {A B:Type} {f:A→B} (hf:∀a b,f a=f b→a=b):∀{l m:List A},l.map f=m.map f→l=m
 |[],[],_=>rfl
 |[],_::_,h=>by simp at h
 |_::_,[],h=>by simp at h
 |a::l,b::m,h=>by
  simp only[List.map_cons,List.cons.injEq]at h
  rw[hf _ _ h.1,B2 hf h.2]
theorem aQ (a b:Ar) (h:a.r=b.r):a=b:=by
 obtain⟨p,s,e⟩:=a
 obtain⟨p',s',e'⟩:=b
 simp only[Ar.r,List.cons.injEq,D.v.injEq,Value.bool.injEq,Value.string.injEq,and_true]at h
 obtain⟨rfl,h1,h2⟩:=h
 rw[bs_inj h1,JY h2]
mutual
theorem MO:∀(a b:Sm),a.r=b.r→a=b
 | .mk k x y e f c args th el no,.mk k' x' y' e' f' c' args' th' el' no',h=>by
  simp only[Sm.r,List.cons.injEq,D.v.injEq,D.sl.injEq,Value.int.injEq,Value.string.injEq,true_and,and_true]at h
  obtain⟨rfl,h1,h2,h3,h4,h5,h6,h7,h8,rfl⟩:=h
  rw[bs_inj h1,bs_inj h2,JY h3,JY h4,QQ h5,B2 aQ h6,TK th th' h7,TK el el' h8]
theorem TK:∀(l m:List Sm),Sm.rs l=Sm.rs m→l=m
 |[],[],_=>rfl
 |[],_::_,h=>by simp[Sm.rs]at h
 |_::_,[],h=>by simp[Sm.rs]at h
 |a::l,b::m,h=>by
  simp only[Sm.rs,List.cons.injEq]at h
  rw[MO a b h.1,TK l m h.2]
end
theorem Pf (a b:Vr) (h:a.r=b.r):a=b:=by
 obtain⟨s,p⟩:=a
 obtain⟨s',p'⟩:=b
 simp only[Vr.r,List.cons.injEq,D.v.injEq,Value.bool.injEq,Value.string.injEq,and_true]at h
 rw[bs_inj h.1,h.2]
theorem VV (a b:Fn) (h:a.r=b.r):a=b:=by
 obtain⟨n,ps,ls,bd⟩:=a
 obtain⟨n',ps',ls',bd'⟩:=b
 simp only[Fn.r,List.cons.injEq,D.v.injEq,D.sl.injEq,Value.string.injEq,true_and,and_true]at h
 rw[bs_inj h.1,B2 Pf h.2.1,B2 Pf h.2.2.1,B2 MO h.2.2.2]
theorem aR (a b:Tok) (h:a.r=b.r):a=b:=by
 obtain⟨s,p,q⟩:=a
 obtain⟨s',p',q'⟩:=b
 simp only[Tok.r,List.cons.injEq,D.v.injEq,Value.int.injEq,Value.string.injEq,and_true,true_and]at h
 rw[h.1,bs_inj h.2.1,h.2.2]
theorem VW (d:D):toD (oD d)=some d:=by cases d<;>rfl
theorem Xf (d:D):De (oD d)=true:=by cases d<;>rfl
theorem Xg (d:D):(oD d).flat=true:=by cases d<;>rfl
theorem aS (n:Nat) (d:D):CV n (oD d)=true:=by cases d<;>rfl
theorem aT (f:Nat→Nat) (d:D):Ei f (oD d)=oD d:=by cases d<;>rfl
theorem iL (k t:Nat) (d:D):mvC k t (oD d)=oD d:=by cases d<;>rfl
theorem iM (k:Nat) (z:List D) (es:List (List D)) (d:D):fzC k z es (oD d)=oD d:=by cases d<;>rfl
theorem aU (k u:Nat) (p:List (Nat×Nat)) (i j:Nat) (d:D) (r:List C):ldc k u p i j (oD d::r)=oD d::ldc k u p i (j+1) r:=by cases d<;>rfl
def Ex.isNil:Ex→Bool
 | .nil=>true
 |_=>false
def Cd.isNil:Cd→Bool
 | .nil=>true
 |_=>false
def exC (e:Ex):C:=oD e.d
theorem yS (e:Ex):oD e.d=exC e:=rfl
theorem VX (e:Ex):toD (exC e)=some e.d:=VW _
theorem jc (e:Ex):De (exC e)=true:=Xf _
theorem TL (e:Ex):C.stor (exC e)=true:=ME _
theorem Ge (e:Ex):C.names (exC e)=[]:=PI _
theorem jd (e:Ex):(exC e).flat=true:=Xg _
theorem Ak (n:Nat) (e:Ex):CV n (exC e)=true:=aS n _
theorem rW (f:Nat→Nat) (e:Ex):Ei f (exC e)=exC e:=aT f _
theorem yT (k t:Nat) (e:Ex):mvC k t (exC e)=exC e:=iL k t _
theorem yU (k:Nat) (z:List D) (es:List (List D)) (e:Ex):fzC k z es (exC e)=exC e:=iM k z es _
theorem rX (k u:Nat) (p:List (Nat×Nat)) (i j:Nat) (e:Ex) (r:List C):ldc k u p i j (exC e::r)=exC e::ldc k u p i (j+1) r:=aU ..
theorem je (e:Ex):K4 (exC e)=some e.isNil:=by cases e<;>rfl
theorem AV:exC .nil= .v (.pointer none):=rfl
def cdC (e:Cd):C:=oD e.d
theorem yV (e:Cd):oD e.d=cdC e:=rfl
theorem aV (e:Cd):toD (cdC e)=some e.d:=VW _
theorem jf (e:Cd):De (cdC e)=true:=Xf _
theorem Xh (e:Cd):C.stor (cdC e)=true:=ME _
theorem J8 (e:Cd):C.names (cdC e)=[]:=PI _
theorem jg (e:Cd):(cdC e).flat=true:=Xg _
theorem Al (n:Nat) (e:Cd):CV n (cdC e)=true:=aS n _
theorem rY (f:Nat→Nat) (e:Cd):Ei f (cdC e)=cdC e:=aT f _
theorem yW (k t:Nat) (e:Cd):mvC k t (cdC e)=cdC e:=iL k t _
theorem yX (k:Nat) (z:List D) (es:List (List D)) (e:Cd):fzC k z es (cdC e)=cdC e:=iM k z es _
theorem rZ (k u:Nat) (p:List (Nat×Nat)) (i j:Nat) (e:Cd) (r:List C):ldc k u p i j (cdC e::r)=cdC e::ldc k u p i (j+1) r:=aU ..
theorem jh (e:Cd):K4 (cdC e)=some e.isNil:=by cases e<;>rfl
theorem Am:cdC .nil= .v (.pointer none):=rfl
theorem DE (k n:Int) (s:List UInt8) (a b:Ex):exC (.mk k n s a b)= .d (.pt (some [.v (.int .i64 k),.v (.int .i64 n),.v (.string (bs s)),a.d,b.d])):=rfl
theorem D5 (k:Int) (a b:Ex) (p q:Cd) (s:List UInt8):cdC (.mk k a b p q s)= .d (.pt (some [.v (.int .i64 k),a.d,b.d,p.d,q.d,.v (.string (bs s))])):=rfl
theorem Fe:Ex.d .nil= .v (.pointer none):=rfl
theorem O0:Cd.d .nil= .v (.pointer none):=rfl
structure Pr where
 l:List Tok
 i:Int
 en:Int
 e:Int
 at':Int
 deep:Int
 n:Int
theorem AO (p:Pr):(⟨p.l,p.i,p.en,p.e,p.at',p.deep,p.n⟩:Pr)=p:=rfl
def Pr.r (p:Pr):List D:=[.sl zTk (p.l.map Tok.r),dI p.i,dI p.en,dI p.e,dI p.at',dI p.deep,dI p.n]
def Pr.c (p:Pr):List C:=[.d (.sl zTk (p.l.map Tok.r)),.v (.int .i64 p.i),.v (.int .i64 p.en),.v (.int .i64 p.e),.v (.int .i64 p.at'),.v (.int .i64 p.deep),.v (.int .i64 p.n)]
def re:List D:=[dL0,dI 0,dI 0,dI 0,dI 0,dI 0,dI 0]
abbrev zPr:List C:=[.v (.int .i64 0),.v (.int .i64 0),.v (.int .i64 0),.v (.int .i64 0),.v (.int .i64 0),.v (.int .i64 0),.v (.int .i64 0)]
theorem ji (a b:Pr) (h:a.r=b.r):a=b:=by
 obtain⟨l,i,en,e,at',deep,n⟩:=a
 obtain⟨l',i',en',e',at2,deep',n'⟩:=b
 simp only[Pr.r,List.cons.injEq,D.v.injEq,D.sl.injEq,Value.int.injEq,true_and,and_true]at h
 obtain⟨h1,rfl,rfl,rfl,rfl,rfl,rfl⟩:=h
 rw[B2 aR h1]
theorem jk (a b:Pr) (h:a.c=b.c):a=b:=by
 obtain⟨l,i,en,e,at',deep,n⟩:=a
 obtain⟨l',i',en',e',at2,deep',n'⟩:=b
 simp only[Pr.c,List.cons.injEq,C.v.injEq,C.d.injEq,D.sl.injEq,Value.int.injEq,true_and,and_true]at h
 obtain⟨h1,rfl,rfl,rfl,rfl,rfl,rfl⟩:=h
 rw[B2 aR h1]
noncomputable def rPr:RowC Pr:=rowOf re Pr.r ji fun _=>rfl
theorem S9 (p:Pr):∀c∈p.c,c.names=[]:=by
 intro c hc
 simp only[Pr.c,List.mem_cons,List.not_mem_nil,or_false]at hc
 rcases hc with rfl|rfl|rfl|rfl|rfl|rfl|rfl<;>rfl
noncomputable def mPr:RowM Pr:=Mv zPr Pr.c S9
theorem iN:rPr.z=re:=rfl
theorem iO:rPr.e=Pr.r:=rfl
theorem Ad (l:List Tok) (i en e at' deep n:Int):rPr.d [.sl zTk (l.map Tok.r),dI i,dI en,dI e,dI at',dI deep,dI n]=some ⟨l,i,en,e,at',deep,n⟩:=rPr.i ⟨l,i,en,e,at',deep,n⟩
theorem Ae:mPr.z=zPr:=rfl
theorem Af:mPr.e=Pr.c:=rfl
theorem Ag (l:List Tok) (i en e at' deep n:Int):mPr.d [.d (.sl zTk (l.map Tok.r)),.v (.int .i64 i),.v (.int .i64 en),.v (.int .i64 e),.v (.int .i64 at'),.v (.int .i64 deep),.v (.int .i64 n)]=some ⟨l,i,en,e,at',deep,n⟩:=Kv jk ⟨l,i,en,e,at',deep,n⟩
theorem FM (p:Pr):∀q,some q∈[some ((zPr,[p.c]):MV)]→∀r∈q.2,∀c∈r,c.names=[]:=by
 intro q hq r hr c hc
 simp only[mem_singleton,jS]at hq
 subst hq
 simp only[mem_singleton]at hr
 subst hr
 exact S9 p c hc
abbrev tk0:Tok:=⟨0,[],0⟩
theorem jl (l:List Tok) (i:Nat):(l.map Tok.r).getD i zTk=Tok.r (l.getD i tk0):=by
 simp only[List.getD,List.getElem?_map]
 cases l[i]?<;>rfl
attribute [go_sem] yS VX jc TL Ge jd rW yT yU rX je yV aV jf Xh J8 jg rY yW yX rZ jh dI dL0 dN dS dr VW
end Go.Proofs.Ytjnnmindcbgjhaa
namespace Go.Proofs.Ytjnnmindcbgjhaa
open Go Go.Sy Go.RowKit
abbrev Ed (l:List UInt8):Prop:=l.length≤4294967296
def EN (b:Int):Bool:=decide (97≤b)&&decide (b≤122)||(decide (65≤b)&&decide (b≤90))||b==95
def Bk (b:Int):Bool:=decide (48≤b)&&decide (b≤57)
abbrev chI (l:List UInt8) (i:Nat):Int:=((l.getD i 0).toNat:Int)
def idB (b:Int):Bool:=EN b||Bk b
def FC (x:Tok):List C:=[.v (.int .i64 x.k),.v (.string (bs x.t)),.v (.int .i64 x.p)]
def rf (x:Tok):List D:=[.v (.int .i64 x.k),.v (.string (bs x.t)),.v (.int .i64 x.p)]
def E2:List C:=[.v (.int .i64 0),.v (.string ByteArray.empty),.v (.int .i64 0)]
theorem rh:zT E2=none:=rfl
attribute [go_sem] rh
def L8:List D:=[.v (.int .i64 0),.v (.string ByteArray.empty),.v (.int .i64 0)]
theorem jm (u:Nat) (z:List C) (l:List Tok):chNames (.vec u z (l.map FC))=[]:=X3 FC (by intro a c hc;simp only[FC,List.mem_cons,List.not_mem_nil,or_false]at hc;rcases hc with rfl|rfl|rfl<;>rfl) u z l
theorem Cu (l:List Tok):List.flatMap (fun r=>List.flatMap C.names r) (l.map FC)=[]:=jm 0 [] l
theorem aW (l:List Tok):D7 (l.map FC)=some (l.map rf):=FX FC (fun _=>rfl) l
theorem Ls (k t:Nat) (l:List Tok):(l.map FC).map (fun r=>r.map (mvC k t))=l.map FC:=G1 FC (fun _=>rfl) l
def L9 (r:List Tok×Int×Int):SV:=.tup [.inl (.d (.sl L8 (r.1.map rf))),.inl (.v (.int .i64 r.2.1)),.inl (.v (.int .i64 r.2.2))]
def Jo (l:List UInt8) (c:Int):Bool:=l.any fun b=>((b.toNat:Nat):Int)==c
theorem jn {l:List UInt8} {i:Nat} (h:i<l.length) (c:Int):Jo (l.drop i) c=(((l.getD i 0).toNat:Int)==c||Jo (l.drop (i+1)) c):=by
 rw[List.drop_eq_getElem_cons h]
 simp only[Jo,List.any_cons,List.getD,List.getElem?_eq_getElem h,Option.getD_some]
def blB (c:Int):Bool:=c==32||c==9||c==13||c==10
def nlB (c:Int):Bool:=!(c==10)
def dgF:List UInt8→Int→Bool→Int×Bool
 |[],n,g=>(n,g)
 |b::r,n,g=>if Bk (b.toNat:Int)=true then (if decide (922337203685477580<n)=true then dgF r n true else dgF r (IntKind.u64.wrap (IntKind.u64.wrap (10*n)+IntKind.u64.wrap (IntKind.u8.wrap ((b.toNat:Int)-48)))) g) else (n,g)
theorem ri {l:List UInt8} {i:Nat} (h:i<l.length) (n:Int) (g:Bool):dgF (l.drop i) n g=if Bk (chI l i)=true then (if decide (922337203685477580<n)=true then dgF (l.drop (i+1)) n true else dgF (l.drop (i+1)) (IntKind.u64.wrap (IntKind.u64.wrap (10*n)+IntKind.u64.wrap (IntKind.u8.wrap (chI l i-48)))) g) else (n,g):=by
 rw[List.drop_eq_getElem_cons h]
 simp only[dgF,chI,List.getD,List.getElem?_eq_getElem h,Option.getD_some]
theorem jo {l:List UInt8} {i:Nat} (h:l.length≤i) (n:Int) (g:Bool):dgF (l.drop i) n g=(n,g):=by
 rw[List.drop_eq_nil_of_le h];rfl
def Ph (l:List UInt8):Bool:=(dgF l 0 false).2||decide (9223372036854775807<(dgF l 0 false).1)
def TM (s:List UInt8) (i:Nat):Bool:=decide (((i+2:Nat):Int)≤(s.length:Int))&&((s.drop i).take 2==[61,61]||(s.drop i).take 2==[33,61]||(s.drop i).take 2==[60,61]||(s.drop i).take 2==[62,61]||(s.drop i).take 2==[38,38]||(s.drop i).take 2==[124,124])
abbrev NB:List UInt8:=[61,60,62,43,45,42,47,37,38,33,40,41,123,125,91,93,44,59]
def rxF (s:List UInt8):Nat→Nat→List Tok→List Tok×Int×Int
 |0,_,out=>(out,0,0)
 |f+1,i,out=>
  if s.length≤i then (out,0,0)
  else if blB (chI s i)=true then rxF s f (i+1) out
  else if (chI s i==35)=true then rxF s f (i+Bj nlB (s.drop i)) out
  else if EN (chI s i)=true then (if decide (32<((Bj idB (s.drop i):Nat):Int))=true then ([],(i:Int),53) else rxF s f (i+Bj idB (s.drop i)) (out++[⟨0,(s.drop i).take (Bj idB (s.drop i)),(i:Int)⟩]))
  else if Bk (chI s i)=true then
   (
    if Ph (s.drop i)=true then ([],(i:Int),53)
    else if (decide (((i+Bj Bk (s.drop i):Nat):Int)<(s.length:Int))&&EN (chI s (i+Bj Bk (s.drop i)))||(chI s i==48&&decide (1<((Bj Bk (s.drop i):Nat):Int))))=true then ([],(i:Int),50)
    else rxF s f (i+Bj Bk (s.drop i)) (out++[⟨1,(s.drop i).take (Bj Bk (s.drop i)),(i:Int)⟩]))
  else if TM s i=true then rxF s f (i+2) (out++[⟨2,(s.drop i).take 2,(i:Int)⟩])
  else if Jo NB (chI s i)=true then rxF s f (i+1) (out++[⟨2,(s.drop i).take 1,(i:Int)⟩])
  else ([],(i:Int),50)
def rxT (s:List UInt8):List Tok×Int×Int:=if decide (4096<(s.length:Int))=true then ([],0,53) else rxF s s.length 0 []
abbrev rxI (s:List UInt8) (i:Nat) (out:List Tok):St:=⟨[(0,true,.one (.v (.string (bs s)))),(5,true,.one (.s 1000)),(6,true,.one (.v (.int .i64 (i:Int))))],[(1000,.vec 0 E2 (out.map FC))]⟩
abbrev rxJ (s:List UInt8) (i:Nat) (out:List Tok):Prop:=i≤s.length∧out.length≤i∧∃f,s.length-i≤f∧rxF s f i out=rxT s
theorem yY {b:Bool} (h:(!b)=true):b=false:=by cases b<;>simp_all
theorem yZ {b:Bool} (h:(!b)=false):b=true:=by cases b<;>simp_all
theorem iP {a b:Bool} (h:(a&&b)=true):a=true:=by cases a<;>simp_all
end Go.Proofs.Ytjnnmindcbgjhaa
