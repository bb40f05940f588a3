/- The language's trees and how they lie in memory. No conditions but those in each statement. -/
import Derived.Test.YtjnnmindcbgjhabGs
set_option linter.unusedVariables false
set_option linter.unusedSimpArgs false
namespace Go.Proofs.Ytjnnmindcbgjhab
open Go Go.Sy Go.RowKit
inductive Ex where
 |nil
 |mk (k n:Int) (s:List UInt8) (a b:Ex)
inductive Cd where
 |nil
 |mk (k:Int) (a b:Ex) (p q:Cd) (s:List UInt8)
structure Ar where
 p:Bool
 s:List UInt8
 e:Ex
inductive Sm where
 |mk (k:Int) (x y:List UInt8) (e f:Ex) (c:Cd) (args:List Ar) (th el:List Sm) (no:Int)
structure Vr where
 s:List UInt8
 p:Bool
structure Fn where
 name:List UInt8
 ps:List Vr
 ls:List Vr
 body:List Sm
structure Tok where
 k:Int
 t:List UInt8
 p:Int
abbrev dN:D:=.v (.pointer none)
abbrev dI (n:Int):D:=.v (.int .i64 n)
abbrev dS (s:List UInt8):D:=.v (.string (bs s))
abbrev dL0:D:=.v (.slice none 0 0)
def Ex.d:Ex→D
 | .nil=>dN
 | .mk k n s a b=>.pt (some [dI k,dI n,dS s,a.d,b.d])
def Cd.d:Cd→D
 | .nil=>dN
 | .mk k a b p q s=>.pt (some [dI k,a.d,b.d,p.d,q.d,dS s])
def Ar.r (a:Ar):List D:=[.v (.bool a.p),dS a.s,a.e.d]
def zAr:List D:=[.v (.bool false),dS [],dN]
def zSm:List D:=[dI 0,dS [],dS [],dN,dN,dN,dL0,dL0,dL0,dI 0]
mutual
def Sm.r:Sm→List D
 | .mk k x y e f c args th el no=>[dI k,dS x,dS y,e.d,f.d,c.d,.sl zAr (args.map Ar.r),.sl zSm (Sm.rs th),.sl zSm (Sm.rs el),dI no]
def Sm.rs:List Sm→List (List D)
 |[]=>[]
 |s::l=>s.r::Sm.rs l
end
theorem rs_map:∀l:List Sm,Sm.rs l=l.map Sm.r
 |[]=>by simp[Sm.rs]
 |s::l=>by simp only[Sm.rs,List.map_cons,rs_map l]
def Vr.r (v:Vr):List D:=[dS v.s,.v (.bool v.p)]
def zVr:List D:=[dS [],.v (.bool false)]
def Fn.r (f:Fn):List D:=[dS f.name,.sl zVr (f.ps.map Vr.r),.sl zVr (f.ls.map Vr.r),.sl zSm (f.body.map Sm.r)]
def zFn:List D:=[dS [],dL0,dL0,dL0]
def Tok.r (x:Tok):List D:=[dI x.k,dS x.t,dI x.p]
def zTk:List D:=[dI 0,dS [],dI 0]
theorem empty_bs:ByteArray.empty=bs []:=rfl
theorem bs_inj {a b:List UInt8} (h:bs a=bs b):a=b:=by rw[← bs_toList a,← bs_toList b,h]
theorem exd_inj:∀{a b:Ex},a.d=b.d→a=b
 | .nil,.nil,_=>rfl
 | .nil,.mk ..,h=>by simp[Ex.d]at h
 | .mk ..,.nil,h=>by simp[Ex.d]at h
 | .mk k n s a b,.mk k' n' s' a' b',h=>by
  simp only[Ex.d,D.pt.injEq,Option.some.injEq,List.cons.injEq,D.v.injEq,Value.int.injEq,Value.string.injEq,true_and,and_true]at h
  obtain⟨rfl,rfl,h1,h2,h3⟩:=h
  rw[bs_inj h1,exd_inj h2,exd_inj h3]
theorem cdd_inj:∀{a b:Cd},a.d=b.d→a=b
 | .nil,.nil,_=>rfl
 | .nil,.mk ..,h=>by simp[Cd.d]at h
 | .mk ..,.nil,h=>by simp[Cd.d]at h
 | .mk k a b p q s,.mk k' a' b' p' q' s',h=>by
  simp only[Cd.d,D.pt.injEq,Option.some.injEq,List.cons.injEq,D.v.injEq,Value.int.injEq,Value.string.injEq,true_and,and_true]at h
  obtain⟨rfl,h1,h2,h3,h4,h5⟩:=h
  rw[bs_inj h5,exd_inj h1,exd_inj h2,cdd_inj h3,cdd_inj h4]
theorem map_inj {A B:Type} {f:A→B} (hf:∀a b,f a=f b→a=b):∀{l m:List A},l.map f=m.map f→l=m
 |[],[],_=>rfl
 |[],_::_,h=>by simp at h
 |_::_,[],h=>by simp at h
 |a::l,b::m,h=>by
  simp only[List.map_cons,List.cons.injEq]at h
  rw[hf _ _ h.1,map_inj hf h.2]
theorem ar_inj (a b:Ar) (h:a.r=b.r):a=b:=by
 obtain⟨p,s,e⟩:=a
 obtain⟨p',s',e'⟩:=b
 simp only[Ar.r,List.cons.injEq,D.v.injEq,Value.bool.injEq,Value.string.injEq,and_true]at h
 obtain⟨rfl,h1,h2⟩:=h
 rw[bs_inj h1,exd_inj h2]
mutual
theorem sm_inj:∀(a b:Sm),a.r=b.r→a=b
 | .mk k x y e f c args th el no,.mk k' x' y' e' f' c' args' th' el' no',h=>by
  simp only[Sm.r,List.cons.injEq,D.v.injEq,D.sl.injEq,Value.int.injEq,Value.string.injEq,true_and,and_true]at h
  obtain⟨rfl,h1,h2,h3,h4,h5,h6,h7,h8,rfl⟩:=h
  rw[bs_inj h1,bs_inj h2,exd_inj h3,exd_inj h4,cdd_inj h5,map_inj ar_inj h6,sms_inj th th' h7,sms_inj el el' h8]
theorem sms_inj:∀(l m:List Sm),Sm.rs l=Sm.rs m→l=m
 |[],[],_=>rfl
 |[],_::_,h=>by simp[Sm.rs]at h
 |_::_,[],h=>by simp[Sm.rs]at h
 |a::l,b::m,h=>by
  simp only[Sm.rs,List.cons.injEq]at h
  rw[sm_inj a b h.1,sms_inj l m h.2]
end
theorem vr_inj (a b:Vr) (h:a.r=b.r):a=b:=by
 obtain⟨s,p⟩:=a
 obtain⟨s',p'⟩:=b
 simp only[Vr.r,List.cons.injEq,D.v.injEq,Value.bool.injEq,Value.string.injEq,and_true]at h
 rw[bs_inj h.1,h.2]
theorem fn_inj (a b:Fn) (h:a.r=b.r):a=b:=by
 obtain⟨n,ps,ls,bd⟩:=a
 obtain⟨n',ps',ls',bd'⟩:=b
 simp only[Fn.r,List.cons.injEq,D.v.injEq,D.sl.injEq,Value.string.injEq,true_and,and_true]at h
 rw[bs_inj h.1,map_inj vr_inj h.2.1,map_inj vr_inj h.2.2.1,map_inj sm_inj h.2.2.2]
theorem tk_inj (a b:Tok) (h:a.r=b.r):a=b:=by
 obtain⟨s,p,q⟩:=a
 obtain⟨s',p',q'⟩:=b
 simp only[Tok.r,List.cons.injEq,D.v.injEq,Value.int.injEq,Value.string.injEq,and_true,true_and]at h
 rw[h.1,bs_inj h.2.1,h.2.2]
theorem oD_toD (d:D):toD (oD d)=some d:=by cases d<;>rfl
theorem oD_noVw (d:D):noVwC (oD d)=true:=by cases d<;>rfl
theorem oD_flat (d:D):(oD d).flat=true:=by cases d<;>rfl
theorem oD_out (n:Nat) (d:D):outC n (oD d)=true:=by cases d<;>rfl
theorem oD_ren (f:Nat→Nat) (d:D):renC f (oD d)=oD d:=by cases d<;>rfl
theorem oD_mv (k t:Nat) (d:D):mvC k t (oD d)=oD d:=by cases d<;>rfl
theorem oD_fz (k:Nat) (z:List D) (es:List (List D)) (d:D):fzC k z es (oD d)=oD d:=by cases d<;>rfl
theorem oD_ldc (k u:Nat) (p:List (Nat×Nat)) (i j:Nat) (d:D) (r:List C):ldc k u p i j (oD d::r)=oD d::ldc k u p i (j+1) r:=by cases d<;>rfl
def Ex.isNil:Ex→Bool
 | .nil=>true
 |_=>false
def Cd.isNil:Cd→Bool
 | .nil=>true
 |_=>false
def exC (e:Ex):C:=oD e.d
theorem ex_of (e:Ex):oD e.d=exC e:=rfl
theorem ex_toD (e:Ex):toD (exC e)=some e.d:=oD_toD _
theorem ex_noVw (e:Ex):noVwC (exC e)=true:=oD_noVw _
theorem ex_stor (e:Ex):C.stor (exC e)=true:=oD_stor _
theorem ex_names (e:Ex):C.names (exC e)=[]:=oD_names _
theorem ex_flat (e:Ex):(exC e).flat=true:=oD_flat _
theorem ex_out (n:Nat) (e:Ex):outC n (exC e)=true:=oD_out n _
theorem ex_ren (f:Nat→Nat) (e:Ex):renC f (exC e)=exC e:=oD_ren f _
theorem ex_mv (k t:Nat) (e:Ex):mvC k t (exC e)=exC e:=oD_mv k t _
theorem ex_fz (k:Nat) (z:List D) (es:List (List D)) (e:Ex):fzC k z es (exC e)=exC e:=oD_fz k z es _
theorem ex_ldc (k u:Nat) (p:List (Nat×Nat)) (i j:Nat) (e:Ex) (r:List C):ldc k u p i j (exC e::r)=exC e::ldc k u p i (j+1) r:=oD_ldc ..
theorem ex_nilC (e:Ex):nilC (exC e)=some e.isNil:=by cases e<;>rfl
theorem ex_nil:exC .nil= .v (.pointer none):=rfl
def cdC (e:Cd):C:=oD e.d
theorem cd_of (e:Cd):oD e.d=cdC e:=rfl
theorem cd_toD (e:Cd):toD (cdC e)=some e.d:=oD_toD _
theorem cd_noVw (e:Cd):noVwC (cdC e)=true:=oD_noVw _
theorem cd_stor (e:Cd):C.stor (cdC e)=true:=oD_stor _
theorem cd_names (e:Cd):C.names (cdC e)=[]:=oD_names _
theorem cd_flat (e:Cd):(cdC e).flat=true:=oD_flat _
theorem cd_out (n:Nat) (e:Cd):outC n (cdC e)=true:=oD_out n _
theorem cd_ren (f:Nat→Nat) (e:Cd):renC f (cdC e)=cdC e:=oD_ren f _
theorem cd_mv (k t:Nat) (e:Cd):mvC k t (cdC e)=cdC e:=oD_mv k t _
theorem cd_fz (k:Nat) (z:List D) (es:List (List D)) (e:Cd):fzC k z es (cdC e)=cdC e:=oD_fz k z es _
theorem cd_ldc (k u:Nat) (p:List (Nat×Nat)) (i j:Nat) (e:Cd) (r:List C):ldc k u p i j (cdC e::r)=cdC e::ldc k u p i (j+1) r:=oD_ldc ..
theorem cd_nilC (e:Cd):nilC (cdC e)=some e.isNil:=by cases e<;>rfl
theorem cd_nil:cdC .nil= .v (.pointer none):=rfl
theorem ex_mk (k n:Int) (s:List UInt8) (a b:Ex):exC (.mk k n s a b)= .d (.pt (some [.v (.int .i64 k),.v (.int .i64 n),.v (.string (bs s)),a.d,b.d])):=rfl
theorem cd_mk (k:Int) (a b:Ex) (p q:Cd) (s:List UInt8):cdC (.mk k a b p q s)= .d (.pt (some [.v (.int .i64 k),a.d,b.d,p.d,q.d,.v (.string (bs s))])):=rfl
theorem ex_dnil:Ex.d .nil= .v (.pointer none):=rfl
theorem cd_dnil:Cd.d .nil= .v (.pointer none):=rfl
structure Pr where
 l:List Tok
 i:Int
 en:Int
 e:Int
 at':Int
 deep:Int
 n:Int
theorem pr_eta (p:Pr):(⟨p.l,p.i,p.en,p.e,p.at',p.deep,p.n⟩:Pr)=p:=rfl
def Pr.r (p:Pr):List D:=[.sl zTk (p.l.map Tok.r),dI p.i,dI p.en,dI p.e,dI p.at',dI p.deep,dI p.n]
def Pr.c (p:Pr):List C:=[.d (.sl zTk (p.l.map Tok.r)),.v (.int .i64 p.i),.v (.int .i64 p.en),.v (.int .i64 p.e),.v (.int .i64 p.at'),.v (.int .i64 p.deep),.v (.int .i64 p.n)]
def zPrD:List D:=[dL0,dI 0,dI 0,dI 0,dI 0,dI 0,dI 0]
abbrev zPr:List C:=[.v (.int .i64 0),.v (.int .i64 0),.v (.int .i64 0),.v (.int .i64 0),.v (.int .i64 0),.v (.int .i64 0),.v (.int .i64 0)]
theorem prr_inj (a b:Pr) (h:a.r=b.r):a=b:=by
 obtain⟨l,i,en,e,at',deep,n⟩:=a
 obtain⟨l',i',en',e',at2,deep',n'⟩:=b
 simp only[Pr.r,List.cons.injEq,D.v.injEq,D.sl.injEq,Value.int.injEq,true_and,and_true]at h
 obtain⟨h1,rfl,rfl,rfl,rfl,rfl,rfl⟩:=h
 rw[map_inj tk_inj h1]
theorem prc_inj (a b:Pr) (h:a.c=b.c):a=b:=by
 obtain⟨l,i,en,e,at',deep,n⟩:=a
 obtain⟨l',i',en',e',at2,deep',n'⟩:=b
 simp only[Pr.c,List.cons.injEq,C.v.injEq,C.d.injEq,D.sl.injEq,Value.int.injEq,true_and,and_true]at h
 obtain⟨h1,rfl,rfl,rfl,rfl,rfl,rfl⟩:=h
 rw[map_inj tk_inj h1]
noncomputable def rPr:RowC Pr:=rowOf zPrD Pr.r prr_inj fun _=>rfl
theorem prc_nm (p:Pr):∀c∈p.c,c.names=[]:=by
 intro c hc
 simp only[Pr.c,List.mem_cons,List.not_mem_nil,or_false]at hc
 rcases hc with rfl|rfl|rfl|rfl|rfl|rfl|rfl<;>rfl
noncomputable def mPr:RowM Pr:=rowMOf zPr Pr.c prc_nm
theorem rPr_z:rPr.z=zPrD:=rfl
theorem rPr_e:rPr.e=Pr.r:=rfl
theorem rPr_d (l:List Tok) (i en e at' deep n:Int):rPr.d [.sl zTk (l.map Tok.r),dI i,dI en,dI e,dI at',dI deep,dI n]=some ⟨l,i,en,e,at',deep,n⟩:=rPr.i ⟨l,i,en,e,at',deep,n⟩
theorem mPr_z:mPr.z=zPr:=rfl
theorem mPr_e:mPr.e=Pr.c:=rfl
theorem mPr_d (l:List Tok) (i en e at' deep n:Int):mPr.d [.d (.sl zTk (l.map Tok.r)),.v (.int .i64 i),.v (.int .i64 en),.v (.int .i64 e),.v (.int .i64 at'),.v (.int .i64 deep),.v (.int .i64 n)]=some ⟨l,i,en,e,at',deep,n⟩:=rowMOf_d prc_inj ⟨l,i,en,e,at',deep,n⟩
theorem mem_nm (p:Pr):∀q,some q∈[some ((zPr,[p.c]):MV)]→∀r∈q.2,∀c∈r,c.names=[]:=by
 intro q hq r hr c hc
 simp only[List.mem_singleton,Option.some.injEq]at hq
 subst hq
 simp only[List.mem_singleton]at hr
 subst hr
 exact prc_nm p c hc
abbrev tk0:Tok:=⟨0,[],0⟩
theorem tk_getD (l:List Tok) (i:Nat):(l.map Tok.r).getD i zTk=Tok.r (l.getD i tk0):=by
 simp only[List.getD,List.getElem?_map]
 cases l[i]?<;>rfl
attribute [go_sem] ex_of ex_toD ex_noVw ex_stor ex_names ex_flat ex_ren ex_mv ex_fz ex_ldc ex_nilC cd_of cd_toD cd_noVw cd_stor cd_names cd_flat cd_ren cd_mv cd_fz cd_ldc cd_nilC dI dL0 dN dS empty_bs oD_toD
end Go.Proofs.Ytjnnmindcbgjhab
namespace Go.Proofs.Ytjnnmindcbgjhab
open Go Go.Sy Go.RowKit
abbrev smallB (l:List UInt8):Prop:=l.length≤4294967296
def letB (b:Int):Bool:=decide (97≤b)&&decide (b≤122)||(decide (65≤b)&&decide (b≤90))||b==95
def digB (b:Int):Bool:=decide (48≤b)&&decide (b≤57)
abbrev chI (l:List UInt8) (i:Nat):Int:=((l.getD i 0).toNat:Int)
def idB (b:Int):Bool:=letB b||digB b
def cTok (x:Tok):List C:=[.v (.int .i64 x.k),.v (.string (bs x.t)),.v (.int .i64 x.p)]
def dTok (x:Tok):List D:=[.v (.int .i64 x.k),.v (.string (bs x.t)),.v (.int .i64 x.p)]
def zTok:List C:=[.v (.int .i64 0),.v (.string ByteArray.empty),.v (.int .i64 0)]
theorem zTok_t:zT zTok=none:=rfl
attribute [go_sem] zTok_t
def zTokD:List D:=[.v (.int .i64 0),.v (.string ByteArray.empty),.v (.int .i64 0)]
theorem chN_tok (u:Nat) (z:List C) (l:List Tok):chNames (.vec u z (l.map cTok))=[]:=chN_of cTok (by intro a c hc;simp only[cTok,List.mem_cons,List.not_mem_nil,or_false]at hc;rcases hc with rfl|rfl|rfl<;>rfl) u z l
theorem flN_tok (l:List Tok):List.flatMap (fun r=>List.flatMap C.names r) (l.map cTok)=[]:=chN_tok 0 [] l
theorem toDss_tok (l:List Tok):toDss (l.map cTok)=some (l.map dTok):=toDss_of cTok (fun _=>rfl) l
theorem mvC_tok (k t:Nat) (l:List Tok):(l.map cTok).map (fun r=>r.map (mvC k t))=l.map cTok:=map_of cTok (fun _=>rfl) l
def toksV (r:List Tok×Int×Int):SV:=.tup [.inl (.d (.sl zTokD (r.1.map dTok))),.inl (.v (.int .i64 r.2.1)),.inl (.v (.int .i64 r.2.2))]
def oneB (l:List UInt8) (c:Int):Bool:=l.any fun b=>((b.toNat:Nat):Int)==c
theorem oneB_at {l:List UInt8} {i:Nat} (h:i<l.length) (c:Int):oneB (l.drop i) c=(((l.getD i 0).toNat:Int)==c||oneB (l.drop (i+1)) c):=by
 rw[List.drop_eq_getElem_cons h]
 simp only[oneB,List.any_cons,List.getD,List.getElem?_eq_getElem h,Option.getD_some]
def blB (c:Int):Bool:=c==32||c==9||c==13||c==10
def nlB (c:Int):Bool:=!(c==10)
def dgF:List UInt8→Int→Bool→Int×Bool
 |[],n,g=>(n,g)
 |b::r,n,g=>if digB (b.toNat:Int)=true then (if decide (922337203685477580<n)=true then dgF r n true else dgF r (IntKind.u64.wrap (IntKind.u64.wrap (10*n)+IntKind.u64.wrap (IntKind.u8.wrap ((b.toNat:Int)-48)))) g) else (n,g)
theorem dgF_at {l:List UInt8} {i:Nat} (h:i<l.length) (n:Int) (g:Bool):dgF (l.drop i) n g=if digB (chI l i)=true then (if decide (922337203685477580<n)=true then dgF (l.drop (i+1)) n true else dgF (l.drop (i+1)) (IntKind.u64.wrap (IntKind.u64.wrap (10*n)+IntKind.u64.wrap (IntKind.u8.wrap (chI l i-48)))) g) else (n,g):=by
 rw[List.drop_eq_getElem_cons h]
 simp only[dgF,chI,List.getD,List.getElem?_eq_getElem h,Option.getD_some]
theorem dgF_nil {l:List UInt8} {i:Nat} (h:l.length≤i) (n:Int) (g:Bool):dgF (l.drop i) n g=(n,g):=by
 rw[List.drop_eq_nil_of_le h];rfl
def greB (l:List UInt8):Bool:=(dgF l 0 false).2||decide (9223372036854775807<(dgF l 0 false).1)
def twoB (s:List UInt8) (i:Nat):Bool:=decide (((i+2:Nat):Int)≤(s.length:Int))&&((s.drop i).take 2==[61,61]||(s.drop i).take 2==[33,61]||(s.drop i).take 2==[60,61]||(s.drop i).take 2==[62,61]||(s.drop i).take 2==[38,38]||(s.drop i).take 2==[124,124])
abbrev signs:List UInt8:=[61,60,62,43,45,42,47,37,38,33,40,41,123,125,91,93,44,59]
def rxF (s:List UInt8):Nat→Nat→List Tok→List Tok×Int×Int
 |0,_,out=>(out,0,0)
 |f+1,i,out=>
  if s.length≤i then (out,0,0)
  else if blB (chI s i)=true then rxF s f (i+1) out
  else if (chI s i==35)=true then rxF s f (i+spanN nlB (s.drop i)) out
  else if letB (chI s i)=true then (if decide (32<((spanN idB (s.drop i):Nat):Int))=true then ([],(i:Int),53) else rxF s f (i+spanN idB (s.drop i)) (out++[⟨0,(s.drop i).take (spanN idB (s.drop i)),(i:Int)⟩]))
  else if digB (chI s i)=true then
   (
    if greB (s.drop i)=true then ([],(i:Int),53)
    else if (decide (((i+spanN digB (s.drop i):Nat):Int)<(s.length:Int))&&letB (chI s (i+spanN digB (s.drop i)))||(chI s i==48&&decide (1<((spanN digB (s.drop i):Nat):Int))))=true then ([],(i:Int),50)
    else rxF s f (i+spanN digB (s.drop i)) (out++[⟨1,(s.drop i).take (spanN digB (s.drop i)),(i:Int)⟩]))
  else if twoB s i=true then rxF s f (i+2) (out++[⟨2,(s.drop i).take 2,(i:Int)⟩])
  else if oneB signs (chI s i)=true then rxF s f (i+1) (out++[⟨2,(s.drop i).take 1,(i:Int)⟩])
  else ([],(i:Int),50)
def rxT (s:List UInt8):List Tok×Int×Int:=if decide (4096<(s.length:Int))=true then ([],0,53) else rxF s s.length 0 []
abbrev rxI (s:List UInt8) (i:Nat) (out:List Tok):St:=⟨[(0,true,.one (.v (.string (bs s)))),(5,true,.one (.s 1000)),(6,true,.one (.v (.int .i64 (i:Int))))],[(1000,.vec 0 zTok (out.map cTok))]⟩
abbrev rxJ (s:List UInt8) (i:Nat) (out:List Tok):Prop:=i≤s.length∧out.length≤i∧∃f,s.length-i≤f∧rxF s f i out=rxT s
theorem not_t {b:Bool} (h:(!b)=true):b=false:=by cases b<;>simp_all
theorem not_f {b:Bool} (h:(!b)=false):b=true:=by cases b<;>simp_all
theorem and_l {a b:Bool} (h:(a&&b)=true):a=true:=by cases a<;>simp_all
end Go.Proofs.Ytjnnmindcbgjhab
