/- The language's trees and how they lie in memory. No conditions but those in each statement. -/
import Derived.Test.YtbiepiggmagfcaaGreatDoorGs
set_option linter.unusedVariables false
set_option linter.unusedSimpArgs false
namespace Go.Proofs.YtbiepiggmagfcaaGreatDoor
open Go Go.Sy Go.RowKit
inductive Ex where
 |nil
 |mk (k n:Int) (s:List UInt8) (a b:Ex)
inductive Cd where
 |nil
 |mk (k:Int) (a b:Ex) (p q:Cd) (s:List UInt8)
structure Ar where
 p:Bool
 s:List UInt8
 e:Ex
inductive Sm where
 |mk (k:Int) (x y:List UInt8) (e f:Ex) (c:Cd) (args:List Ar) (th el:List Sm) (no:Int)
structure Vr where
 s:List UInt8
 p:Bool
structure Fn where
 name:List UInt8
 ps:List Vr
 ls:List Vr
 body:List Sm
structure Tok where
 k:Int
 t:List UInt8
 p:Int
abbrev dN:D:=.v (.pointer none)
abbrev dI (n:Int):D:=.v (.int .i64 n)
abbrev dS (s:List UInt8):D:=.v (.string (bs s))
abbrev dL0:D:=.v (.slice none 0 0)
def Ex.d:Ex→D
 | .nil=>dN
 | .mk k n s a b=>.pt (some [dI k,dI n,dS s,a.d,b.d])
def Cd.d:Cd→D
 | .nil=>dN
 | .mk k a b p q s=>.pt (some [dI k,a.d,b.d,p.d,q.d,dS s])
def Ar.r (a:Ar):List D:=[.v (.bool a.p),dS a.s,a.e.d]
def zAr:List D:=[.v (.bool false),dS [],dN]
def zSm:List D:=[dI 0,dS [],dS [],dN,dN,dN,dL0,dL0,dL0,dI 0]
mutual
def Sm.r:Sm→List D
 | .mk k x y e f c args th el no=>[dI k,dS x,dS y,e.d,f.d,c.d,.sl zAr (args.map Ar.r),.sl zSm (Sm.rs th),.sl zSm (Sm.rs el),dI no]
def Sm.rs:List Sm→List (List D)
 |[]=>[]
 |s::l=>s.r::Sm.rs l
end
theorem rs_map:∀l:List Sm,Sm.rs l=l.map Sm.r
 |[]=>by simp[Sm.rs]
 |s::l=>by simp only[Sm.rs,List.map_cons,rs_map l]
def Vr.r (v:Vr):List D:=[dS v.s,.v (.bool v.p)]
def zVr:List D:=[dS [],.v (.bool false)]
def Fn.r (f:Fn):List D:=[dS f.name,.sl zVr (f.ps.map Vr.r),.sl zVr (f.ls.map Vr.r),.sl zSm (f.body.map Sm.r)]
def zFn:List D:=[dS [],dL0,dL0,dL0]
def Tok.r (x:Tok):List D:=[dI x.k,dS x.t,dI x.p]
def zTk:List D:=[dI 0,dS [],dI 0]
theorem empty_bs:ByteArray.empty=bs []:=rfl
theorem bs_inj {a b:List UInt8} (h:bs a=bs b):a=b:=by rw[← bs_toList a,← bs_toList b,h]
theorem exd_inj:∀{a b:Ex},a.d=b.d→a=b
 | .nil,.nil,_=>rfl
 | .nil,.mk ..,h=>by simp[Ex.d]at h
 | .mk ..,.nil,h=>by simp[Ex.d]at h
 | .mk k n s a b,.mk k' n' s' a' b',h=>by
  simp only[Ex.d,D.pt.injEq,Option.some.injEq,List.cons.injEq,D.v.injEq,Value.int.injEq,Value.string.injEq,true_and,and_true]at h
  obtain⟨rfl,rfl,h1,h2,h3⟩:=h
  rw[bs_inj h1,exd_inj h2,exd_inj h3]
theorem cdd_inj:∀{a b:Cd},a.d=b.d→a=b
 | .nil,.nil,_=>rfl
 | .nil,.mk ..,h=>by simp[Cd.d]at h
 | .mk ..,.nil,h=>by simp[Cd.d]at h
 | .mk k a b p q s,.mk k' a' b' p' q' s',h=>by
  simp only[Cd.d,D.pt.injEq,Option.some.injEq,List.cons.injEq,D.v.injEq,Value.int.injEq,Value.string.injEq,true_and,and_true]at h
  obtain⟨rfl,h1,h2,h3,h4,h5⟩:=h
  rw[bs_inj h5,exd_inj h1,exd_inj h2,cdd_inj h3,cdd_inj h4]
theorem map_inj {A B:Type} {f:A→B} (hf:∀a b,f a=f b→a=b):∀{l m:List A},l.map f=m.map f→l=m
 |[],[],_=>rfl
 |[],_::_,h=>by simp at h
 |_::_,[],h=>by simp at h
 |a::l,b::m,h=>by
  simp only[List.map_cons,List.cons.injEq]at h
  rw[hf _ _ h.1,map_inj hf h.2]
theorem ar_inj (a b:Ar) (h:a.r=b.r):a=b:=by
 obtain⟨p,s,e⟩:=a
 obtain⟨p',s',e'⟩:=b
 simp only[Ar.r,List.cons.injEq,D.v.injEq,Value.bool.injEq,Value.string.injEq,and_true]at h
 obtain⟨rfl,h1,h2⟩:=h
 rw[bs_inj h1,exd_inj h2]
mutual
theorem sm_inj:∀(a b:Sm),a.r=b.r→a=b
 | .mk k x y e f c args th el no,.mk k' x' y' e' f' c' args' th' el' no',h=>by
  simp only[Sm.r,List.cons.injEq,D.v.injEq,D.sl.injEq,Value.int.injEq,Value.string.injEq,true_and,and_true]at h
  obtain⟨rfl,h1,h2,h3,h4,h5,h6,h7,h8,rfl⟩:=h
  rw[bs_inj h1,bs_inj h2,exd_inj h3,exd_inj h4,cdd_inj h5,map_inj ar_inj h6,sms_inj th th' h7,sms_inj el el' h8]
theorem sms_inj:∀(l m:List Sm),Sm.rs l=Sm.rs m→l=m
 |[],[],_=>rfl
 |[],_::_,h=>by simp[Sm.rs]at h
 |_::_,[],h=>by simp[Sm.rs]at h
 |a::l,b::m,h=>by
  simp only[Sm.rs,List.cons.injEq]at h
  rw[sm_inj a b h.1,sms_inj l m h.2]
end
theorem vr_inj (a b:Vr) (h:a.r=b.r):a=b:=by
 obtain⟨s,p⟩:=a
 obtain⟨s',p'⟩:=b
 simp only[Vr.r,List.cons.injEq,D.v.injEq,Value.bool.injEq,Value.string.injEq,and_true]at h
 rw[bs_inj h.1,h.2]
theorem tk_inj (a b:Tok) (h:a.r=b.r):a=b:=by
 obtain⟨s,p,q⟩:=a
 obtain⟨s',p',q'⟩:=b
 simp only[Tok.r,List.cons.injEq,D.v.injEq,Value.int.injEq,Value.string.injEq,and_true,true_and]at h
 rw[h.1,bs_inj h.2.1,h.2.2]
theorem oD_toD (d:D):toD (oD d)=some d:=by cases d<;>rfl
theorem oD_noVw (d:D):noVwC (oD d)=true:=by cases d<;>rfl
theorem oD_flat (d:D):(oD d).flat=true:=by cases d<;>rfl
theorem oD_out (n:Nat) (d:D):outC n (oD d)=true:=by cases d<;>rfl
theorem oD_ren (f:Nat→Nat) (d:D):renC f (oD d)=oD d:=by cases d<;>rfl
theorem oD_mv (k t:Nat) (d:D):mvC k t (oD d)=oD d:=by cases d<;>rfl
theorem oD_fz (k:Nat) (z:List D) (es:List (List D)) (d:D):fzC k z es (oD d)=oD d:=by cases d<;>rfl
theorem oD_ldc (k u:Nat) (p:List (Nat×Nat)) (i j:Nat) (d:D) (r:List C):ldc k u p i j (oD d::r)=oD d::ldc k u p i (j+1) r:=by cases d<;>rfl
def Ex.isNil:Ex→Bool
 | .nil=>true
 |_=>false
def Cd.isNil:Cd→Bool
 | .nil=>true
 |_=>false
def exC (e:Ex):C:=oD e.d
theorem ex_of (e:Ex):oD e.d=exC e:=rfl
theorem ex_toD (e:Ex):toD (exC e)=some e.d:=oD_toD _
theorem ex_noVw (e:Ex):noVwC (exC e)=true:=oD_noVw _
theorem ex_stor (e:Ex):C.stor (exC e)=true:=oD_stor _
theorem ex_names (e:Ex):C.names (exC e)=[]:=oD_names _
theorem ex_flat (e:Ex):(exC e).flat=true:=oD_flat _
theorem ex_out (n:Nat) (e:Ex):outC n (exC e)=true:=oD_out n _
theorem ex_ren (f:Nat→Nat) (e:Ex):renC f (exC e)=exC e:=oD_ren f _
theorem ex_mv (k t:Nat) (e:Ex):mvC k t (exC e)=exC e:=oD_mv k t _
theorem ex_fz (k:Nat) (z:List D) (es:List (List D)) (e:Ex):fzC k z es (exC e)=exC e:=oD_fz k z es _
theorem ex_ldc (k u:Nat) (p:List (Nat×Nat)) (i j:Nat) (e:Ex) (r:List C):ldc k u p i j (exC e::r)=exC e::ldc k u p i (j+1) r:=oD_ldc ..
theorem ex_nilC (e:Ex):nilC (exC e)=some e.isNil:=by cases e<;>rfl
theorem ex_nil:exC .nil= .v (.pointer none):=rfl
def cdC (e:Cd):C:=oD e.d
theorem cd_of (e:Cd):oD e.d=cdC e:=rfl
theorem cd_toD (e:Cd):toD (cdC e)=some e.d:=oD_toD _
theorem cd_noVw (e:Cd):noVwC (cdC e)=true:=oD_noVw _
theorem cd_stor (e:Cd):C.stor (cdC e)=true:=oD_stor _
theorem cd_names (e:Cd):C.names (cdC e)=[]:=oD_names _
theorem cd_flat (e:Cd):(cdC e).flat=true:=oD_flat _
theorem cd_out (n:Nat) (e:Cd):outC n (cdC e)=true:=oD_out n _
theorem cd_ren (f:Nat→Nat) (e:Cd):renC f (cdC e)=cdC e:=oD_ren f _
theorem cd_mv (k t:Nat) (e:Cd):mvC k t (cdC e)=cdC e:=oD_mv k t _
theorem cd_fz (k:Nat) (z:List D) (es:List (List D)) (e:Cd):fzC k z es (cdC e)=cdC e:=oD_fz k z es _
theorem cd_ldc (k u:Nat) (p:List (Nat×Nat)) (i j:Nat) (e:Cd) (r:List C):ldc k u p i j (cdC e::r)=cdC e::ldc k u p i (j+1) r:=oD_ldc ..
theorem cd_nilC (e:Cd):nilC (cdC e)=some e.isNil:=by cases e<;>rfl
theorem cd_nil:cdC .nil= .v (.pointer none):=rfl
theorem ex_mk (k n:Int) (s:List UInt8) (a b:Ex):exC (.mk k n s a b)= .d (.pt (some [.v (.int .i64 k),.v (.int .i64 n),.v (.string (bs s)),a.d,b.d])):=rfl
theorem cd_mk (k:Int) (a b:Ex) (p q:Cd) (s:List UInt8):cdC (.mk k a b p q s)= .d (.pt (some [.v (.int .i64 k),a.d,b.d,p.d,q.d,.v (.string (bs s))])):=rfl
theorem ex_dnil:Ex.d .nil= .v (.pointer none):=rfl
theorem cd_dnil:Cd.d .nil= .v (.pointer none):=rfl
structure Pr where
 l:List Tok
 i:Int
 en:Int
 e:Int
 at':Int
 deep:Int
 n:Int
theorem pr_eta (p:Pr):(⟨p.l,p.i,p.en,p.e,p.at',p.deep,p.n⟩:Pr)=p:=rfl
def Pr.r (p:Pr):List D:=[.sl zTk (p.l.map Tok.r),dI p.i,dI p.en,dI p.e,dI p.at',dI p.deep,dI p.n]
def Pr.c (p:Pr):List C:=[.d (.sl zTk (p.l.map Tok.r)),.v (.int .i64 p.i),.v (.int .i64 p.en),.v (.int .i64 p.e),.v (.int .i64 p.at'),.v (.int .i64 p.deep),.v (.int .i64 p.n)]
def zPrD:List D:=[dL0,dI 0,dI 0,dI 0,dI 0,dI 0,dI 0]
abbrev zPr:List C:=[.v (.int .i64 0),.v (.int .i64 0),.v (.int .i64 0),.v (.int .i64 0),.v (.int .i64 0),.v (.int .i64 0),.v (.int .i64 0)]
theorem prr_inj (a b:Pr) (h:a.r=b.r):a=b:=by
 obtain⟨l,i,en,e,at',deep,n⟩:=a
 obtain⟨l',i',en',e',at2,deep',n'⟩:=b
 simp only[Pr.r,List.cons.injEq,D.v.injEq,D.sl.injEq,Value.int.injEq,true_and,and_true]at h
 obtain⟨h1,rfl,rfl,rfl,rfl,rfl,rfl⟩:=h
 rw[map_inj tk_inj h1]
theorem prc_inj (a b:Pr) (h:a.c=b.c):a=b:=by
 obtain⟨l,i,en,e,at',deep,n⟩:=a
 obtain⟨l',i',en',e',at2,deep',n'⟩:=b
 simp only[Pr.c,List.cons.injEq,C.v.injEq,C.d.injEq,D.sl.injEq,Value.int.injEq,true_and,and_true]at h
 obtain⟨h1,rfl,rfl,rfl,rfl,rfl,rfl⟩:=h
 rw[map_inj tk_inj h1]
noncomputable def rPr:RowC Pr:=rowOf zPrD Pr.r prr_inj fun _=>rfl
theorem prc_nm (p:Pr):∀c∈p.c,c.names=[]:=by
 intro c hc
 simp only[Pr.c,List.mem_cons,List.not_mem_nil,or_false]at hc
 rcases hc with rfl|rfl|rfl|rfl|rfl|rfl|rfl<;>rfl
noncomputable def mPr:RowM Pr:=rowMOf zPr Pr.c prc_nm
theorem rPr_z:rPr.z=zPrD:=rfl
theorem rPr_e:rPr.e=Pr.r:=rfl
theorem rPr_d (l:List Tok) (i en e at' deep n:Int):rPr.d [.sl zTk (l.map Tok.r),dI i,dI en,dI e,dI at',dI deep,dI n]=some ⟨l,i,en,e,at',deep,n⟩:=rPr.i ⟨l,i,en,e,at',deep,n⟩
theorem mPr_z:mPr.z=zPr:=rfl
theorem mPr_e:mPr.e=Pr.c:=rfl
theorem mPr_d (l:List Tok) (i en e at' deep n:Int):mPr.d [.d (.sl zTk (l.map Tok.r)),.v (.int .i64 i),.v (.int .i64 en),.v (.int .i64 e),.v (.int .i64 at'),.v (.int .i64 deep),.v (.int .i64 n)]=some ⟨l,i,en,e,at',deep,n⟩:=rowMOf_d prc_inj ⟨l,i,en,e,at',deep,n⟩
theorem mem_nm (p:Pr):∀q,some q∈[some ((zPr,[p.c]):MV)]→∀r∈q.2,∀c∈r,c.names=[]:=by
 intro q hq r hr c hc
 simp only[List.mem_singleton,Option.some.injEq]at hq
 subst hq
 simp only[List.mem_singleton]at hr
 subst hr
 exact prc_nm p c hc
abbrev tk0:Tok:=⟨0,[],0⟩
theorem tk_getD (l:List Tok) (i:Nat):(l.map Tok.r).getD i zTk=Tok.r (l.getD i tk0):=by
 simp only[List.getD,List.getElem?_map]
 cases l[i]?<;>rfl
attribute [go_sem] ex_of ex_toD ex_noVw ex_stor ex_names ex_flat ex_ren ex_mv ex_fz ex_ldc ex_nilC cd_of cd_toD cd_noVw cd_stor cd_names cd_flat cd_ren cd_mv cd_fz cd_ldc cd_nilC dI dL0 dN dS empty_bs oD_toD
end Go.Proofs.YtbiepiggmagfcaaGreatDoor
namespace Go.Proofs.YtbiepiggmagfcaaGreatDoor
open Go Go.Sy Go.RowKit
def Ar.c (a:Ar):List C:=[.v (.bool a.p),.v (.string (bs a.s)),exC a.e]
def zAc:List C:=[.v (.bool false),.v (.string (bs [])),.v (.pointer none)]
theorem zAc_t:zT zAc=none:=rfl
attribute [go_sem] zAc_t
def Vr.c (v:Vr):List C:=[.v (.string (bs v.s)),.v (.bool v.p)]
def zVc:List C:=[.v (.string (bs [])),.v (.bool false)]
theorem zVc_t:zT zVc=none:=rfl
attribute [go_sem] zVc_t
def Sm.k:Sm→Int| .mk k _ _ _ _ _ _ _ _ _=>k
def Sm.x:Sm→List UInt8| .mk _ x _ _ _ _ _ _ _ _=>x
def Sm.y:Sm→List UInt8| .mk _ _ y _ _ _ _ _ _ _=>y
def Sm.e:Sm→Ex| .mk _ _ _ e _ _ _ _ _ _=>e
def Sm.f:Sm→Ex| .mk _ _ _ _ f _ _ _ _ _=>f
def Sm.cd:Sm→Cd| .mk _ _ _ _ _ c _ _ _ _=>c
def Sm.ar:Sm→List Ar| .mk _ _ _ _ _ _ a _ _ _=>a
def Sm.th:Sm→List Sm| .mk _ _ _ _ _ _ _ t _ _=>t
def Sm.el:Sm→List Sm| .mk _ _ _ _ _ _ _ _ e _=>e
def Sm.no:Sm→Int| .mk _ _ _ _ _ _ _ _ _ n=>n
theorem sm_r (s:Sm):s.r=[dI s.k,dS s.x,dS s.y,s.e.d,s.f.d,s.cd.d,.sl zAr (s.ar.map Ar.r),.sl zSm (s.th.map Sm.r),.sl zSm (s.el.map Sm.r),dI s.no]:=by
 cases s;simp only[Sm.r,rs_map,Sm.k,Sm.x,Sm.y,Sm.e,Sm.f,Sm.cd,Sm.ar,Sm.th,Sm.el,Sm.no]
def Sm.c (s:Sm):List C:=[.v (.int .i64 s.k),.v (.string (bs s.x)),.v (.string (bs s.y)),exC s.e,exC s.f,cdC s.cd,.d (.sl zAr (s.ar.map Ar.r)),.d (.sl zSm (s.th.map Sm.r)),.d (.sl zSm (s.el.map Sm.r)),.v (.int .i64 s.no)]
def zSc:List C:=[.v (.int .i64 0),.v (.string (bs [])),.v (.string (bs [])),.v (.pointer none),.v (.pointer none),.v (.pointer none),.v (.slice none 0 0),.v (.slice none 0 0),.v (.slice none 0 0),.v (.int .i64 0)]
theorem zSc_t:zT zSc=none:=rfl
attribute [go_sem] zSc_t
def Fn.c (f:Fn):List C:=[.v (.string (bs f.name)),.d (.sl zVr (f.ps.map Vr.r)),.d (.sl zVr (f.ls.map Vr.r)),.d (.sl zSm (f.body.map Sm.r))]
abbrev fn0:Fn:=⟨[],[],[],[]⟩
section
variable {A:Type} {l:List A}
structure RowsD (f:A→List C) (g:A→List D) (n:Nat):Prop where
 nm:∀a,∀c∈f a,C.names c=[]
 st:∀a,∀c∈f a,C.stor c=true
 td:∀a,toDs (f a)=some (g a)
 len:∀a,(f a).length=n
theorem mv_id (k t:Nat) {c:C} (h:c.names=[]) (h2:C.stor c=true):mvC k t c=c:=by
 cases c<;>first|rfl|(simp[C.stor]at h2;done)|(simp[C.names]at h;done)|(rename_i f caps;simp only[C.names]at h;simp[mvC,h])
theorem fz_id (k:Nat) (z:List D) (es:List (List D)) {c:C} (h:c.names=[]) (h2:C.stor c=true):fzC k z es c=c:=by
 cases c<;>first|rfl|(simp[C.stor]at h2;done)|(simp[C.names]at h;done)|(rename_i f caps;simp only[C.names]at h;simp[fzC,h])
theorem map_idC {σ:C→C} {r:List C} (h:∀c∈r,σ c=c):r.map σ=r:=by
 induction r with
 |nil=>rfl
 |cons c r ih=>rw[List.map_cons,h c (List.mem_cons_self ..),ih fun c hc=>h c (List.mem_cons_of_mem _ hc)]
variable {f:A→List C} {g:A→List D} {n:Nat} (hR:RowsD f g n)
include hR
theorem RowsD.fn:List.flatMap (fun r=>List.flatMap C.names r) (l.map f)=[]:=flN_of f hR.nm l
theorem RowsD.ds:toDss (l.map f)=some (l.map g):=toDss_of f hR.td l
theorem RowsD.ds1 (r:List C):toDss (l.map f++[r])=(toDs r).map fun d=>l.map g++[d]:=by
 induction l with
 |nil=>simp only[List.map_nil,List.nil_append,toDss];cases toDs r<;>rfl
 |cons a l ih=>simp only[List.map_cons,List.cons_append,toDss,hR.td a,ih];cases toDs r<;>rfl
theorem RowsD.mv (k t:Nat):(l.map f).map (fun r=>r.map (mvC k t))=l.map f:=map_of f (fun a=>map_idC fun c hc=>mv_id k t (hR.nm a c hc) (hR.st a c hc)) l
theorem RowsD.fz (k:Nat) (z:List D) (es:List (List D)):(l.map f).map (fun r=>r.map (fzC k z es))=l.map f:=map_of f (fun a=>map_idC fun c hc=>fz_id k z es (hR.nm a c hc) (hR.st a c hc)) l
theorem RowsD.stor:rowsStor (l.map f):=stor_of f hR.st l
theorem RowsD.cl:closB (l.map f)=true:=closB_of f hR.nm l
end
theorem rowsA:RowsD Ar.c Ar.r 3:=by
 refine⟨fun a c hc=>?_,fun a c hc=>?_,fun a=>?_,fun a=>rfl⟩
 ·simp only[Ar.c,List.mem_cons,List.not_mem_nil,or_false]at hc;rcases hc with rfl|rfl|rfl<;>first|rfl|exact ex_names _
 ·simp only[Ar.c,List.mem_cons,List.not_mem_nil,or_false]at hc;rcases hc with rfl|rfl|rfl<;>first|rfl|exact ex_stor _
 ·simp only[Ar.c,toDs,toD,ex_toD,Ar.r]
theorem rowsV:RowsD Vr.c Vr.r 2:=by
 refine⟨fun a c hc=>?_,fun a c hc=>?_,fun a=>?_,fun a=>rfl⟩
 ·simp only[Vr.c,List.mem_cons,List.not_mem_nil,or_false]at hc;rcases hc with rfl|rfl<;>rfl
 ·simp only[Vr.c,List.mem_cons,List.not_mem_nil,or_false]at hc;rcases hc with rfl|rfl<;>rfl
 ·simp only[Vr.c,toDs,toD,Vr.r]
theorem rowsS:RowsD Sm.c Sm.r 10:=by
 refine⟨fun a c hc=>?_,fun a c hc=>?_,fun a=>?_,fun a=>rfl⟩
 ·simp only[Sm.c,List.mem_cons,List.not_mem_nil,or_false]at hc;rcases hc with rfl|rfl|rfl|rfl|rfl|rfl|rfl|rfl|rfl|rfl<;>first|rfl|exact ex_names _|exact cd_names _
 ·simp only[Sm.c,List.mem_cons,List.not_mem_nil,or_false]at hc;rcases hc with rfl|rfl|rfl|rfl|rfl|rfl|rfl|rfl|rfl|rfl<;>first|rfl|exact ex_stor _|exact cd_stor _
 ·rw[sm_r];simp only[Sm.c,toDs,toD,ex_toD,cd_toD]
end Go.Proofs.YtbiepiggmagfcaaGreatDoor
namespace Go.Proofs.YtbiepiggmagfcaaGreatDoor
open Go Go.Sy Go.RowKit
theorem sC_any (k:Nat):sC k .any= .any:=rfl
theorem sC_v (k:Nat) (x:Value):sC k (.v x)= .v x:=rfl
theorem sC_p (k a x y:Nat):sC k (.p a x y)= .p k x y:=rfl
theorem sC_d (k:Nat) (x:D):sC k (.d x)= .d x:=rfl
theorem sC_ov (k:Nat) (z:List C) (es:List (List C)):sC k (.ov z es)= .ov z es:=rfl
theorem sR_1 (k:Nat) (r:List C):sR k [r]=[r.map (sC k)]:=rfl
attribute [go_sem] sC_any sC_v sC_p sC_d sC_ov sR_1 selfM specN_f specN_fn spN_some amB_d ptrB amB_a amB_m
structure Bd where
 u:Bool
 t:List UInt8
 r:List Int
def adC:Bool→C
 |true=>.p 0 0 0
 |false=>.v (.pointer none)
def byK (x:UInt8):List C:=[.v (.int .u8 x.toNat)]
def inK (n:Int):C:=.v (.int .i64 n)
def zB8:List C:=[.d (.v (.pointer (some ⟨5,0,none⟩)))]
def Bd.c (b:Bd):List C:=adC b.u::.ov zB8 (b.t.map byK)::b.r.map inK
theorem byK_inj (a b:UInt8) (h:byK a=byK b):a=b:=by
 simp only[byK,List.cons.injEq,C.v.injEq,Value.int.injEq,and_true,true_and]at h
 exact UInt8.toNat_inj.1 (by omega)
theorem bd_uq (k:Nat) (a b:Bd) (h:a.c.map (sC k)=b.c.map (sC k)):a=b:=by
 obtain⟨u,t,r⟩:=a
 obtain⟨u',t',r'⟩:=b
 simp only[Bd.c,List.map_cons,List.cons.injEq,sC_ov,C.ov.injEq,true_and,List.map_map]at h
 obtain⟨h1,h2,h3⟩:=h
 have hr:r=r':=map_inj (f:=sC k∘inK) (fun a b h=>by simpa [inK,sC] using h) h3
 rw[map_inj byK_inj h2,hr]
 cases u<;>cases u'<;>simp[adC,sC]at h1<;>rfl
theorem bdc_ok (b:Bd):∀c∈b.c,cOK 0 c:=by
 obtain⟨u,t,r⟩:=b
 intro c hc
 rcases List.mem_cons.1 hc with rfl|hc
 ·cases u
  ·exact .inl rfl
  ·exact .inr ⟨rfl,0,0,rfl⟩
 rcases List.mem_cons.1 hc with rfl|hc
 ·exact .inl rfl
 ·obtain⟨n,_,rfl⟩:=List.mem_map.1 hc
  exact .inl rfl
open Classical in
noncomputable def rBd (T:TypeId) (m:Nat):RowB Bd where
 z:=tgN T (m+2)
 d k r:=if h:∃b:Bd,b.r.length=m∧r=b.c.map (sC k) then some h.choose else none
 e:=Bd.c
 h k r b hd:=by
  split at hd
  ·rename_i h
   simp only[Option.some.injEq]at hd
   subst hd
   exact h.choose_spec.2
  ·cases hd
 n:=bdc_ok
theorem rBd_z (T:TypeId) (m:Nat):(rBd T m).z=tgN T (m+2):=rfl
theorem rBd_e (T:TypeId) (m:Nat):(rBd T m).e=Bd.c:=rfl
open Classical in
theorem rBd_d (T:TypeId) (m k:Nat) (b:Bd) (h:b.r.length=m):(rBd T m).d k (b.c.map (sC k))=some b:=by
 have hex:∃a:Bd,a.r.length=m∧b.c.map (sC k)=a.c.map (sC k):=⟨b,h,rfl⟩
 unfold rBd
 simp only[dif_pos hex]
 exact congrArg some (bd_uq k _ _ hex.choose_spec.2.symm)
theorem rBd_u0 (T:TypeId) (k:Nat) (t:List UInt8):(rBd T 0).d k [.p k 0 0,.ov zB8 (t.map byK)]=some ⟨true,t,[]⟩:=rBd_d T 0 k ⟨true,t,[]⟩ rfl
theorem rBd_n0 (T:TypeId) (k:Nat) (t:List UInt8):(rBd T 0).d k [.v (.pointer none),.ov zB8 (t.map byK)]=some ⟨false,t,[]⟩:=rBd_d T 0 k ⟨false,t,[]⟩ rfl
theorem rBd_f0 (T:TypeId) (k:Nat):(rBd T 0).d k [.v (.pointer none),.ov zB8 []]=some ⟨false,[],[]⟩:=rBd_n0 T k []
theorem rBd_u1 (T:TypeId) (k:Nat) (t:List UInt8) (n:Int):(rBd T 1).d k [.p k 0 0,.ov zB8 (t.map byK),.v (.int .i64 n)]=some ⟨true,t,[n]⟩:=rBd_d T 1 k ⟨true,t,[n]⟩ rfl
theorem rBd_n1 (T:TypeId) (k:Nat) (t:List UInt8) (n:Int):(rBd T 1).d k [.v (.pointer none),.ov zB8 (t.map byK),.v (.int .i64 n)]=some ⟨false,t,[n]⟩:=rBd_d T 1 k ⟨false,t,[n]⟩ rfl
theorem rBd_f1 (T:TypeId) (k:Nat) (n:Int):(rBd T 1).d k [.v (.pointer none),.ov zB8 [],.v (.int .i64 n)]=some ⟨false,[],[n]⟩:=rBd_n1 T k [] n
theorem bd_cOK (z:List C) (b:Bd) (l:List (Option MV)):∀(i:Nat) q,(some (z,[b.c])::l.map fun _=>(none:Option MV))[i]?=some (some q)→∀r∈q.2,∀c∈r,cOK i c:=by
 intro i q hq r hr c hc
 cases i with
 |zero=>
  simp only[List.getElem?_cons_zero,Option.some.injEq]at hq
  subst hq
  simp only[List.mem_singleton]at hr
  subst hr
  exact bdc_ok b c hc
 |succ i=>simp at hq
theorem bd_cOK1 (z:List C) (b:Bd):∀(i:Nat) q,([some (z,[b.c])]:List (Option MV))[i]?=some (some q)→∀r∈q.2,∀c∈r,cOK i c:=bd_cOK z b []
theorem bd_cOK2 (z:List C) (b:Bd):∀(i:Nat) q,([some (z,[b.c]),none]:List (Option MV))[i]?=some (some q)→∀r∈q.2,∀c∈r,cOK i c:=bd_cOK z b [none]
theorem no_cOK1:∀(i:Nat) q,([none]:List (Option MV))[i]?=some (some q)→∀r∈q.2,∀c∈r,cOK i c:=by
 intro i q hq
 cases i<;>simp at hq
theorem rowsY:RowsD byK (fun x=>[.v (.int .u8 x.toNat)]) 1:=by
 refine⟨fun a c hc=>?_,fun a c hc=>?_,fun a=>rfl,fun a=>rfl⟩
 ·simp only[byK,List.mem_singleton]at hc;subst hc;rfl
 ·simp only[byK,List.mem_singleton]at hc;subst hc;rfl
structure lieB (T:TypeId) (m:Nat):Prop where
 h:∀n,m+2≤n→liesAt Tryz.prog Tryz.prog.depth T (n / Tryz.prog.cellsOf T) 0 107 1=true
theorem x72:Builder.X72 Tryz.prog Tryz.lays156_ren:=⟨by kernel_rfl,by kernel_rfl⟩
end Go.Proofs.YtbiepiggmagfcaaGreatDoor
