/- Statements and functions that were read, in the form in which they are told: their texts' tokens. No conditions but those in each statement. -/
import Derived.Test.YtbiepiggmagfcaaGreatDoorKc1
import Derived.Test.YtbiepiggmagfcaaGreatDoorMc4
import Derived.Test.YtbiepiggmagfcaaGreatDoorPs5
set_option linter.unusedVariables false
set_option linter.unusedSimpArgs false
open List (append_nil mem_cons_of_mem)
namespace Go.Proofs.YtbiepiggmagfcaaGreatDoor
open Go Go.Sy Go.RowKit
mutual
def cnS:Cs→Cs
 | .asg x e=>.asg x (AN e.v)
 | .adr x y=>.adr x y
 | .nul x=>.nul x
 | .lod x y=>.lod x y
 | .sto x e=>.sto x (AN e.v)
 | .idx x y e=>.idx x y (AN e.v)
 | .put y e f=>.put y (AN e.v) (AN f.v)
 | .cal x y l=>.cal x y (l.map fun c=>AN c.v)
 | .ret e=>.ret (AN e.v)
 | .ass c=>.ass (An c.v)
 | .whi c b=>.whi (An c.v) (cnB b)
 | .ite c b none=>.ite (An c.v) (cnB b) none
 | .ite c b (some e)=>.ite (An c.v) (cnB b) (if e.isEmpty=true then none else some (cnB e))
def cnB:List Cs→List Cs
 |[]=>[]
 |s::l=>cnS s::cnB l
end
structure ceQ (e:Cx):Prop where
 v:(AN e.v).v=e.v
 o:exO (AN e.v)
 d:(AN e.v).dp≤e.dp
 z:Lz (exT e.v) (AN e.v).tk
theorem Ox {e:Cx} (h:exO e) (g:∀t∈e.tk,tkG t):ceQ e:=by
 have q:=UY _ (e.re h.1 h.2 g)
 exact⟨q.v,⟨q.w,q.n⟩,(G1 e h.1).1,q.z⟩
structure ccQ (c:Cc):Prop where
 v:(An c.v).v=c.v
 w:(An c.v).wf
 d:(An c.v).dp≤2*c.dp
 z:Lz (coT c.v) (An c.v).tk
theorem az {c:Cc} (h:c.wf) (g:∀t∈c.tk,tkG t):ccQ c:=by
 have q:=bI _ (c.re h g)
 exact⟨q.v,q.w,(IX c h).1,q.z⟩
theorem IV {s:List UInt8} (g:tkG (0,s)):Lz s [(0,s)]:=(g.1 rfl).1
structure cnQ (s:Cs):Prop where
 v:∀n,(cnS s).v n=s.v n
 c:(cnS s).ct=s.ct
 w:(cnS s).wf
 d:(cnS s).dp≤2*s.dp
 z:∀(d:Nat) (n:Int),Lw (lnX (lnS d (s.v n))) (cnS s).tk
structure cnP (l:List Cs):Prop where
 v:∀n,vB n (cnB l)=vB n l
 c:ctB (cnB l)=ctB l
 w:wfB (cnB l)
 d:dpB (cnB l)≤2*dpB l
 z:∀(d:Nat) (n:Int),Lw (lnX (lnB d (vB n l))) (tkB (cnB l))
theorem Yo:∀d:Nat,Lw (List.replicate d 9) []
 |0=>Lp.nil
 |d+1=>((A3I 9).wapp (Yo d)).cast rfl rfl
theorem F8 {d:Nat} {ps:List (List UInt8)} {ts:List Kt} (h:Lw (ps.flatten++[10]) ts):Lw (BL d ps) ts:=
 ((Yo d).wapp h).cast (by simp[BL]) rfl
theorem He (d:Nat) (s:Sm) (h1:(s.k==10)=false) (h2:(s.k==11)=false):lnX (lnS d s)=BL d (hdL s):=by
 rw[BJ,h1,h2,BM,if_neg (by decide),if_neg (by decide),AO,append_nil]
theorem QE:Lw [59,10] [(2,[59])]:=Lp.of (n:=2) (fun i=>[⟨2,[59],((i+0:Nat):Int)⟩]) (by decide) (fun _=>rfl) (fun f i r out=>by kernel_rfl)
theorem A1W:Lw [32,61,32,110,117,108,108,59,10] [(2,[61]),(0,[110,117,108,108]),(2,[59])]:=Lp.of (n:=6) (fun i=>[⟨2,[61],((i+1:Nat):Int)⟩,⟨0,[110,117,108,108],((i+3:Nat):Int)⟩,⟨2,[59],((i+7:Nat):Int)⟩]) (by decide) (fun _=>rfl) (fun f i r out=>by kernel_rfl)
theorem A1X:Lw [93,59,10] [(2,[93]),(2,[59])]:=Lp.of (n:=3) (fun i=>[⟨2,[93],((i+0:Nat):Int)⟩,⟨2,[59],((i+1:Nat):Int)⟩]) (by decide) (fun _=>rfl) (fun f i r out=>by kernel_rfl)
theorem b9:Lw [41,59,10] [(2,[41]),(2,[59])]:=Lp.of (n:=3) (fun i=>[⟨2,[41],((i+0:Nat):Int)⟩,⟨2,[59],((i+1:Nat):Int)⟩]) (by decide) (fun _=>rfl) (fun f i r out=>by kernel_rfl)
theorem bA:Lw [41,32,123,10] [(2,[41]),(2,[123])]:=Lp.of (n:=4) (fun i=>[⟨2,[41],((i+0:Nat):Int)⟩,⟨2,[123],((i+2:Nat):Int)⟩]) (by decide) (fun _=>rfl) (fun f i r out=>by kernel_rfl)
theorem bB:Lw [125,10] [(2,[125])]:=Lp.of (n:=2) (fun i=>[⟨2,[125],((i+0:Nat):Int)⟩]) (by decide) (fun _=>rfl) (fun f i r out=>by kernel_rfl)
theorem A1Y:Lw [125,32,101,108,115,101,32,123,10] [(2,[125]),(0,[101,108,115,101]),(2,[123])]:=Lp.of (n:=6) (fun i=>[⟨2,[125],((i+0:Nat):Int)⟩,⟨0,[101,108,115,101],((i+2:Nat):Int)⟩,⟨2,[123],((i+7:Nat):Int)⟩]) (by decide) (fun _=>rfl) (fun f i r out=>by kernel_rfl)
theorem mN:Lw [105,102,32,40] [(0,tIf),(2,[40])]:=(bJ.wapp (Bs 40)).cast rfl rfl
theorem A1Z:Lw [119,104,105,108,101,32,40] [(0,PR),(2,[40])]:=(me.wapp (Bs 40)).cast rfl rfl
theorem A1a:Lw [97,115,115,101,114,116,32,40] [(0,PQ),(2,[40])]:=(mc.wapp (Bs 40)).cast rfl rfl
theorem ux (a b:List UInt8) (l:List (List UInt8)):jnT (a::b::l)=a++([44,32]++jnT (b::l)):=by
 show Lib.join _ _=a++([44,32]++Lib.join _ _)
 rw[Lib.join_cons,Lib.join_cons];simp[Lib.joinTail]
theorem uy (a:List UInt8):jnT [a]=a:=Lib.join_one _ _
theorem WQ {l:List Cx} {t:Kt}:∀{c:Cx},c∈l→t∈c.tk→t∈agK l:=by
 induction l with
 |nil=>intro c h;cases h
 |cons a l ih=>
  intro c h ht
  cases l with
  |nil=>
   rw[List.mem_singleton.1 h]at ht
   exact List.mem_append_left _ ht
  |cons b l=>
   show t∈a.tk++kO 44::agK (b::l)
   rcases List.mem_cons.1 h with rfl|h
   ·exact List.mem_append_left _ ht
   ·exact List.mem_append_right _ (mem_cons_of_mem _ (ih h ht))
theorem jA:∀l:List Cx,(∀e∈l,ceQ e)→Lz (jnT ((agA l).map Az)) (agN (l.map fun c=>AN c.v))
 |[],_=>Lp.nil
 |[c],h=>by
  show Lz (jnT [exT c.v]) (AN c.v).tk
  rw[uy];exact(h c (by simp)).z
 |c::d::l,h=>by
  have ih:=jA (d::l) (fun e he=>h e (mem_cons_of_mem _ he))
  have e:jnT ((agA (c::d::l)).map Az)=exT c.v++([44,32]++jnT ((agA (d::l)).map Az)):=ux _ _ _
  rw[e]
  exact((h c (by simp)).z.app (bT.wapp ih) ⟨44,_,rfl,by decide⟩).cast rfl (by simp[agN])
theorem uz {l:List Cx} (h:∀e∈l,ceQ e):agA (l.map fun c=>AN c.v)=agA l:=by
 unfold agA
 rw[List.map_map]
 refine List.map_congr_left fun c hc=>?_
 show (⟨false,[],(AN c.v).v⟩:Ar)=_
 rw[(h c hc).v]
theorem bC:∀{l:List Cx},(∀e∈l,ceQ e)→agD (l.map fun c=>AN c.v)≤agD l
 |[],_=>Nat.le_refl _
 |c::l,h=>by
  have h1:=(h c (by simp)).d
  have h2:=bC (l:=l) (fun e he=>h e (mem_cons_of_mem _ he))
  simp only[List.map_cons,agD];omega
theorem mO {l:List Cx} (h:∀e∈l,ceQ e):∀e∈l.map (fun c=>AN c.v),exO e:=by
 intro e he
 obtain⟨c,hc,rfl⟩:=List.mem_map.1 he
 exact(h c hc).o
mutual
theorem A7K:∀s:Cs,s.wf→(∀t∈s.tk,tkG t)→cnQ s
 | .asg x e,hw,g=>by
  simp only[Cs.wf]at hw
  simp only[Cs.tk]at g
  have q:=Ox hw.2 (fun t ht=>g t (by simp[ht]))
  have zx:=IV (g (0,x) (by simp))
  refine⟨fun n=>by simp only[cnS,Cs.v,q.v],by simp only[cnS,Cs.ct],by simp only[cnS,Cs.wf];exact⟨hw.1,q.o⟩,by have:=q.d;simp only[cnS,Cs.dp];omega,fun d n=>?_⟩
  rw[Cs.v,He _ _ rfl rfl,PX]
  exact F8 ((((zx.app FC (Ac _ _)).wapp q.z).app QE (Ac _ _)).cast (by simp) (by simp[cnS,Cs.tk]))
 | .adr x y,hw,g=>by
  simp only[Cs.wf]at hw
  simp only[Cs.tk]at g
  have zx:=IV (g (0,x) (by simp))
  have zy:=IV (g (0,y) (by simp))
  refine⟨fun n=>by simp only[cnS],by simp only[cnS],by simp only[cnS,Cs.wf];exact hw,by simp only[cnS];omega,fun d n=>?_⟩
  rw[Cs.v,He _ _ rfl rfl,RS]
  have e1:Lp pA ([32,61,32]++[38]) ([(2,[61])]++[(2,[38])]):=FC.wapp nh
  have e2:∃c q,y=c::q∧pA c=true:=by
   obtain⟨c,q,e,hc⟩:=hw.2.2
   refine⟨c,q,e,?_⟩
   simp only[pA,Bool.not_eq_true',beq_eq_false_iff_ne]
   rintro rfl
   revert hc;decide
  exact F8 ((((zx.app e1 (Ac _ _)).app zy e2).app QE (Ac _ _)).cast (by simp) (by simp[cnS,Cs.tk]))
 | .nul x,hw,g=>by
  simp only[Cs.wf]at hw
  simp only[Cs.tk]at g
  have zx:=IV (g (0,x) (by simp))
  refine⟨fun n=>by simp only[cnS],by simp only[cnS],by simp only[cnS,Cs.wf];exact hw,by simp only[cnS];omega,fun d n=>?_⟩
  rw[Cs.v,He _ _ rfl rfl,RT]
  exact F8 ((zx.app A1W (Ac _ _)).cast (by simp) (by simp[cnS,Cs.tk]))
 | .lod x y,hw,g=>by
  simp only[Cs.wf]at hw
  simp only[Cs.tk]at g
  have zx:=IV (g (0,x) (by simp))
  have zy:=IV (g (0,y) (by simp))
  refine⟨fun n=>by simp only[cnS],by simp only[cnS],by simp only[cnS,Cs.wf];exact hw,by simp only[cnS];omega,fun d n=>?_⟩
  rw[Cs.v,He _ _ rfl rfl,RU]
  have e1:Lw ([32,61,32]++[42]) ([(2,[61])]++[(2,[42])]):=FC.wapp (Bs 42)
  exact F8 ((((zx.app e1 (Ac _ _)).wapp zy).app QE (Ac _ _)).cast (by simp) (by simp[cnS,Cs.tk]))
 | .sto x e,hw,g=>by
  simp only[Cs.wf]at hw
  simp only[Cs.tk]at g
  have q:=Ox hw.2 (fun t ht=>g t (by simp[ht]))
  have zx:=IV (g (0,x) (by simp))
  refine⟨fun n=>by simp only[cnS,Cs.v,q.v],by simp only[cnS,Cs.ct],by simp only[cnS,Cs.wf];exact⟨hw.1,q.o⟩,by have:=q.d;simp only[cnS,Cs.dp];omega,fun d n=>?_⟩
  rw[Cs.v,He _ _ rfl rfl,RV]
  exact F8 ((((((Bs 42).wapp zx).app FC (Ac _ _)).wapp q.z).app QE (Ac _ _)).cast (by simp) (by simp[cnS,Cs.tk]))
 | .idx x y e,hw,g=>by
  simp only[Cs.wf]at hw
  simp only[Cs.tk]at g
  have q:=Ox hw.2.2 (fun t ht=>g t (by simp[ht]))
  have zx:=IV (g (0,x) (by simp))
  have zy:=IV (g (0,y) (by simp))
  refine⟨fun n=>by simp only[cnS,Cs.v,q.v],by simp only[cnS,Cs.ct],by simp only[cnS,Cs.wf];exact⟨hw.1,hw.2.1,q.o⟩,by have:=q.d;simp only[cnS,Cs.dp];omega,fun d n=>?_⟩
  rw[Cs.v,He _ _ rfl rfl,RW]
  exact F8 (((((((zx.app FC (Ac _ _)).wapp zy).app (Bs 91) (Ac _ _)).wapp q.z).app A1X (Ac _ _))).cast (by simp) (by simp[cnS,Cs.tk]))
 | .put y e f,hw,g=>by
  simp only[Cs.wf]at hw
  simp only[Cs.tk]at g
  have q:=Ox hw.2.1 (fun t ht=>g t (by simp[ht]))
  have r:=Ox hw.2.2 (fun t ht=>g t (by simp[ht]))
  have zy:=IV (g (0,y) (by simp))
  refine⟨fun n=>by simp only[cnS,Cs.v,q.v,r.v],by simp only[cnS,Cs.ct],by simp only[cnS,Cs.wf];exact⟨hw.1,q.o,r.o⟩,by have:=q.d;have:=r.d;simp only[cnS,Cs.dp];omega,fun d n=>?_⟩
  rw[Cs.v,He _ _ rfl rfl,RX]
  exact F8 (((((((zy.app (Bs 91) (Ac _ _)).wapp q.z).app ml (Ac _ _)).wapp r.z).app QE (Ac _ _))).cast (by simp) (by simp[cnS,Cs.tk]))
 | .cal none y l,hw,g=>by
  simp only[Cs.wf]at hw
  simp only[Cs.tk]at g
  have zy:=IV (g (0,y) (by simp))
  have hq:∀e∈l,ceQ e:=fun e he=>Ox (hw.2 e he) (fun t ht=>g t (by simp[WQ he ht]))
  refine⟨fun n=>by simp only[cnS,Cs.v,uz hq],by simp only[cnS,Cs.ct],by simp only[cnS,Cs.wf];exact⟨hw.1,mO hq⟩,by have:=bC hq;simp only[cnS,Cs.dp];omega,fun d n=>?_⟩
  rw[Cs.v,He _ _ rfl rfl,J8]
  exact F8 ((((zy.app (Bs 40) (Ac _ _)).wapp (jA l hq)).app b9 (Ac _ _)).cast (by simp[FX]) (by simp[cnS,Cs.tk,SE]))
 | .cal (some x) y l,hw,g=>by
  simp only[Cs.wf]at hw
  simp only[Cs.tk]at g
  have zx:=IV (g (0,x) (by simp))
  have zy:=IV (g (0,y) (by simp))
  have hq:∀e∈l,ceQ e:=fun e he=>Ox (hw.2.2 e he) (fun t ht=>g t (by simp[WQ he ht]))
  refine⟨fun n=>by simp only[cnS,Cs.v,uz hq],by simp only[cnS,Cs.ct],by simp only[cnS,Cs.wf];exact⟨hw.1,hw.2.1,mO hq⟩,by have:=bC hq;simp only[cnS,Cs.dp];omega,fun d n=>?_⟩
  rw[Cs.v,He _ _ rfl rfl,J8]
  have ht:FX x=x++[32,61,32]:=by
   obtain⟨c,q,e,_⟩:=hw.1.2
   rw[e];rfl
  rw[ht]
  exact F8 ((((((zx.app FC (Ac _ _)).wapp zy).app (Bs 40) (Ac _ _)).wapp (jA l hq)).app b9 (Ac _ _)).cast (by simp) (by simp[cnS,Cs.tk,SE]))
 | .ret e,hw,g=>by
  simp only[Cs.wf]at hw
  simp only[Cs.tk]at g
  have q:=Ox hw (fun t ht=>g t (by simp[ht]))
  refine⟨fun n=>by simp only[cnS,Cs.v,q.v],by simp only[cnS,Cs.ct],by simp only[cnS,Cs.wf];exact q.o,by have:=q.d;simp only[cnS,Cs.dp];omega,fun d n=>?_⟩
  rw[Cs.v,He _ _ rfl rfl,RY]
  exact F8 (((W9.wapp q.z).app QE (Ac _ _)).cast (by simp) (by simp[cnS,Cs.tk]))
 | .ass c,hw,g=>by
  simp only[Cs.wf]at hw
  simp only[Cs.tk]at g
  have q:=az hw (fun t ht=>g t (by simp[ht]))
  refine⟨fun n=>by simp only[cnS,Cs.v,q.v],by simp only[cnS,Cs.ct],by simp only[cnS,Cs.wf];exact q.w,by have:=q.d;simp only[cnS,Cs.dp];omega,fun d n=>?_⟩
  rw[Cs.v,He _ _ rfl rfl,OB]
  exact F8 (((A1a.wapp q.z).app b9 (Ac _ _)).cast (by simp) (by simp[cnS,Cs.tk]))
 | .whi c b,hw,g=>by
  simp only[Cs.wf]at hw
  simp only[Cs.tk]at g
  have q:=az hw.1 (fun t ht=>g t (by simp[ht]))
  have p:=WR b hw.2 (fun t ht=>g t (by simp[ht]))
  refine⟨fun n=>by simp only[cnS,Cs.v,q.v,p.v],by simp only[cnS,Cs.ct,p.c],by simp only[cnS,Cs.wf];exact⟨q.w,p.w⟩,by have:=q.d;have:=p.d;simp only[cnS,Cs.dp];omega,fun d n=>?_⟩
  rw[Cs.v,BJ,BM,OA]
  rw[if_neg (by simp only[Sm.k];decide),if_pos (by simp only[Sm.k];decide),Bb,Dv,AO,append_nil]
  have z1:=F8 (d:=d) (ps:=[[119,104,105,108,101,32,40],coT c.v,[41,32,123]]) (((A1Z.wapp q.z).app bA (Ac _ _)).cast (by simp) rfl)
  have z2:=F8 (d:=d) (ps:=[[125]]) (bB.cast (by simp) rfl)
  exact(z1.wapp ((p.z (d+1) (n+1)).wapp z2)).cast rfl (by simp[cnS,Cs.tk])
 | .ite c b none,hw,g=>by
  simp only[Cs.wf]at hw
  simp only[Cs.tk]at g
  have q:=az hw.1 (fun t ht=>g t (by simp[ht]))
  have p:=WR b hw.2 (fun t ht=>g t (by simp[ht]))
  refine⟨fun n=>by simp only[cnS,Cs.v,q.v,p.v],by simp only[cnS,Cs.ct,p.c],by simp only[cnS,Cs.wf];exact⟨q.w,p.w⟩,by have:=q.d;have:=p.d;simp only[cnS,Cs.dp];omega,fun d n=>?_⟩
  rw[Cs.v,BJ,BM,FG]
  rw[if_pos (by simp only[Sm.k];decide),Bb,if_pos (by simp only[Sm.el];rfl),List.nil_append,Dv,AO,append_nil]
  have z1:=F8 (d:=d) (ps:=[[105,102,32,40],coT c.v,[41,32,123]]) (((mN.wapp q.z).app bA (Ac _ _)).cast (by simp) rfl)
  have z2:=F8 (d:=d) (ps:=[[125]]) (bB.cast (by simp) rfl)
  exact(z1.wapp ((p.z (d+1) (n+1)).wapp z2)).cast rfl (by simp[cnS,Cs.tk])
 | .ite c b (some e),hw,g=>by
  simp only[Cs.wf]at hw
  simp only[Cs.tk]at g
  have q:=az hw.1 (fun t ht=>g t (by simp[ht]))
  have p:=WR b hw.2.1 (fun t ht=>g t (by simp[ht]))
  have r:=WR e hw.2.2 (fun t ht=>g t (by simp[ht]))
  have z1:∀d,_:=fun d=>F8 (d:=d) (ps:=[[105,102,32,40],coT c.v,[41,32,123]]) (((mN.wapp q.z).app bA (Ac _ _)).cast (by simp) rfl)
  have z2:∀d,_:=fun d=>F8 (d:=d) (ps:=[[125]]) (bB.cast (by simp) rfl)
  cases e with
  |nil=>
   have e0:cnS (.ite c b (some []))= .ite (An c.v) (cnB b) none:=by simp only[cnS];rfl
   refine⟨fun n=>by rw[e0];simp only[Cs.v,q.v,p.v,vB],by rw[e0];simp only[Cs.ct,p.c,ctB];omega,by rw[e0];simp only[Cs.wf];exact⟨q.w,p.w⟩,by have:=q.d;have:=p.d;rw[e0];simp only[Cs.dp];omega,fun d n=>?_⟩
   rw[Cs.v,BJ,BM,FG]
   rw[if_pos (by simp only[Sm.k];decide),Bb,if_pos (by simp only[Sm.el,vB];rfl),List.nil_append,Dv,AO,append_nil]
   exact((z1 d).wapp ((p.z (d+1) (n+1)).wapp (z2 d))).cast rfl (by rw[e0];simp[Cs.tk])
  |cons s l=>
   have e0:cnS (.ite c b (some (s::l)))= .ite (An c.v) (cnB b) (some (cnB (s::l))):=by simp only[cnS];rfl
   refine⟨fun n=>by rw[e0];simp only[Cs.v,q.v,p.v,p.c,r.v],by rw[e0];simp only[Cs.ct,p.c,r.c],by rw[e0];simp only[Cs.wf];exact⟨q.w,p.w,r.w⟩,by have:=q.d;have:=p.d;have:=r.d;rw[e0];simp only[Cs.dp];omega,fun d n=>?_⟩
   rw[Cs.v,BJ,BM,FG]
   rw[if_pos (by simp only[Sm.k];decide),Bb,if_neg (by simp only[Sm.el,vB];simp),Bb,Qg,Dv,AO,append_nil]
   have z3:=F8 (d:=d) (ps:=[[125,32,101,108,115,101,32,123]]) (A1Y.cast (by simp) rfl)
   exact((z1 d).wapp ((p.z (d+1) (n+1)).wapp ((z3.wapp (r.z (d+1) _)).wapp (z2 d)))).cast rfl (by rw[e0];simp[Cs.tk])
theorem WR:∀l:List Cs,wfB l→(∀t∈tkB l,tkG t)→cnP l
 |[],_,_=>⟨fun n=>rfl,rfl,trivial,Nat.zero_le _,fun d n=>by simp only[vB,NW,AO,cnB,tkB];exact Lp.nil⟩
 |s::l,hw,g=>by
  have q:=A7K s hw.1 (fun t ht=>g t (by simp only[tkB];exact List.mem_append_left _ ht))
  have p:=WR l hw.2 (fun t ht=>g t (by simp only[tkB];exact List.mem_append_right _ ht))
  refine⟨fun n=>by simp only[cnB,vB,q.v,q.c,p.v],by simp only[cnB,ctB,q.c,p.c],by simp only[cnB,wfB];exact⟨q.w,p.w⟩,by have:=q.d;have:=p.d;simp only[cnB,dpB];omega,fun d n=>?_⟩
  simp only[vB,FY,Bb,cnB,tkB]
  exact(q.z d n).wapp (p.z d _)
end
def psN:List Vr→List Kt
 |[]=>[]
 |[v]=>vrK v
 |v::l=>vrK v++kO 44::psN l
theorem mP:∀l:List Vr,psK l=psN l++[kO 41]
 |[]=>rfl
 |[v]=>rfl
 |v::w::l=>by simp only[psK,psN,mP (w::l)];simp
theorem dw:∀{l:List Vr} {v:Vr},v∈l→((0,v.s):Kt)∈psN l
 |[w],v,h=>by
  rw[List.mem_singleton.1 h]
  show _∈vrK w
  unfold vrK;split<;>simp
 |w::x::l,v,h=>by
  show _∈vrK w++kO 44::psN (x::l)
  rcases List.mem_cons.1 h with rfl|h
  ·apply List.mem_append_left
   unfold vrK;split<;>simp
  ·exact List.mem_append_right _ (mem_cons_of_mem _ (dw h))
theorem dx:∀{l:List Vr} {v:Vr},v∈l→((0,v.s):Kt)∈lsK l
 |w::l,v,h=>by
  show _∈lcK w++lsK l
  rcases List.mem_cons.1 h with rfl|h
  ·apply List.mem_append_left
   simp[lcK]
  ·exact List.mem_append_right _ (dx h)
end Go.Proofs.YtbiepiggmagfcaaGreatDoor
