/- RunSums, walked. Condition: the byte is not negative. -/
import Derived.Test.YtjnnmindcbgjhaaRmn
import Derived.Test.YtjnnmindcbgjhaaRst
set_option linter.unusedVariables false
set_option linter.unusedSimpArgs false
namespace Go.Proofs.Ytjnnmindcbgjhaa
open Go Go.Sy Go.RowKit
end Go.Proofs.Ytjnnmindcbgjhaa
namespace Go.Proofs.Ytjnnmindcbgjhaa
open Go Go.Sy Go.RowKit
noncomputable def rI6:RowC Int:=rowOf zIw iD iD_inj fun _=>rfl
theorem rI6_e:rI6.e=iD:=rfl
theorem rI6_z:rI6.z=zIw:=rfl
theorem rI6_d (n:Int):rI6.d [.v (.int .i64 n)]=some n:=rI6.i n
theorem zIw_ln:zIw.length=1:=rfl
theorem decL_i6 (l:List Int):decL rI6.d (l.map iD)=some l:=decL_map rI6 l
theorem cSta_l (s t:List UInt8) (n x y:Int):cSta.d (.agg [.d (.sl [.v (.string (bs [])),.v (.int .i64 0)] [[.v (.string (bs s)),.v (.int .i64 n)]]),.d (.sl [.v (.string (bs [])),.v (.slice none 0 0)] [[.v (.string (bs t)),.sl [.v (.int .i64 0)] [[.v (.int .i64 x)],[.v (.int .i64 y)]]]])])=some ⟨[⟨s,n⟩],[⟨t,[x,y]⟩]⟩:=cSta_d [⟨s,n⟩] [⟨t,[x,y]⟩]
theorem cOu_l (s t f:List UInt8) (n x y e v al k:Int):cOu.d (.agg [.v (.int .i64 e),.v (.int .i64 v),.v (.string (bs f)),.v (.int .i64 al),.v (.int .i64 k),.d (.sl [.v (.string (bs [])),.v (.int .i64 0)] [[.v (.string (bs s)),.v (.int .i64 n)]]),.d (.sl [.v (.string (bs [])),.v (.slice none 0 0)] [[.v (.string (bs t)),.sl [.v (.int .i64 0)] [[.v (.int .i64 x)],[.v (.int .i64 y)]]]])])=some ⟨e,v,f,al,k,⟨[⟨s,n⟩],[⟨t,[x,y]⟩]⟩⟩:=cOu_d e v al k f [⟨s,n⟩] [⟨t,[x,y]⟩]
def aP:Pg:=⟨⟨[[99]],[⟨[116],2⟩]⟩,[⟨[102],[⟨[120],false⟩],[],[(.mk 0 [99] [] (.mk 2 0 [] (.mk 4 0 [] (.mk 1 0 [99] .nil .nil) (.mk 0 3 [] .nil .nil)) (.mk 1 0 [120] .nil .nil)) .nil .nil [] [] [] 0),(.mk 6 [120] [116] (.mk 0 1 [] .nil .nil) .nil .nil [] [] [] 1),(.mk 7 [] [116] (.mk 0 0 [] .nil .nil) (.mk 1 0 [120] .nil .nil) .nil [] [] [] 2),(.mk 7 [] [116] (.mk 0 1 [] .nil .nil) (.mk 1 0 [99] .nil .nil) .nil [] [] [] 3),(.mk 9 [] [] (.mk 1 0 [99] .nil .nil) .nil .nil [] [] [] 4)]⟩]⟩
def aT:List UInt8:=[102,110,32,102,40,120,41,32,123,32,99,32,61,32,99,32,42,32,51,32,43,32,120,59,32,120,32,61,32,116,91,49,93,59,32,116,91,48,93,32,61,32,120,59,32,116,91,49,93,32,61,32,99,59,32,114,101,116,117,114,110,32,99,59,32,125]
def aG:List UInt8:=[99,101,108,108,32,99,59,32,97,114,114,97,121,32,116,91,50,93,59]
def agl:List UInt8→List Gi:=fun _=>[.c [99],.a [116] [50]]
theorem aT_e:prF 8 agl [⟨[102],aT⟩,⟨gloB,aG⟩]=aP:=by kernel_rfl
theorem aT_u:okUn 50 8 agl ⟨[102],aT⟩:=okUn_f (by decide) (by have e:aT.length=66:=rfl;unfold smallB;omega) (by kernel_rfl)
theorem aG_u:okUn 50 8 agl ⟨gloB,aG⟩:=by
 refine okUn_g ⟨by have e:aG.length=19:=rfl;unfold smallB;omega,?_,by decide,_,(by kernel_rfl:rxT aG=([⟨0,[99,101,108,108],0⟩,⟨0,[99],5⟩,⟨2,[59],6⟩,⟨0,[97,114,114,97,121],8⟩,⟨0,[116],14⟩,⟨2,[91],15⟩,⟨1,[50],16⟩,⟨2,[93],17⟩,⟨2,[59],18⟩],0,0)),rfl⟩ (once_nd (by decide)) (by decide) (by decide)
 intro g hg
 simp only[agl,List.mem_cons,List.not_mem_nil,or_false]at hg
 rcases hg with rfl|rfl
 all_goals first|exact gl_nm _ (by decide)|exact⟨gl_nm _ (by decide),by unfold smallB;simp only[List.length_cons,List.length_nil];omega,by decide,by decide⟩
theorem aP_b:okPb 50 8 aP=true:=by kernel_rfl
theorem aP_r (va:List Va) (s:Sta) (f:Int) (hv:va.length≤5000) (hs:s.cs.length≤1000000) (ha:s.ar.length≤1000000) (hf:f<100):okR 50 100 aP va s f:=⟨okPb_ok aP_b,by decide,by decide,(by intro x hx;rw[List.mem_singleton.1 hx];decide),hs,ha,hv,hf,by decide⟩
abbrev zT33:List C:=tgN 33 3
structure agS (a:Sta) (B x y:Int):Prop where
 c:stCs aP.g.c a.cs=[⟨[99],B⟩]
 a:stA aP.g.a a.ar=[⟨[116],[x,y]⟩]
theorem ag_k (B x y n:Int):rnZ (rnA 100 aP [102] [⟨false,n,[]⟩] ⟨90,0,[⟨[99],B⟩],[⟨[116],[x,y]⟩],2,0,[],0,0⟩)=⟨85,0,[⟨[99],IntKind.i64.wrap (IntKind.i64.wrap (B*3)+n)⟩],[⟨[116],[y,IntKind.i64.wrap (IntKind.i64.wrap (B*3)+n)]⟩],0,IntKind.i64.wrap (IntKind.i64.wrap (B*3)+n),[],0,0⟩:=by kernel_rfl
theorem ag_r {a:Sta} {B x y:Int} (h:agS a B x y) (n:Int):clF 100 aP [102] [⟨false,n,[]⟩] a 90=⟨85,0,[⟨[99],IntKind.i64.wrap (IntKind.i64.wrap (B*3)+n)⟩],[⟨[116],[y,IntKind.i64.wrap (IntKind.i64.wrap (B*3)+n)]⟩],0,IntKind.i64.wrap (IntKind.i64.wrap (B*3)+n),[],0,0⟩:=by
 have e:clF 100 aP [102] [⟨false,n,[]⟩] a 90=rnZ (rnA 100 aP [102] [⟨false,n,[]⟩] ⟨90,0,stCs aP.g.c a.cs,stA aP.g.a a.ar,2,0,[],0,0⟩):=rfl
 rw[e,h.c,h.a];exact ag_k B x y n
theorem ag_0 (s:Sta):∃B x y,agS s B x y:=by
 have h2:(stA aP.g.a s.ar).length=1:=stA_ln _ _
 obtain⟨z,hz⟩:=List.length_eq_one_iff.1 h2
 have h3:=stA_s (p:=aP.g.a) (s:=s.ar) (i:=0) (x:=⟨[116],2⟩) rfl
 refine⟨lkN [99] s.cs,(lkA [116] [0,0] s.ar).getD 0 0,(lkA [116] [0,0] s.ar).getD 1 0,⟨?_,?_⟩⟩
 ·show ([⟨[99],0⟩]:List Nb).map (stN s.cs)=_
  simp only[List.map_cons,List.map_nil,stN_lk]
 ·show ([⟨[116],[0,0]⟩]:List Na).map (stNa s.ar)=_
  simp only[List.map_cons,List.map_nil,stNa_lk]
  have hl:=lkA_len [116] [0,0] s.ar
  match hL:lkA [116] [0,0] s.ar,hl with
  |[u,v],_=>rfl
theorem ag_s (B x y:Int):agS ⟨[⟨[99],B⟩],[⟨[116],[x,y]⟩]⟩ B x y:=⟨by kernel_rfl,by kernel_rfl⟩
abbrev yc_RunAgain (s:Sta) (n:List Int):Prop:=(s.cs.length≤maxLen∧s.ar.length≤maxLen∧∀x∈s.ar,x.l.length≤maxLen)∧n.length≤maxLen∧∀x∈n,i64R x
abbrev yr_RunAgain (s:Sta) (n:List Int):Value:=Value.bool true
attribute [local go_sem] Na.r Nb.r Ou.c cOu_d cOu_e cOu_l cPg_d cPg_e cSl cSta_d cSta_e cSta_l cSta_n cVas_d cVas_d1 cVas_d2 cVas_e cVas_n decL_i6 ouC pgR pqR rI6_d rI6_e rI6_z stR zIw_ln
set_option maxRecDepth 20000 in set_option maxHeartbeats 16000000 in
theorem y_RunAgain:CallsR Try.prog 8 (ahS (cSta.H) (ahS (cSl rI6) ah0)) (fun p:(Sta×(List Int×Unit))=>yc_RunAgain p.1 p.2.1) (fun p:(Sta×(List Int×Unit))=>ofV (yr_RunAgain p.1 p.2.1)):=by
 rintro ⟨s,n,_u⟩ w fz xs hc hfz hl hx
 refine calls_toRL Try.func8 rfl w fz [yp_known20,yp_lightS,yp_rState,yp_Outcome,yp_hState,(yg_one 50 8 agl (y_one 50 8 agl)),(yg_Call 50 100 (y_Call 50 100))] [(10,[.flag 39]),(11,[.flag 48]),(13,[.flag 64,.flag 73,.flag 75])] (ahS (cSta.H) (ahS (cSl rI6) ah0)) (fun p:(Sta×(List Int×Unit))=>ofV (yr_RunAgain p.1 p.2.1)) _ xs hfz hl hx (Nat.le_of_ble_eq_true rfl) ?_
 clear hx hl hfz xs
 simp only[Try.f8]
 clear hc
 have hT:=aT_u
 have hG:=aG_u
 have he:=aT_e
 simp only[aT,aG]at hT hG he
 obtain⟨sc,sa⟩:=s
 cases hl:lsB ⟨sc,sa⟩ with
 |false=>
  cases hn:decide (10<(n.length:Int))<;>
  (
   simp only[↓eB,seval,go_sem,yp_known20,yr_known20,yp_lightS,yr_lightS,yp_rState,yr_rState,yp_Outcome,yr_Outcome,yp_hState,yr_hState,yg_one,yg_Call,iD,hl,hn]
   refine ret_with [] ?_;simp only[↓eB,seval,go_sem,bne,yr_RunAgain])
 |true=>
 cases hn:decide (10<(n.length:Int)) with
 |true=>
  simp only[↓eB,seval,go_sem,yp_known20,yr_known20,yp_lightS,yr_lightS,yp_rState,yr_rState,yp_Outcome,yr_Outcome,yp_hState,yr_hState,yg_one,yg_Call,iD,hl,hn]
  refine ret_with [] ?_;simp only[↓eB,seval,go_sem,bne,yr_RunAgain]
 |false=>
  have hnl:n.length≤10:=by have:=of_decide_eq_false hn;omega
  have hsz:sc.length≤5∧sa.length≤5:=by
   unfold lsB at hl
   simp only[Bool.and_eq_true,Bool.not_eq_true',decide_eq_false_iff_not]at hl
   omega
  obtain⟨B,x,y,ha⟩:=ag_0 ⟨sc,sa⟩
  have hC:=ha.c
  have hA:=ha.a
  dsimp only at hC hA
  simp only[↓eB,seval,go_sem,yp_known20,yr_known20,yp_lightS,yr_lightS,yp_rState,yr_rState,yp_Outcome,yr_Outcome,yp_hState,yr_hState,yg_one,yg_Call,iD,hl,hn,he,pg_eta,hC,hA]
  refine⟨⟨hT,hG⟩,⟨by decide,by decide,(by intro x hx;rw[List.mem_singleton.1 hx];decide),(by dsimp only;omega),(by dsimp only;omega)⟩,chk_ok (by kernel_rfl),?_⟩
  refine loop_ok (Y:=Nat×Sta×Int×Int×Int) (fun q=>q.1≤n.length∧agS q.2.1 q.2.2.1 q.2.2.2.1 q.2.2.2.2∧q.2.1.cs.length≤5∧q.2.1.ar.length≤5)
   (fun q=>⟨[(1,true,.one (.d (.sl zIw (n.map iD)))),(4,true,.one (.v (.bool false))),(5,true,.one (.p 5 0 0)),(6,true,.one (.p 6 0 0)),(7,true,.one (.p 7 0 0)),(8,true,.one (.v (.int .i64 (q.1:Int))))],
    [(5,.vec 0 zT33 [pqR aP]),(6,.vec 0 zT44 [stR q.2.1]),(7,.vec 0 zT44 [stR ⟨[⟨[99],q.2.2.1⟩],[⟨[116],[q.2.2.2.1,q.2.2.2.2]⟩]⟩])]⟩)
   (fun q=>n.length-q.1) (0,⟨sc,sa⟩,B,x,y) ⟨Nat.zero_le _,ha,hsz.1,hsz.2⟩ ?_ ?_
  ·refine to_with [] ?_;simp only[↓eB,seval,go_sem,iD]
  ·rintro ⟨i,a,B,x,y⟩ ⟨hi,ha,ha1,ha2⟩
   dsimp only at hi ha ha1 ha2
   refine vc_ok [yp_known20,yp_lightS,yp_rState,yp_Outcome,yp_hState,yg_one 50 8 agl (y_one 50 8 agl),yg_Call 50 100 (y_Call 50 100)] [(10,[.flag 39]),(11,[.flag 48]),(13,[.flag 64,.flag 73,.flag 75])] _ _ _ ?_
   have w1:IntKind.i64.wrap ((i:Int)+1)=((i+1:Nat):Int):=by rw[wrap_i64 (by omega) (by omega)];rfl
   cases hx:n[i]? with
   |none=>
    have g2:=List.getElem?_eq_none_iff.1 hx
    have g1:=natI_ge g2
    simp only[↓eB,seval,go_sem,yp_known20,yr_known20,yp_lightS,yr_lightS,yp_rState,yr_rState,yp_Outcome,yr_Outcome,yp_hState,yr_hState,yg_one,yg_Call,iD,g1]
    refine ret_with [] ?_;simp only[↓eB,seval,go_sem,bne,yr_RunAgain]
   |some v=>
    have hlt:=(List.getElem?_eq_some_iff.1 hx).1
    have g1:=natI_lt hlt
    have hil:(i:Int)<(n.length:Int):=by omega
    have hz:=iA_at hx
    have hrun:=ag_r ha v
    obtain⟨ac,aa⟩:=a
    dsimp only at ha1 ha2
    simp only[↓eB,seval,go_sem,yp_known20,yr_known20,yp_lightS,yr_lightS,yp_rState,yr_rState,yp_Outcome,yr_Outcome,yp_hState,yr_hState,yg_one,yg_Call,iD,g1,hz,w1,hrun,pg_eta,bne_self_eq_false,beq_self_eq_true]
    have hcall:=aP_r [⟨false,v,[]⟩] ⟨ac,aa⟩ 90 (Nat.le_of_ble_eq_true rfl) (by dsimp only;omega) (by dsimp only;omega) (by decide)
    generalize hE:IntKind.i64.wrap (IntKind.i64.wrap (B*3)+v)=c'
    have hb:∀x∈[(⟨[116],[y,c']⟩:Na)],x.l.length≤1000000000:=by
     intro x hx
     rw[List.mem_singleton.1 hx];exact Nat.le_of_ble_eq_true rfl
    refine⟨hil,hcall,chk_ok (by kernel_rfl),hil,hcall,chk_ok (by kernel_rfl),hil,chk_ok (by kernel_rfl),⟨rfl,Nat.le_of_ble_eq_true rfl,Nat.le_of_ble_eq_true rfl,hb⟩,⟨rfl,Nat.le_of_ble_eq_true rfl,Nat.le_of_ble_eq_true rfl,hb⟩,(i+1,⟨[⟨[99],c'⟩],[⟨[116],[y,c']⟩]⟩,c',y,c'),⟨hlt,ag_s _ _ _,Nat.le_of_ble_eq_true rfl,Nat.le_of_ble_eq_true rfl⟩,(by dsimp only;omega),?_⟩
    refine to_with [] ?_;simp only[↓eB,seval,go_sem,iD]
end Go.Proofs.Ytjnnmindcbgjhaa
