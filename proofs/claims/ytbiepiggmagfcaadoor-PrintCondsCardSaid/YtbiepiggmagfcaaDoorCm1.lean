/- Trees that are the same are told to be the same. No conditions but those in each statement. -/
import Derived.Test.YtbiepiggmagfcaaDoorPi1
import Derived.Test.YtbiepiggmagfcaaDoorRq1
import Derived.Test.YtbiepiggmagfcaaDoorPk1
import Derived.Test.YtbiepiggmagfcaaDoorPa9
set_option linter.unusedVariables false
set_option linter.unusedSimpArgs false
namespace Go.Proofs.YtbiepiggmagfcaaDoor
open Go Go.Sy Go.RowKit
abbrev yc_eqE (n:Nat) (a:Ex) (b:Ex):Prop:=a=b∧a.dp<n
abbrev yr_eqE (n:Nat) (a:Ex) (b:Ex):SV:=.one (.v (.bool true))
noncomputable abbrev ya_eqE:ArgC ((Ex)×(Ex)×Unit):=(acS (cEx) (acS (cEx) ac0))
abbrev yq_eqE (n:Nat):Prop:=CallsY Tryd.prog 22 ya_eqE (fun p:(Ex)×(Ex)×Unit=>yc_eqE n p.1 p.2.1) (fun p:(Ex)×(Ex)×Unit=>yr_eqE n p.1 p.2.1)
theorem yn_eqE (n:Nat):∀p:(Ex)×(Ex)×Unit,((fun p:(Ex)×(Ex)×Unit=>yr_eqE n p.1 p.2.1) p).names=[]:=by intro p;first|rfl|exact ex_names _|exact cd_names _
noncomputable def yg_eqE {X:Ctx} {w0:World} (n:Nat) (h:yq_eqE n):Sy.Spec Tryd.prog X w0:=specD 22 Tryd.call22 ya_eqE (fun p:(Ex)×(Ex)×Unit=>yc_eqE n p.1 p.2.1) (fun p:(Ex)×(Ex)×Unit=>yr_eqE n p.1 p.2.1) (yn_eqE n) h
abbrev yc_eqC (n:Nat) (a:Cd) (b:Cd):Prop:=a=b∧a.dp<n
abbrev yr_eqC (n:Nat) (a:Cd) (b:Cd):SV:=.one (.v (.bool true))
noncomputable abbrev ya_eqC:ArgC ((Cd)×(Cd)×Unit):=(acS (cCd) (acS (cCd) ac0))
abbrev yq_eqC (n:Nat):Prop:=CallsY Tryd.prog 20 ya_eqC (fun p:(Cd)×(Cd)×Unit=>yc_eqC n p.1 p.2.1) (fun p:(Cd)×(Cd)×Unit=>yr_eqC n p.1 p.2.1)
theorem yn_eqC (n:Nat):∀p:(Cd)×(Cd)×Unit,((fun p:(Cd)×(Cd)×Unit=>yr_eqC n p.1 p.2.1) p).names=[]:=by intro p;first|rfl|exact ex_names _|exact cd_names _
noncomputable def yg_eqC {X:Ctx} {w0:World} (n:Nat) (h:yq_eqC n):Sy.Spec Tryd.prog X w0:=specD 20 Tryd.call20 ya_eqC (fun p:(Cd)×(Cd)×Unit=>yc_eqC n p.1 p.2.1) (fun p:(Cd)×(Cd)×Unit=>yr_eqC n p.1 p.2.1) (yn_eqC n) h
abbrev yr_eqS (n:Nat) (m:Nat) (a:Sm) (b:Sm):SV:=.one (.v (.bool true))
abbrev yr_eqB (n:Nat) (m:Nat) (a:List Sm) (b:List Sm):SV:=.one (.v (.bool true))
attribute [local go_sem] Sm.ar Sm.c Sm.cd Sm.e Sm.el Sm.f Sm.k Sm.no Sm.th Sm.x Sm.y cCd_d cCd_e cCd_n cEx_d cEx_e cEx_n cSm_d cSm_e cSs_d cSs_e pairN_o pairO_n sm_r spFn_n yg_eqE yr_eqB yr_eqC yr_eqE yr_eqS
set_option maxRecDepth 20000 in set_option maxHeartbeats 8000000 in
theorem y_eqES (n:Nat) (hu:yq_eqE n):yq_eqE (n+1):=by
 rintro ⟨a,b,_u⟩ w fz xs hc hfz hl hx
 refine calls_toL Tryd.func22 rfl w fz [(yg_eqE n hu)] [] ya_eqE (fun p:(Ex)×(Ex)×Unit=>yr_eqE (n+1) p.1 p.2.1) _ xs hfz hl hx (Nat.le_of_ble_eq_true rfl) ?_
 clear hx hl hfz xs
 simp only[Tryd.f22]
 obtain⟨hc1,hc2⟩:=hc
 dsimp only at hc1 hc2
 subst hc1
 cases a with
 |nil=>
  simp only[↓eB,seval,go_sem,beq_self_eq_true,bne_self_eq_false,ex_nil]
  try simp only[impB,impN]
  repeat' first|exact ck|with_reducible apply And.intro|intro _
  all_goals first|exact trivial|(rename_i h;first|exact oI h|exact nah h)|(rename_i _ h _ g;exact sL h g)|decide|omega|(refine ret_with [] ?_;simp only[↓eB,seval,go_sem,bne])
 |mk k n' s a b=>
  simp only[Ex.dp]at hc2
  have h1:yc_eqE n a a:=⟨rfl,by omega⟩
  have h2:yc_eqE n b b:=⟨rfl,by omega⟩
  simp only[↓eB,seval,go_sem,beq_self_eq_true,bne_self_eq_false,ex_mk]
  try simp only[impB,impN]
  repeat' first|exact ck|with_reducible apply And.intro|intro _
  all_goals first|exact h1.2|exact h2.2|exact rfl|(rename_i h;first|exact oI h|exact nah h)|(rename_i _ h _ g;exact sL h g)|decide|omega|(refine ret_with [] ?_;simp only[↓eB,seval,go_sem,bne])
theorem y_eqE:∀n:Nat,yq_eqE n
 |0=>by
  rintro ⟨a,b,_u⟩ w fz xs hc hfz hl hx
  exact absurd hc.2 (Nat.not_lt_zero _)
 |n+1=>y_eqES n (y_eqE n)
set_option maxRecDepth 20000 in set_option maxHeartbeats 8000000 in
theorem y_eqCS (n:Nat) (hu:yq_eqC n):yq_eqC (n+1):=by
 rintro ⟨a,b,_u⟩ w fz xs hc hfz hl hx
 refine calls_toL Tryd.func20 rfl w fz [(yg_eqE n (y_eqE n)),(yg_eqC n hu)] [] ya_eqC (fun p:(Cd)×(Cd)×Unit=>yr_eqC (n+1) p.1 p.2.1) _ xs hfz hl hx (Nat.le_of_ble_eq_true rfl) ?_
 clear hx hl hfz xs
 simp only[Tryd.f20]
 obtain⟨hc1,hc2⟩:=hc
 dsimp only at hc1 hc2
 subst hc1
 cases a with
 |nil=>
  simp only[↓eB,seval,go_sem,beq_self_eq_true,bne_self_eq_false,yg_eqC,cd_nil]
  try simp only[impB,impN]
  repeat' first|exact ck|with_reducible apply And.intro|intro _
  all_goals first|exact trivial|(rename_i h;first|exact oI h|exact nah h)|(rename_i _ h _ g;exact sL h g)|decide|omega|(refine ret_with [] ?_;simp only[↓eB,seval,go_sem,bne])
 |mk k a b p q s=>
  simp only[Cd.dp]at hc2
  have h1:yc_eqE n a a:=⟨rfl,by omega⟩
  have h2:yc_eqE n b b:=⟨rfl,by omega⟩
  have h3:yc_eqC n p p:=⟨rfl,by omega⟩
  have h4:yc_eqC n q q:=⟨rfl,by omega⟩
  simp only[↓eB,seval,go_sem,beq_self_eq_true,bne_self_eq_false,yg_eqC,cd_mk]
  try simp only[impB,impN]
  repeat' first|exact ck|with_reducible apply And.intro|intro _
  all_goals first|exact h1.2|exact h2.2|exact h3.2|exact h4.2|exact rfl|(rename_i h;first|exact oI h|exact nah h)|(rename_i _ h _ g;exact sL h g)|decide|omega|(refine ret_with [] ?_;simp only[↓eB,seval,go_sem,bne])
theorem y_eqC:∀n:Nat,yq_eqC n
 |0=>by
  rintro ⟨a,b,_u⟩ w fz xs hc hfz hl hx
  exact absurd hc.2 (Nat.not_lt_zero _)
 |n+1=>y_eqCS n (y_eqC n)
end Go.Proofs.YtbiepiggmagfcaaDoor
namespace Go.Proofs.YtbiepiggmagfcaaDoor
open Go Go.Sy Go.RowKit
theorem lw_kc:Lw [102,110,32,102,40,97,44,32,42,112,41,32,123,32,97,115,115,101,114,116,32] [(0,[102,110]),(0,[102]),(2,[40]),(0,[97]),(2,[44]),(2,[42]),(0,[112]),(2,[41]),(2,[123]),(0,[97,115,115,101,114,116])]:=Lp.of (n:=15) (fun i=>[⟨0,[102,110],((i+0:Nat):Int)⟩,⟨0,[102],((i+3:Nat):Int)⟩,⟨2,[40],((i+4:Nat):Int)⟩,⟨0,[97],((i+5:Nat):Int)⟩,⟨2,[44],((i+6:Nat):Int)⟩,⟨2,[42],((i+8:Nat):Int)⟩,⟨0,[112],((i+9:Nat):Int)⟩,⟨2,[41],((i+10:Nat):Int)⟩,⟨2,[123],((i+12:Nat):Int)⟩,⟨0,[97,115,115,101,114,116],((i+14:Nat):Int)⟩]) (by decide) (fun _=>rfl) (fun f i r out=>by kernel_rfl)
def pcT (c:Cd):List UInt8:=(([102,110,32,102,40,97,44,32,42,112,41,32,123,32,97,115,115,101,114,116,32]++[40])++coT c)++[41,59,32,125]
def pcF (c:Cd):Cf:=⟨[102],[⟨[97],false⟩,⟨[112],true⟩],[],[.ass (canC c)]⟩
theorem re_rg:∀e:Ex,reE e→rgE e
 | .nil,h=>h.elim
 | .mk k n s a b,h=>by
  rcases h with⟨hk,_⟩|⟨hk,_⟩|⟨hk,_,_,ha,_⟩|⟨hk,_,_,ha,hb⟩
  ·exact .inl hk
  ·exact .inr (.inl hk)
  ·exact .inr (.inr (.inl ⟨hk,re_rg a ha⟩))
  ·exact .inr (.inr (.inr ⟨by omega,by omega,re_rg a ha,re_rg b hb⟩))
theorem rec_rg:∀c:Cd,reC c→rgC c
 | .nil,h=>h.elim
 | .mk k a b p q s,h=>by
  rcases h with⟨h0,h5,ha,hb,_⟩|⟨hk,_,_,_,hp,hq⟩|⟨hk,_,_,_,hp,_⟩|⟨hk,_⟩
  ·exact .inr (.inr (.inr ⟨h0,h5,re_rg a ha,re_rg b hb⟩))
  ·exact .inr (.inr (.inl ⟨hk,rec_rg p hp,rec_rg q hq⟩))
  ·exact .inr (.inl ⟨hk,rec_rg p hp⟩)
  ·exact .inl hk
theorem pc_fun {c:Cd} (h:reC c) (hl:(coT c).length≤3000) (hd:c.dp≤13):funF (pcT c)=(⟨[102],[⟨[97],false⟩,⟨[112],true⟩],[],[.mk 12 [] [] .nil .nil c [] [] [] 0]⟩,0,0):=by
 have q:=ca_c c h
 have d:=q.d
 have z:Lw (pcT c) (pcF c).tk:=((((lw_kc.wapp (lw_sg 40)).wapp q.z).app (lw_pc.wapp (lw_sg 125)) (pS_c 41 [59,32,125])).cast rfl (by simp[pcF,Cf.tk,psK,vrK,lsK,tkB,Cs.tk,kO,tFn]))
 obtain⟨T,e1,e2⟩:=rx_all z (by simp only[pcT,List.length_append,List.length_cons,List.length_nil];omega)
 have n1:∀v∈(pcF c).ps,nmO v.s:=by
  intro v hv
  have hv:v=⟨[97],false⟩∨v=⟨[112],true⟩:=by simpa [pcF] using hv
  rcases hv with rfl|rfl
  ·exact nm_a.1
  ·exact nm_p.1
 have ok:(pcF c).ok:=⟨⟨by show wordB [102]=false;decide,(idn (s:=[102]) (by decide) (by decide)).1⟩,n1,(fun v hv=>by cases hv),by show (2:Nat)≤6;decide,by show (0:Nat)≤20;decide,⟨q.w,trivial⟩,by simp only[pcF,dpB,Cs.dp];omega,by show ctB [.ass _]≤200;simp[ctB,Cs.ct]⟩
 rw[cf_fun ok e1 e2]
 show ((⟨[102],[⟨[97],false⟩,⟨[112],true⟩],[],vB 0 [.ass (canC c)]⟩:Fn),(0:Int),(0:Int))=_
 simp only[vB,Cs.v,q.v]
abbrev yc_PrintConds (b:List Int):Prop:=b.length≤maxLen∧∀x∈b,0≤x∧x<256
abbrev yr_PrintConds (b:List Int):SV:=.one (.v (.bool true))
noncomputable abbrev ya_PrintConds:ArgC ((List Int)×Unit):=(acS (cBy) ac0)
abbrev yq_PrintConds:Prop:=CallsG Tryd.prog 5 powT ya_PrintConds (fun p:(List Int)×Unit=>yc_PrintConds p.1) (fun p:(List Int)×Unit=>yr_PrintConds p.1)
attribute [local go_sem] cBy_d cBy_d' cBy_e cCd_d cCd_e cCd_n cEx_d cEx_dp cEx_e cEx_n cFn_d cFn_e pairN_o pairO_n spFn_n yg_pknown yp_pknown zBy_ln
set_option maxRecDepth 20000 in set_option maxHeartbeats 4000000 in
theorem y_PrintConds:yq_PrintConds:=by
 rintro ⟨b,_u⟩ w fz xs hT hc hfz hl hx
 have hG:=staysN_clX powT_keptB powT_size (fz:=fz) hT
 refine calls_toL Tryd.func5 rfl w fz [(yp_pknown hG),(yg_lcond 8 (y_lcond 8)),(yg_Cond 20 (y_Cond 20) hG),(yg_rCond 20 (y_rCond 20)),yp_Func,(yg_eqC 20 (y_eqC 20))] [] ya_PrintConds (fun p:(List Int)×Unit=>yr_PrintConds p.1) _ xs hfz hl hx (Nat.le_of_ble_eq_true rfl) ?_
 clear hx hl hfz xs
 simp only[Tryd.f5]
 obtain⟨hbl,hby⟩:=hc
 dsimp only at hbl hby
 cases c1:decide ((60:Int)<(b.length:Int)) with
 |true=>
  simp only[↓eB,seval,go_sem,c1]
  try simp only[impB,impN]
  repeat' first|exact ck|with_reducible apply And.intro|intro _
  all_goals first|exact trivial|(rename_i h;first|exact oI h|exact nah h)|(rename_i _ h _ g;exact sL h g)|decide|omega|(refine ret_with [] ?_;simp only[↓eB,seval,go_sem,bne,yr_PrintConds])
 |false=>
 have hb2:=of_decide_eq_false c1
 have hbk:byOk b:=⟨by omega,hby⟩
 have q:=mc_q 7 b hbk
 have e7:mcR 7 b=mcC 7 b:=rfl
 obtain⟨c,hcd⟩:∃c,(mcC 7 b).1=c:=⟨_,rfl⟩
 obtain⟨r,hrd⟩:∃r,(mcC 7 b).2=r:=⟨_,rfl⟩
 have q1:=q.e
 have q2:=q.n
 have q3:=q.d
 have q4:=q.t
 rw[hcd]at q1 q2 q3 q4
 have g3:(coT c).length≤1000000000:=by omega
 have g4:c.dp<20:=by omega
 have g8:=rec_rg c q1
 have hF:=pc_fun q1 (by omega) (by omega)
 simp only[pcT,List.cons_append,List.nil_append]at hF
 have g5:smallB (pcT c):=by
  unfold smallB pcT
  simp only[List.length_append,List.length_cons,List.length_nil];omega
 simp only[pcT,List.cons_append,List.nil_append]at g5
 have g6:yc_eqC 20 c c:=⟨rfl,g4⟩
 simp only[↓eB,seval,go_sem,yg_lcond,yg_Cond,yg_rCond,yp_Func,yr_Func,yg_eqC,c1,e7,hcd,hrd,hF,Fn.c,sm_r,Sm.k,Sm.x,Sm.y,Sm.e,Sm.f,Sm.cd,Sm.ar,Sm.th,Sm.el,Sm.no,beq_self_eq_true]
 try simp only[impB,impN]
 repeat' first|exact ck|with_reducible apply And.intro|intro _
 all_goals first|exact hbk|exact q2|exact g3|exact g4|exact g5|exact g6|exact g8|exact rfl|(rename_i h;first|exact oI h|exact nah h)|(rename_i _ h _ g;exact sL h g)|decide|omega|(refine ret_with [] ?_;simp only[↓eB,seval,go_sem,bne,yr_PrintConds])
end Go.Proofs.YtbiepiggmagfcaaDoor
