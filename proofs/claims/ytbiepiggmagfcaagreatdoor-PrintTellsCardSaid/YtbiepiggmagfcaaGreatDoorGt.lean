/- The texts of globals that the laws ask for. No conditions but those in each statement. -/
import Derived.Test.YtbiepiggmagfcaaGreatDoorRq3
import Derived.Test.YtbiepiggmagfcaaGreatDoorTie
import Derived.Test.YtbiepiggmagfcaaGreatDoorCards
import Derived.LaidMore
import Derived.Lay
import Derived.SevenTiedAt
import Derived.Stop.Joined
import Derived.ProofKit
import Derived.OpenShut
import Derived.Lib.SmallJoins
import Derived.Carry
import Derived.Test.YtbiepiggmagfcaaGreatDoorOp
import Derived.Test.YtbiepiggmagfcaaGreatDoorPx1
import Derived.Lib.LaidU8
import Derived.Test.YtbiepiggmagfcaaGreatDoorMk5
set_option linter.unusedVariables false
set_option linter.unusedSimpArgs false
namespace Go.Proofs.YtbiepiggmagfcaaGreatDoor
open Go Go.Sy Go.RowKit
def glX0:List UInt8:=[99,101,108,108,32,99,59,32,99,101,108,108,32,100,59,32,97,114,114,97,121,32,116,91,52,93,59,32,97,114,114,97,121,32,117,91,49,93,59]
def glL0:List Gi:=[.c [99],.c [100],.a [116] [52],.a [117] [49]]
theorem glT0:rxT glX0=([⟨0,[99,101,108,108],0⟩,⟨0,[99],5⟩,⟨2,[59],6⟩,⟨0,[99,101,108,108],8⟩,⟨0,[100],13⟩,⟨2,[59],14⟩,⟨0,[97,114,114,97,121],16⟩,⟨0,[116],22⟩,⟨2,[91],23⟩,⟨1,[52],24⟩,⟨2,[93],25⟩,⟨2,[59],26⟩,⟨0,[97,114,114,97,121],28⟩,⟨0,[117],34⟩,⟨2,[91],35⟩,⟨1,[49],36⟩,⟨2,[93],37⟩,⟨2,[59],38⟩],0,0):=by kernel_rfl
def glX1:List UInt8:=[99,101,108,108,32,99,59,32,97,114,114,97,121,32,116,91,50,93,59]
def glL1:List Gi:=[.c [99],.a [116] [50]]
theorem glT1:rxT glX1=([⟨0,[99,101,108,108],0⟩,⟨0,[99],5⟩,⟨2,[59],6⟩,⟨0,[97,114,114,97,121],8⟩,⟨0,[116],14⟩,⟨2,[91],15⟩,⟨1,[50],16⟩,⟨2,[93],17⟩,⟨2,[59],18⟩],0,0):=by kernel_rfl
def glX2:List UInt8:=[]
def glL2:List Gi:=[]
theorem glT2:rxT glX2=([],0,0):=by kernel_rfl
def glX3:List UInt8:=[99,101,108,108,32,99,59,32,99,101,108,108,32,100,59,32,99,101,108,108,32,101,59,32,97,114,114,97,121,32,116,91,57,93,59]
def glL3:List Gi:=[.c [99],.c [100],.c [101],.a [116] [57]]
theorem glT3:rxT glX3=([⟨0,[99,101,108,108],0⟩,⟨0,[99],5⟩,⟨2,[59],6⟩,⟨0,[99,101,108,108],8⟩,⟨0,[100],13⟩,⟨2,[59],14⟩,⟨0,[99,101,108,108],16⟩,⟨0,[101],21⟩,⟨2,[59],22⟩,⟨0,[97,114,114,97,121],24⟩,⟨0,[116],30⟩,⟨2,[91],31⟩,⟨1,[57],32⟩,⟨2,[93],33⟩,⟨2,[59],34⟩],0,0):=by kernel_rfl
def glX4:List UInt8:=[99,101,108,108,32,100,59,32,97,114,114,97,121,32,117,91,51,93,59]
def glL4:List Gi:=[.c [100],.a [117] [51]]
theorem glT4:rxT glX4=([⟨0,[99,101,108,108],0⟩,⟨0,[100],5⟩,⟨2,[59],6⟩,⟨0,[97,114,114,97,121],8⟩,⟨0,[117],14⟩,⟨2,[91],15⟩,⟨1,[51],16⟩,⟨2,[93],17⟩,⟨2,[59],18⟩],0,0):=by kernel_rfl
theorem gl_nm:∀x∈([[99],[100],[101],[116],[117]]:List (List UInt8)),wordB x=false:=by decide
structure glO (s:List UInt8) (L:List Gi):Prop where
 sm:smallB s
 o:∀g∈L,g.ok
 n:L.length≤19
 t:∃T,rxT s=(T,0,0)∧T.map kt=giK L
theorem gl_o0:glO glX0 glL0:=by
 refine⟨by have e:glX0.length=39:=rfl;unfold smallB;omega,?_,by decide,_,glT0,rfl⟩
 intro g hg
 simp only[glL0,List.mem_cons,List.not_mem_nil,or_false]at hg
 rcases hg with rfl|rfl|rfl|rfl
 all_goals first|exact gl_nm _ (by decide)|exact⟨gl_nm _ (by decide),by unfold smallB;simp only[List.length_cons,List.length_nil];omega,by decide,by decide⟩
theorem gl_o1:glO glX1 glL1:=by
 refine⟨by have e:glX1.length=19:=rfl;unfold smallB;omega,?_,by decide,_,glT1,rfl⟩
 intro g hg
 simp only[glL1,List.mem_cons,List.not_mem_nil,or_false]at hg
 rcases hg with rfl|rfl
 all_goals first|exact gl_nm _ (by decide)|exact⟨gl_nm _ (by decide),by unfold smallB;simp only[List.length_cons,List.length_nil];omega,by decide,by decide⟩
theorem gl_o2:glO glX2 glL2:=by
 refine⟨by have e:glX2.length=0:=rfl;unfold smallB;omega,?_,by decide,_,glT2,rfl⟩
 intro g hg
 simp only[glL2,List.mem_cons,List.not_mem_nil,or_false]at hg
theorem gl_o3:glO glX3 glL3:=by
 refine⟨by have e:glX3.length=35:=rfl;unfold smallB;omega,?_,by decide,_,glT3,rfl⟩
 intro g hg
 simp only[glL3,List.mem_cons,List.not_mem_nil,or_false]at hg
 rcases hg with rfl|rfl|rfl|rfl
 all_goals first|exact gl_nm _ (by decide)|exact⟨gl_nm _ (by decide),by unfold smallB;simp only[List.length_cons,List.length_nil];omega,by decide,by decide⟩
theorem gl_o4:glO glX4 glL4:=by
 refine⟨by have e:glX4.length=19:=rfl;unfold smallB;omega,?_,by decide,_,glT4,rfl⟩
 intro g hg
 simp only[glL4,List.mem_cons,List.not_mem_nil,or_false]at hg
 rcases hg with rfl|rfl
 all_goals first|exact gl_nm _ (by decide)|exact⟨gl_nm _ (by decide),by unfold smallB;simp only[List.length_cons,List.length_nil];omega,by decide,by decide⟩
def glS (g:Int):List UInt8:=if (g.tmod 5==0)=true then glX0 else if (g.tmod 5==1)=true then glX1 else if (g.tmod 5==2)=true then glX2 else if (g.tmod 5==3)=true then glX3 else glX4
def glLs (g:Int):List Gi:=if (g.tmod 5==0)=true then glL0 else if (g.tmod 5==1)=true then glL1 else if (g.tmod 5==2)=true then glL2 else if (g.tmod 5==3)=true then glL3 else glL4
theorem gl_ok (g:Int):glO (glS g) (glLs g):=by
 unfold glS glLs
 by_cases h0:(g.tmod 5==0)=true
 ·rw[if_pos h0,if_pos h0];exact gl_o0
 rw[if_neg h0,if_neg h0]
 by_cases h1:(g.tmod 5==1)=true
 ·rw[if_pos h1,if_pos h1];exact gl_o1
 rw[if_neg h1,if_neg h1]
 by_cases h2:(g.tmod 5==2)=true
 ·rw[if_pos h2,if_pos h2];exact gl_o2
 rw[if_neg h2,if_neg h2]
 by_cases h3:(g.tmod 5==3)=true
 ·rw[if_pos h3,if_pos h3];exact gl_o3
 rw[if_neg h3,if_neg h3];exact gl_o4
abbrev yc_sGlobals (g:Int):Prop:=0≤g
abbrev yr_sGlobals (g:Int):SV:=.one (.v (.string (bs (glS g))))
noncomputable abbrev ya_sGlobals:ArgC ((Int)×Unit):=(acS (cInt .u8) ac0)
abbrev yq_sGlobals:Prop:=CallsY Tryz.prog 13 ya_sGlobals (fun p:(Int)×Unit=>yc_sGlobals p.1) (fun p:(Int)×Unit=>yr_sGlobals p.1)
theorem yn_sGlobals:∀p:(Int)×Unit,((fun p:(Int)×Unit=>yr_sGlobals p.1) p).names=[]:=by intro p;first|rfl|exact ex_names _|exact cd_names _
set_option maxRecDepth 20000 in set_option maxHeartbeats 4000000 in
theorem y_sGlobals:yq_sGlobals:=by
 rintro ⟨g,_u⟩ w fz xs hc hfz hl hx
 refine calls_toL Tryz.func13 rfl w fz [] [] ya_sGlobals (fun p:(Int)×Unit=>yr_sGlobals p.1) _ xs hfz hl hx (Nat.le_of_ble_eq_true rfl) ?_
 clear hx hl hfz xs
 simp only[Tryz.f13]
 cases c0:(g.tmod 5==0) with
 |true=>
  have hr:glS g=glX0:=by unfold glS;rw[if_pos c0]
  simp only[↓eB,seval,go_sem,c0]
  try simp only[impB,impN]
  repeat' first|exact ck|with_reducible apply And.intro|intro _
  all_goals first|exact trivial|(rename_i h;first|exact oI h|exact nah h)|(rename_i _ h _ g;exact sL h g)|decide|omega|(refine ret_with [] ?_;simp only[↓eB,seval,go_sem,bne,yr_sGlobals,hr,glX0])
 |false=>
 cases c1:(g.tmod 5==1) with
 |true=>
  have hr:glS g=glX1:=by unfold glS;rw[if_neg (by rw[c0];decide),if_pos c1]
  simp only[↓eB,seval,go_sem,c0,c1]
  try simp only[impB,impN]
  repeat' first|exact ck|with_reducible apply And.intro|intro _
  all_goals first|exact trivial|(rename_i h;first|exact oI h|exact nah h)|(rename_i _ h _ g;exact sL h g)|decide|omega|(refine ret_with [] ?_;simp only[↓eB,seval,go_sem,bne,yr_sGlobals,hr,glX1])
 |false=>
 cases c2:(g.tmod 5==2) with
 |true=>
  have hr:glS g=glX2:=by unfold glS;rw[if_neg (by rw[c0];decide),if_neg (by rw[c1];decide),if_pos c2]
  simp only[↓eB,seval,go_sem,c0,c1,c2]
  try simp only[impB,impN]
  repeat' first|exact ck|with_reducible apply And.intro|intro _
  all_goals first|exact trivial|(rename_i h;first|exact oI h|exact nah h)|(rename_i _ h _ g;exact sL h g)|decide|omega|(refine ret_with [] ?_;simp only[↓eB,seval,go_sem,bne,yr_sGlobals,hr,glX2])
 |false=>
 cases c3:(g.tmod 5==3) with
 |true=>
  have hr:glS g=glX3:=by unfold glS;rw[if_neg (by rw[c0];decide),if_neg (by rw[c1];decide),if_neg (by rw[c2];decide),if_pos c3]
  simp only[↓eB,seval,go_sem,c0,c1,c2,c3]
  try simp only[impB,impN]
  repeat' first|exact ck|with_reducible apply And.intro|intro _
  all_goals first|exact trivial|(rename_i h;first|exact oI h|exact nah h)|(rename_i _ h _ g;exact sL h g)|decide|omega|(refine ret_with [] ?_;simp only[↓eB,seval,go_sem,bne,yr_sGlobals,hr,glX3])
 |false=>
  have hr:glS g=glX4:=by unfold glS;rw[if_neg (by rw[c0];decide),if_neg (by rw[c1];decide),if_neg (by rw[c2];decide),if_neg (by rw[c3];decide)]
  simp only[↓eB,seval,go_sem,c0,c1,c2,c3]
  try simp only[impB,impN]
  repeat' first|exact ck|with_reducible apply And.intro|intro _
  all_goals first|exact trivial|(rename_i h;first|exact oI h|exact nah h)|(rename_i _ h _ g;exact sL h g)|decide|omega|(refine ret_with [] ?_;simp only[↓eB,seval,go_sem,bne,yr_sGlobals,hr,glX4])
noncomputable def yp_sGlobals {X:Ctx} {w0:World}:Sy.Spec Tryz.prog X w0:=specD 13 Tryz.call13 ya_sGlobals (fun p:(Int)×Unit=>yc_sGlobals p.1) (fun p:(Int)×Unit=>yr_sGlobals p.1) yn_sGlobals y_sGlobals
end Go.Proofs.YtbiepiggmagfcaaGreatDoor
namespace Go.Proofs.YtbiepiggmagfcaaGreatDoor
open Go Go.Sy Go.RowKit
structure glP (G:Gb):Prop where
 w:∀a∈G.as',w64 a.n
 c:G.cs.length≤5000
 a:G.as'.length≤5000
 l:(glT G).length≤1000000000
theorem fmLen {A:Type} (f:A→List UInt8) (c:Nat):∀l:List A,(∀a∈l,(f a).length≤c)→(l.flatMap f).length≤c*l.length
 |[],_=>Nat.zero_le _
 |a::l,h=>by
  have h1:=h a (by simp)
  have h2:=fmLen f c l fun x hx=>h x (List.mem_cons_of_mem _ hx)
  rw[List.flatMap_cons,List.length_append,List.length_cons,Nat.mul_succ];omega
theorem gl_q {G:Gb} (h:∀a∈G.as',w64 a.n∧a.s.length≤100) (hc:∀c∈G.cs,c.length≤100) (n1:G.cs.length≤100) (n2:G.as'.length≤100):glP G:=by
 refine⟨fun a ha=>(h a ha).1,by omega,by omega,?_⟩
 have e1:(ceT G.cs).length≤200*G.cs.length:=fmLen _ 200 _ fun c hc'=>by
  have:=hc c hc'
  rw[lT_len]
  simp only[ceP,List.flatten_cons,List.flatten_nil,List.length_append,List.length_cons,List.length_nil];omega
 have e2:(arT G.as').length≤200*G.as'.length:=fmLen _ 200 _ fun a ha=>by
  obtain⟨h1,h2⟩:=h a ha
  have h3:(itT a.n).length≤22:=itoa_w64 h1
  rw[lT_len]
  simp only[arP,List.flatten_cons,List.flatten_nil,List.length_append,List.length_cons,List.length_nil];omega
 show (ceT G.cs++arT G.as').length≤_
 rw[List.length_append];omega
theorem gi_q:∀(L:List Gi) (cs:List (List UInt8)) (as':List Ga),(∀g∈L,g.ok)→(∀g∈L,match g with| .c x=>x.length≤100| .a x _=>x.length≤100)→(∀a∈as',w64 a.n∧a.s.length≤100)→(∀c∈cs,c.length≤100)→cs.length+L.length≤100→as'.length+L.length≤100→glP (giA cs as' L)
 |[],cs,as',_,_,h3,h4,h5,h6=>gl_q h3 h4 (by show cs.length≤100;simpa using h5) (by show as'.length≤100;simpa using h6)
 | .c x::L,cs,as',h1,h2,h3,h4,h5,h6=>by
  refine gi_q L (cs++[x]) as' (fun g hg=>h1 g (List.mem_cons_of_mem _ hg)) (fun g hg=>h2 g (List.mem_cons_of_mem _ hg)) h3 (fun c hc=>?_) ?_ ?_
  ·rcases List.mem_append.1 hc with hc|hc
   ·exact h4 c hc
   ·rw[List.mem_singleton.1 hc];exact h2 _ (List.mem_cons_self ..)
  ·simp only[List.length_append,List.length_cons,List.length_nil]at h5 ⊢;omega
  ·simp only[List.length_cons]at h6;omega
 | .a x t::L,cs,as',h1,h2,h3,h4,h5,h6=>by
  refine gi_q L cs (as'++[⟨x,numW t 0⟩]) (fun g hg=>h1 g (List.mem_cons_of_mem _ hg)) (fun g hg=>h2 g (List.mem_cons_of_mem _ hg)) (fun a ha=>?_) h4 ?_ ?_
  ·rcases List.mem_append.1 ha with ha|ha
   ·exact h3 a ha
   ·rw[List.mem_singleton.1 ha]
    obtain⟨_,_,q1,q2⟩:=h1 _ (List.mem_cons_self ..)
    exact⟨by unfold w64;dsimp only;omega,h2 _ (List.mem_cons_self ..)⟩
  ·simp only[List.length_cons]at h5;omega
  ·simp only[List.length_append,List.length_cons,List.length_nil]at h6 ⊢;omega
theorem gl_p (g:Int):glP (giV (glLs g)):=by
 have o:=gl_ok g
 have n:=o.n
 have k:∀x∈glLs g,match x with| .c x=>x.length≤100| .a x _=>x.length≤100:=by
  unfold glLs
  split
  ·simp[glL0]
  split
  ·simp[glL1]
  split
  ·simp[glL2]
  split
  ·simp[glL3]
  ·simp[glL4]
 exact gi_q _ [] [] o.o k (fun a ha=>by cases ha) (fun c hc=>by cases hc) (by simp only[List.length_nil];omega) (by simp only[List.length_nil];omega)
abbrev yc_PrintTells (k:Int) (b:List Int) (g:Int):Prop:=(b.length≤maxLen∧∀x∈b,0≤x∧x<256)∧0≤g
abbrev yr_PrintTells (k:Int) (b:List Int) (g:Int):SV:=.one (.v (.bool true))
noncomputable abbrev ya_PrintTells:ArgC ((Int)×(List Int)×(Int)×Unit):=(acS (cInt .i64) (acS (cBy) (acS (cInt .u8) ac0)))
abbrev yq_PrintTells:Prop:=CallsG Tryz.prog 3 powT ya_PrintTells (fun p:(Int)×(List Int)×(Int)×Unit=>yc_PrintTells p.1 p.2.1 p.2.2.1) (fun p:(Int)×(List Int)×(Int)×Unit=>yr_PrintTells p.1 p.2.1 p.2.2.1)
attribute [local go_sem] Gb.c cBy_d' cBy_e cFn_d cFn_e cGb_d cGb_e fn_eta pairN_o pairO_n rBy_e rBy_z spFn_n yg_pknown yp_pknown zBy_ln
set_option maxRecDepth 20000 in set_option maxHeartbeats 8000000 in
theorem y_PrintTells:yq_PrintTells:=by
 rintro ⟨k,b,g,_u⟩ w fz xs hT hc hfz hl hx
 have hG:=staysN_clX powT_keptB powT_size (fz:=fz) hT
 refine calls_toL Tryz.func3 rfl w fz [(yp_pknown hG),yp_Place,yp_Text,yp_Func,yp_sGlobals,(yg_rGlobals (glLs g) (y_rGlobals (glLs g))),(yg_FnA y_FnA),(yg_rFuncText 5000 8 (y_rFuncText 5000 8)),(yg_pFunc 5000 8 (y_pFunc 5000 8) hG),(yp_pGlobals hG),yp_rGlobalsText] [] ya_PrintTells (fun p:(Int)×(List Int)×(Int)×Unit=>yr_PrintTells p.1 p.2.1 p.2.2.1) _ xs hfz hl hx (Nat.le_of_ble_eq_true rfl) ?_
 clear hx hl hfz xs
 simp only[Tryz.f3]
 obtain⟨⟨hbl,hby⟩,hg0⟩:=hc
 dsimp only at hbl hby hg0
 cases c1:decide ((200:Int)<(b.length:Int)) with
 |true=>
  simp only[↓eB,seval,go_sem,c1]
  try simp only[impB,impN]
  repeat' first|exact ck|with_reducible apply And.intro|intro _
  all_goals first|exact trivial|(rename_i h;first|exact oI h|exact nah h)|(rename_i _ h _ g;exact sL h g)|decide|omega|(refine ret_with [] ?_;simp only[↓eB,seval,go_sem,bne,yr_PrintTells])
 |false=>
 have hb2:=of_decide_eq_false c1
 have p0:=plF_in k
 have g1:okY b:=⟨by omega,hby⟩
 have g2:0≤plF k:=p0.1
 obtain⟨f,q,e,_,t1,t2⟩:=mk_fun g2 g1
 obtain⟨Q1,Q2,Q3,Q4,Q5⟩:=cf_rq q t1 t2
 have Q6:(fnT f.v).length≤1000000000:=by omega
 have R:=fnA_rq g2 g1
 obtain⟨F,hF⟩:∃F,fnA (plF k) b=F:=⟨_,rfl⟩
 rw[hF]at R
 obtain⟨R1,R2,R3,R4,R5⟩:=R
 have R6:(fnT F).length≤1000000000:=by omega
 obtain⟨S1,S2,S3,T,hT,hK⟩:=gl_ok g
 have P:=gl_p g
 obtain⟨V,hV⟩:∃V,f.v=V:=⟨_,rfl⟩
 rw[hV]at e Q1 Q2 Q3 Q4 Q6
 obtain⟨G,hG2⟩:∃G,giV (glLs g)=G:=⟨_,rfl⟩
 rw[hG2]at P
 obtain⟨P1,P2,P3,P4⟩:=P
 have sb:=txT_len (plF k) b
 have sb2:smallB (txT (plF k) b):=by unfold smallB;omega
 have S5:yc_rGlobals (glLs g) (glS g):=⟨S1,S2,S3,T,hT,hK⟩
 simp only[↓eB,seval,go_sem,yp_Place,yr_Place,yp_Text,yr_Text,yp_Func,yr_Func,yp_sGlobals,yr_sGlobals,yg_rGlobals,yr_rGlobals,yg_FnA,yg_rFuncText,yg_pFunc,yp_pGlobals,yp_rGlobalsText,yr_pFunc,yr_rFuncText,yr_pGlobals,yr_rGlobalsText,c1,hF,e,hG2,Fn.c,beq_self_eq_true]
 try simp only[impB,impN]
 repeat' (first|exact ck|with_reducible apply And.intro)
 all_goals try first|exact g1|exact g2|exact sb2|exact hg0|exact S1|exact S2|exact S3|(exact⟨T,hT,hK⟩)|exact Q1|exact Q2|exact Q3|exact Q4|exact Q6|exact R1|exact R2|exact R3|exact R4|exact R6|exact P1|exact P2|exact P3|exact P4|decide|omega
 refine ret_with [] ?_;simp only[↓eB,seval,go_sem,bne,yr_PrintTells]
end Go.Proofs.YtbiepiggmagfcaaGreatDoor
namespace Go.Proofs.YtbiepiggmagfcaaGreatDoor
open Go Go.RowKit Go.ChangeShapes Go.WideShapes Go.ChangeAt
theorem ownK:ownKnob Tryz.prog.godebug=none:=by kernel_rfl
theorem laidK:laidOutB Tryz.prog=true:=by kernel_rfl
theorem trodAll_below {H:Type} {enc:TypeId×Value→H} {P:Program} (hl:laidOutB P=true) {W W':World} (hb:Below W.heap.size W W'):∀(ts:List TypeId) (vs:List Value) (ds:List (DataW H)) (ps:List MemPlace),
  (∀t∈ts,P.readableRec t=true∧t<P.types.size)→DataW.TrodAll enc P W 0 (fun _=>true) true ts vs ds ps→(∀x∈ps,x.block<W.heap.size)→DataW.TrodAll enc P W' 0 (fun b=>decide (b<W.heap.size)) true ts vs ds ps
 |[],vs,ds,ps,_,h,_=>by
  obtain⟨rfl,rfl,rfl⟩:=trodAll_nil h
  exact trodAll_mk0
 |t::ts,vs,ds,ps,hts,h,hlt=>by
  obtain⟨v,vs',d,ds',p,q,rfl,rfl,rfl,h1,h2⟩:=trodAll_cons h
  have ht:=hts t (List.mem_cons_self ..)
  exact trodAll_cons_mk (Below.trod hl ht.1 ht.2 h1 hb fun x hx=>hlt x (List.mem_append_left _ hx))
   (trodAll_below hl hb ts vs' ds' q (fun t' ht'=>hts t' (List.mem_cons_of_mem _ ht')) h2 fun x hx=>hlt x (List.mem_append_right _ hx))
theorem law_post {H:Type} {enc:TypeId×Value→H} {f:Func} {s:ChangeSpec} {W W':World} {args:Array Value} {ds gs:List (DataW H)} {before:List MemPlace} (hW:DataW.Whole enc Tryz.prog f.params.toList s.vars false W args.toList ds gs before)
  (hv:s.vars=[]) (hr:f.resultTypes = #[4]) (hts:∀t∈f.params.toList,Tryz.prog.readableRec t=true∧t<Tryz.prog.types.size)
  (hf:gs=[]→(s.fn H (ds++gs)).results=[.lit (.bool true)]∧(s.fn H (ds++gs)).args=ds∧(s.fn H (ds++gs)).vars=[]) (hb:Below W.heap.size W W') :
  s.post enc Tryz.prog f false true false false W args (.bool true) W':=by
 have hlt:=hW.lt
 have hW0:=hW
 obtain⟨p,q,hA,hV,rfl,_,_⟩:=hW
 rw[hv]at hV
 obtain⟨rfl,rfl⟩:=trodVars_none hV
 obtain⟨f1,f2,f3⟩:=hf rfl
 refine⟨ds,[],p++[],[],p,[],hW0,?_,?_,?_,hb.frame _,fun h=>by cases h⟩
 ·rw[f1,hr]
  exact trodAll_cons_mk (shut_bool Tryz.underlying4 true) trodAll_mk0
 ·rw[f2]
  exact trodAll_below laidK hb _ _ _ _ hts hA fun x hx=>by simpa using hlt x (List.mem_append_left _ hx)
 ·rw[f3,hv];rfl
end Go.Proofs.YtbiepiggmagfcaaGreatDoor
namespace Go.Proofs.YtbiepiggmagfcaaGreatDoor
open Go Go.Sy Go.RowKit Go.ChangeShapes Go.WideShapes Go.ChangeAt
theorem to_plainL {P:Program} {f:FuncId} {T:World→Prop} {A:Type} {ac:ArgC A} {Cd:A→Prop} {F:A→SV} (h:CallsG P f T ac Cd F) (a:A) (w:World) (hT:T w) (hc:Cd a) (vals:List Value) (val:Value) (hl:vals.length=(ac.e a).length)
  (h1:∀(j:Nat) (v:SV) (x:Value),(ac.e a)[j]?=some v→vals[j]?=some x→CD (hp w) (fun b=>b<w.heap.size) v x)
  (h2:clos (F a)=some val):Calls P f vals.toArray w (fun e w'=>e= .returned val∧Below w.heap.size w w'):=by
 refine(h a w (fun b=>b<w.heap.size) vals hT hc (fun _ h=>h) hl h1).mono ?_
 rintro e w' ⟨v,x,fz',rfl,rfl,g1,g2,g3,g4,g5,g6⟩
 rw[sd_clos g5 h2]
 exact⟨rfl,g6⟩
theorem pow_data:(Rows.laid_internal_strconv_uint64pow10:DataW Unit)=Lib.tabData .u64 Lib.pow10Tab:=by kernel_rfl
theorem pow_type:((Tryz.prog.globalNamed "internal/strconv.uint64pow10").bind fun g=>(Tryz.prog.globals[g]?).map (·.type))=some 191:=by kernel_rfl
section
variable {H:Type} {enc:TypeId×Value→H} {W:World}
theorem opnF_mapR {P:Program} {t:TypeId} {fuel:Nat} {A B:Type} {e:A→List D} {Q:A→Prop} (f:A→B) (e':B→List D) (Q':B→Prop) (h:OpnF enc P W t fuel e Q) (hl:∀a,(e' (f a)).length=(e a).length)
  (hr:∀a (j:Nat) (d':D),(e' (f a))[j]?=some d'→∃d,(e a)[j]?=some d∧∀v,Rd (hp W) (fun b=>b<W.heap.size) d v→Rd (hp W) (fun b=>b<W.heap.size) d' v) (hq:∀a,Q a→Q' (f a)):OpnF enc P W t fuel e' Q':=by
 intro cs x hx
 obtain⟨a,h1,h2,h3⟩:=h cs x hx
 refine⟨f a,hq a h1,by rw[hl];exact h2,fun j d' hj=>?_⟩
 obtain⟨d,g1,g2⟩:=hr a j d' hj
 obtain⟨v,g3,g4⟩:=h3 j d g1
 exact⟨v,g3,g2 v g4⟩
theorem wf_w64 {n:Int} (h:(Lit.int .i64 n).wf=true):w64 n:=by
 have:=bounds_i64 h;exact⟨by omega,by omega⟩
abbrev ExT:Type:=Int×Int×List UInt8×Ex×Ex×Unit
def exTf:Option ExT→Ex
 |none=>.nil
 |some (k,n,s,a,b,_)=>.mk k n s a b
def exTe (p:ExT):List D:=[dI p.1]++([dI p.2.1]++([dS p.2.2.1]++([p.2.2.2.1.d]++([p.2.2.2.2.1.d]++[]))))
def exTq (p:ExT):Prop:=(Lit.int .i64 p.1).wf=true∧(Lit.int .i64 p.2.1).wf=true∧p.2.2.1.length≤maxLen∧okN p.2.2.2.1∧okN p.2.2.2.2.1∧True
set_option maxRecDepth 100000 in
mutual
theorem opn_ex:∀fuel,OpnF enc Tryz.prog W 68 fuel (fun e:Ex=>[e.d]) okN
 |0=>opnF_zero
 |n+1=>by
  refine opnF_mapR exTf _ _ (opnF_ptr Tryz.underlying68 (Nat.lt_of_lt_of_eq (Nat.succ_pos 4) (by kernel_rfl)) (opn_exS n)) (fun _=>rfl) ?_ ?_
  ·rintro o j d' hj
   cases j with
   |zero=>
    simp only[List.getElem?_cons_zero,Option.some.injEq]at hj
    subst hj
    cases o with
    |none=>exact⟨_,rfl,fun v r=>by cases r;exact .v _ rfl⟩
    |some u=>exact⟨_,rfl,fun v r=>r⟩
   |succ j=>simp at hj
  ·intro o ho
   cases o with
   |none=>trivial
   |some u=>
    obtain⟨h1,h2,h3,h4,h5,_⟩:=ho u rfl
    exact⟨wf_w64 h2,h4,h5⟩
theorem opn_exS:∀fuel,OpnF enc Tryz.prog W 70 fuel exTe exTq
 |0=>opnF_zero
 |n+1=>by
  refine opnF_map (e':=exTe) (Q':=exTq) id (h:=opnF_struct (n:=5) Tryz.underlying70 (by kernel_rfl) (opnL_cons (m:=1) (n:=4) rfl (by kernel_rfl) (opnF_int Tryz.underlying3) (opnL_cons (m:=1) (n:=3) rfl (by kernel_rfl) (opnF_int Tryz.underlying2) (opnL_cons (m:=1) (n:=2) rfl (by kernel_rfl) (opnF_str Tryz.underlying9) (opnL_cons (m:=1) (n:=1) rfl (by kernel_rfl) (opn_ex n) (opnL_cons (m:=1) (n:=0) rfl (by kernel_rfl) (opn_ex n) (opnL_nil _))))))) (he:=fun _=>rfl) (hq:=fun _ h=>h)
end
end
end Go.Proofs.YtbiepiggmagfcaaGreatDoor
namespace Go.Proofs.YtbiepiggmagfcaaGreatDoor
open Go Go.Sy Go.RowKit Go.ChangeShapes Go.WideShapes Go.ChangeAt
section
variable {H:Type} {enc:TypeId×Value→H} {W:World} {base:Nat} {v:Value} {d:DataW H} {p:List MemPlace}
theorem wf_byte {n:Int} (h:(Lit.int .u8 n).wf=true):0≤n∧n<256:=by
 have:=bounds_u8 h;omega
theorem opn_bytes:Opn enc Tryz.prog W 22 (fun l:List Int=>[.sl zBy (l.map byD)]) (fun l=>l.length≤maxLen∧∀x∈l,0≤x∧x<256):=by
 intro fuel
 cases fuel with
 |zero=>exact opnF_zero
 |succ n=>exact opnF_map id _ _ (opnF_slice Tryz.underlying22 zBy (by kernel_rfl) (by decide) (opnF_int Tryz.underlying5)) (fun _=>rfl) (fun _ h=>⟨h.1,fun x hx=>wf_byte (h.2 x hx)⟩)
set_option maxRecDepth 100000 in
theorem open_bytes (hv:Value.okWide Tryz.prog W .any base 22 v) (h:DataW.Trod enc Tryz.prog W 0 (fun _=>true) true 22 v d p) :
  ∃a:List Int,(a.length≤maxLen∧∀x∈a,0≤x∧x<256)∧CD (hp W) (fun b=>b<W.heap.size) (.one (.d (.sl zBy (a.map byD)))) v:=
 open_one (r:=.any) (base:=base) (f:=fun l:List Int=>.sl zBy (l.map byD)) (okWide_sl Tryz.underlying22 hv) h opn_bytes
end
end Go.Proofs.YtbiepiggmagfcaaGreatDoor
namespace Go.Proofs.YtbiepiggmagfcaaGreatDoor
open Go Go.Sy Go.RowKit Go.ChangeShapes Go.WideShapes Go.ChangeAt
theorem powT_printTells {W:World} (h:laidMetH Tryz.prog Rows.printTellsRow.laid W):powT W:=by
 rw[MakeChecks.laidMetH_plain _ _ _ (by kernel_rfl)]at h
 obtain⟨g,t,cs,fuel,p,h1,h2,h3,h4⟩:=Lib.laidMet.reads h (n := "internal/strconv.uint64pow10") (d:=Rows.laid_internal_strconv_uint64pow10) (.tail _ (.tail _ (.head _)))
 have h5:=pow_type
 rw[h1,Option.bind_some,h2]at h5
 obtain rfl:=Option.some.inj h5
 rw[pow_data]at h4
 unfold powT Lib.TabIs
 rw[h3,← Lib.cells_of_tab Tryz.underlying191 Tryz.underlying139 (by kernel_rfl) (by kernel_rfl) h4]
theorem c_PrintTells (k:Int) (hk:(Lit.int .i64 k).wf=true) (b:List Int) (v:Value) (hb:b.length≤maxLen∧∀x∈b,0≤x∧x<256) (g:Int) (hg:(Lit.int .u8 g).wf=true) (W:World) (hx:CD (hp W) (fun b=>b<W.heap.size) (.one (.d (.sl zBy (b.map byD)))) v) (hT:powT W) :
  Calls Tryz.prog 3 #[.int .i64 k,v,.int .u8 g] W (fun en W'=>en= .returned (.bool true)∧Below W.heap.size W W'):=by
 refine to_plainL y_PrintTells (k,b,g,()) W hT ⟨hb,(wf_byte hg).1⟩ [.int .i64 k,v,.int .u8 g] (.bool true) rfl ?_ rfl
 intro j u x h1 h2
 rcases j with _|_|_|j
 ·obtain rfl:Value.int .i64 k=x:=Option.some.inj h2
  obtain rfl:SV.one (.v (.int .i64 k))=u:=Option.some.inj h1
  exact sc_of (H:=fun _=>none) (c:=.v _) rfl (.v _ _ rfl)
 ·obtain rfl:v=x:=Option.some.inj h2
  obtain rfl:SV.one (.d (.sl zBy (b.map byD)))=u:=Option.some.inj h1
  exact hx
 ·obtain rfl:Value.int .u8 g=x:=Option.some.inj h2
  obtain rfl:SV.one (.v (.int .u8 g))=u:=Option.some.inj h1
  exact sc_of (H:=fun _=>none) (c:=.v _) rfl (.v _ _ rfl)
 ·exact absurd (show ([]:List Value)[j]?=some x from h2) (by simp)
end Go.Proofs.YtbiepiggmagfcaaGreatDoor
