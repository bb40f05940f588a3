/- The chapter's example of runs; programs of one function, walked. Conditions: those of the texts. -/
import Derived.Test.YtjnnmindcbgjhaaPgm
import Derived.Test.YtjnnmindcbgjhaaRmn
set_option linter.unusedVariables false
set_option linter.unusedSimpArgs false
namespace Go.Proofs.Ytjnnmindcbgjhaa
open Go Go.Sy Go.RowKit
abbrev i64R (n:Int):Prop := -9223372036854775808≤n∧n≤9223372036854775807
abbrev u8R (n:Int):Prop:=0≤n∧n≤255
def OkSb (n:Nat) (s:Sm):Bool:=decide (s.e.dp<n)&&decide (s.f.dp<n)&&decide (s.cd.dp<n)&&s.ar.all (fun a=>decide (a.e.dp<n))&&decide (s.ar.length≤5000)
theorem OkSb_ok {n:Nat} {s:Sm} (h:OkSb n s=true):OkS n s:=by
 simp only[OkSb,Bool.and_eq_true,decide_eq_true_eq,List.all_eq_true]at h
 exact⟨h.1.1.1.1,h.1.1.1.2,h.1.1.2,h.1.2,h.2⟩
def okBb (n:Nat):Nat→List Sm→Bool
 |0,_=>false
 |m+1,l=>decide (l.length≤5000)&&l.all fun s=>OkSb n s&&okBb n m s.th&&okBb n m s.el
theorem okBb_ok {n:Nat}:∀{m:Nat} {l:List Sm},okBb n m l=true→okB n m l
 |0,l,h=>by cases h
 |m+1,l,h=>by
  simp only[okBb,Bool.and_eq_true,decide_eq_true_eq,List.all_eq_true]at h
  exact⟨h.1,fun s hs=>⟨OkSb_ok (h.2 s hs).1.1,okBb_ok (h.2 s hs).1.2,okBb_ok (h.2 s hs).2⟩⟩
def okFb (f:Fn):Bool:=decide (f.ps.length≤5000)&&decide (f.ls.length≤5000)
theorem okFb_ok {f:Fn} (h:okFb f=true):okF f:=by
 simp only[okFb,Bool.and_eq_true,decide_eq_true_eq]at h;exact h
def okPb (N M:Nat) (P:Pg):Bool:=decide (P.fs.length≤1000000)&&P.fs.all fun f=>okFb f&&okBb N M f.body
theorem okPb_ok {N M:Nat} {P:Pg} (h:okPb N M P=true):okPg N P:=by
 simp only[okPb,Bool.and_eq_true,decide_eq_true_eq,List.all_eq_true]at h
 exact⟨h.1,fun f hf=>⟨okFb_ok (h.2 f hf).1,M,okBb_ok (h.2 f hf).2⟩⟩
theorem okUn_f {n m:Nat} {gl:List UInt8→List Gi} {s t:List UInt8} (h1:(s==gloB)=false) (h2:smallB t) (h3:(okFb (funF t).1&&okBb n m (funF t).1.body)=true):okUn n m gl ⟨s,t⟩:=by
 simp only[Bool.and_eq_true]at h3
 exact⟨fun h=>(by rw[h1]at h;cases h),fun _=>h2,fun _=>okFb_ok h3.1,fun _=>okBb_ok h3.2⟩
theorem okUn_g {n m:Nat} {gl:List UInt8→List Gi} {t:List UInt8} (h1:glO t (gl t)) (h2:onceL (giV (gl t)).ns) (h3:(giV (gl t)).c.length≤5000) (h4:(giV (gl t)).a.length≤5000):okUn n m gl ⟨gloB,t⟩:=by
 have hb:(gloB==gloB)=true:=by decide
 exact⟨fun _=>⟨h1,h2,h3,h4⟩,fun h=>(by rw[hb]at h;cases h),fun h=>(by rw[hb]at h;cases h),fun h=>(by rw[hb]at h;cases h)⟩
theorem once_nd {l:List (List UInt8)} (h:l.Nodup):onceL l:=by
 intro i j hj hi
 have hjl:j<l.length:=by omega
 simp only[List.getD,List.getElem?_eq_getElem hi,List.getElem?_eq_getElem hjl,Option.getD_some]
 have:=List.pairwise_iff_getElem.1 h j i hjl hi hj
 simpa using this
theorem mUn_dr (s t:List UInt8):mUn.d [.v (.string (bs s)),.v (.string (bs t))]=some ⟨s,t⟩:=rowMOf_d unc_inj ⟨s,t⟩
theorem cSta_n:cSta.d (.agg [.v (.slice none 0 0),.v (.slice none 0 0)])=some ⟨[],[]⟩:=codOf_le (e:=fun p:Sta=>.agg (stR p)) (a:=⟨[],[]⟩) ⟨.inr ⟨rfl,rfl⟩,.inr ⟨rfl,rfl⟩,trivial⟩
theorem cVas_n:cVas.d (.one (.v (.slice none 0 0)))=some []:=codOf_le (e:=fun l:List Va=>.one (.d (.sl zVaD (l.map Va.r)))) (a:=[]) (.inr ⟨rfl,rfl⟩)
theorem cVas_d1 (p:Bool) (n:Int) (s:List UInt8):cVas.d (.one (.d (.sl [.v (.bool false),.v (.int .i64 0),.v (.string (bs []))] [[.v (.bool p),.v (.int .i64 n),.v (.string (bs s))]])))=some [⟨p,n,s⟩]:=cVas_d [⟨p,n,s⟩]
theorem cVas_d2 (p p':Bool) (n n':Int) (s s':List UInt8):cVas.d (.one (.d (.sl [.v (.bool false),.v (.int .i64 0),.v (.string (bs []))] [[.v (.bool p),.v (.int .i64 n),.v (.string (bs s))],[.v (.bool p'),.v (.int .i64 n'),.v (.string (bs s'))]])))=some [⟨p,n,s⟩,⟨p',n',s'⟩]:=cVas_d [⟨p,n,s⟩,⟨p',n',s'⟩]
abbrev yc_one (n:Nat) (m:Nat) (gl:List UInt8→List Gi) (t:List UInt8) (g:List UInt8):Prop:=okUn n m gl ⟨[102],t⟩∧okUn n m gl ⟨gloB,g⟩
abbrev yr_one (n:Nat) (m:Nat) (gl:List UInt8→List Gi) (t:List UInt8) (g:List UInt8):SV:=.agg (pqR (prF m gl [⟨[102],t⟩,⟨gloB,g⟩]))
noncomputable abbrev ya_one:ArgC ((List UInt8)×(List UInt8)×Unit):=(acS (cStr) (acS (cStr) ac0))
abbrev yq_one (n:Nat) (m:Nat) (gl:List UInt8→List Gi):Prop:=CallsY Try.prog 22 ya_one (fun p:(List UInt8)×(List UInt8)×Unit=>yc_one n m gl p.1 p.2.1) (fun p:(List UInt8)×(List UInt8)×Unit=>yr_one n m gl p.1 p.2.1)
theorem yn_one (n:Nat) (m:Nat) (gl:List UInt8→List Gi):∀p:(List UInt8)×(List UInt8)×Unit,((fun p:(List UInt8)×(List UInt8)×Unit=>yr_one n m gl p.1 p.2.1) p).names=[]:=by intro p;rfl
noncomputable def yg_one {X:Ctx} {w0:World} (n:Nat) (m:Nat) (gl:List UInt8→List Gi) (h:yq_one n m gl):Sy.Spec Try.prog X w0:=specD 22 Try.call22 ya_one (fun p:(List UInt8)×(List UInt8)×Unit=>yc_one n m gl p.1 p.2.1) (fun p:(List UInt8)×(List UInt8)×Unit=>yr_one n m gl p.1 p.2.1) (yn_one n m gl) h
attribute [local go_sem] Un.c mUn_dr mUn_e mUn_z pqR yg_Prog zUc
set_option maxRecDepth 20000 in set_option maxHeartbeats 16000000 in
theorem y_one (n:Nat) (m:Nat) (gl:List UInt8→List Gi):yq_one n m gl:=by
 rintro ⟨t,g,_u⟩ w fz xs hc hfz hl hx
 refine calls_toL Try.func22 rfl w fz [(yg_Prog n m gl (y_Prog n m gl))] [] ya_one (fun p:(List UInt8)×(List UInt8)×Unit=>yr_one n m gl p.1 p.2.1) _ xs hfz hl hx (Nat.le_of_ble_eq_true rfl) ?_
 clear hx hl hfz xs
 simp only[Try.f22]
 obtain⟨h1,h2⟩:=hc
 have hg:gloB=[103,108,111,98,97,108,115]:=rfl
 rw[hg]at h2
 simp only[↓eB,seval,go_sem]
 refine⟨⟨Nat.le_of_ble_eq_true rfl,fun u hu=>?_⟩,?_⟩
 ·simp only[List.mem_cons,List.not_mem_nil,or_false]at hu
  rcases hu with rfl|rfl
  ·exact h1
  ·exact h2
 refine ret_with [] ?_;simp only[↓eB,seval,go_sem,bne,yr_one,hg]
def kT:List UInt8:=[102,110,32,102,40,120,41,32,123,32,99,32,61,32,120,59,32,114,101,116,117,114,110,32,49,32,47,32,120,59,32,125]
def kG:List UInt8:=[99,101,108,108,32,99,59]
def kgl:List UInt8→List Gi:=fun _=>[.c [99]]
def kP:Pg:=⟨⟨[[99]],[]⟩,[⟨[102],[⟨[120],false⟩],[],[(.mk 0 [99] [] (.mk 1 0 [120] .nil .nil) .nil .nil [] [] [] 0),(.mk 9 [] [] (.mk 5 0 [] (.mk 0 1 [] .nil .nil) (.mk 1 0 [120] .nil .nil)) .nil .nil [] [] [] 1)]⟩]⟩
theorem kP_e:prF 8 kgl [⟨[102],kT⟩,⟨gloB,kG⟩]=kP:=by kernel_rfl
theorem kP_u:∀u∈[(⟨[102],kT⟩:Un),⟨gloB,kG⟩],okUn 50 8 kgl u:=by
 intro u hu
 simp only[List.mem_cons,List.not_mem_nil,or_false]at hu
 rcases hu with rfl|rfl
 ·exact okUn_f (by decide) (by have e:kT.length=32:=rfl;unfold smallB;omega) (by kernel_rfl)
 ·refine okUn_g ⟨by have e:kG.length=7:=rfl;unfold smallB;omega,?_,by decide,_,(by kernel_rfl:rxT kG=([⟨0,[99,101,108,108],0⟩,⟨0,[99],5⟩,⟨2,[59],6⟩],0,0)),rfl⟩ (once_nd (by decide)) (by decide) (by decide)
  intro g hg
  simp only[kgl,List.mem_singleton]at hg
  subst hg
  exact gl_nm _ (by decide)
theorem kP_r (va:List Va) (f:Int) (hv:va.length≤5000) (hf:f<10):okR 50 10 kP va ⟨[],[]⟩ f:=⟨okPb_ok (M:=8) (by kernel_rfl),by decide,by decide,(by intro x hx;cases hx),by decide,by decide,hv,hf,by decide⟩
theorem kPb:(blC kP.g.c).length=1:=rfl
theorem kP_a:clF 10 kP [102] [⟨false,0,[]⟩] ⟨[],[]⟩ 9=⟨7,1,[⟨[99],0⟩],[],1,0,[102],1,0⟩:=by kernel_rfl
theorem kP_b:clF 10 kP [102] [⟨false,1,[]⟩] ⟨[],[]⟩ 9=⟨7,0,[⟨[99],1⟩],[],0,1,[],0,0⟩:=by kernel_rfl
theorem kP_c:clF 10 kP [103] [] ⟨[],[]⟩ 9=⟨9,0,[⟨[99],0⟩],[],1,0,[103],-1,4⟩:=by kernel_rfl
abbrev yc_known20:Prop:=True
abbrev yr_known20:SV:=.one (.v (.bool true))
noncomputable abbrev ya_known20:ArgC (Unit):=ac0
abbrev yq_known20:Prop:=CallsY Try.prog 11 ya_known20 (fun p:Unit=>yc_known20 ) (fun p:Unit=>yr_known20 )
theorem yn_known20:∀p:Unit,((fun p:Unit=>yr_known20 ) p).names=[]:=by intro p;rfl
set_option maxRecDepth 20000 in set_option maxHeartbeats 32000000 in
theorem y_known20:yq_known20:=by
 rintro ⟨_u⟩ w fz xs hc hfz hl hx
 refine calls_toL Try.func11 rfl w fz [(yg_Prog 50 8 kgl (y_Prog 50 8 kgl)),(yg_Call 50 10 (y_Call 50 10)),yp_Blank] [(2,[.flag 12]),(3,[.flag 17])] ya_known20 (fun p:Unit=>yr_known20 ) _ xs hfz hl hx (Nat.le_of_ble_eq_true rfl) ?_
 clear hx hl hfz xs
 simp only[Try.f11]
 have hg:gloB=[103,108,111,98,97,108,115]:=rfl
 have he:=kP_e
 have hu:=kP_u
 have hr:=kP_r
 rw[hg]at he hu
 simp only[kT,kG]at he hu
 simp only[↓eB,seval,go_sem,yg_Call,cPg_e,cPg_d,cSta_e,cSta_d,cSta_n,cVas_e,cVas_d,cVas_n,cVas_d1,cVas_d2,pgR,stR,ouC,amCl_d,amCl_a,amCl_m,clJ_eq,lmH,lmO,chL,ML.ch,mlO_none,mlO_some,mlO_nil,updL,updX,nmX,xt,bumpL,ML.ren,rnC,renQ,renQC,vrQ,spL_some,fcN,↓e_fac4,yF_Blank,yN_Blank,R_Bl,M_Bl,nbL_rn,naL_rn,nbL_nm,naL_nm,he,kP_a,kP_b,kP_c,pg_eta,kPb,Nb.r]
 refine⟨⟨Nat.le_of_ble_eq_true rfl,hu⟩,hr _ 9 (Nat.le_of_ble_eq_true rfl) (by decide),hr _ 9 (Nat.le_of_ble_eq_true rfl) (by decide),hr _ 9 (Nat.le_of_ble_eq_true rfl) (by decide),⟨by decide,by decide,(by intro x hx;cases hx)⟩,?_⟩
 refine ret_with [] ?_;simp only[↓eB,seval,go_sem,bne,yr_known20]
noncomputable def yp_known20 {X:Ctx} {w0:World}:Sy.Spec Try.prog X w0:=specD 11 Try.call11 ya_known20 (fun p:Unit=>yc_known20 ) (fun p:Unit=>yr_known20 ) yn_known20 y_known20
end Go.Proofs.Ytjnnmindcbgjhaa
