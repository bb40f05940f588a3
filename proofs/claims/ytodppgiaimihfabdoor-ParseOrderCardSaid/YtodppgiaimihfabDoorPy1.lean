/- Sums that are written without parentheses are read from the left. No conditions but those in each statement. -/
import Derived.Test.YtodppgiaimihfabDoorCx5
import Derived.Test.YtodppgiaimihfabDoorLz
import Derived.Test.YtodppgiaimihfabDoorPn
set_option linter.unusedVariables false
set_option linter.unusedSimpArgs false
namespace Go.Proofs.YtodppgiaimihfabDoor
open Go Go.Sy Go.RowKit
theorem lw_po:Lw [102,110,32,102,40,41,32,123,32,114,101,116,117,114,110,32] [(0,[102,110]),(0,[102]),(2,[40]),(2,[41]),(2,[123]),(0,[114,101,116,117,114,110])]:=Lp.of (n:=10) (fun i=>[⟨0,[102,110],((i+0:Nat):Int)⟩,⟨0,[102],((i+3:Nat):Int)⟩,⟨2,[40],((i+4:Nat):Int)⟩,⟨2,[41],((i+5:Nat):Int)⟩,⟨2,[123],((i+7:Nat):Int)⟩,⟨0,[114,101,116,117,114,110],((i+9:Nat):Int)⟩]) (by decide) (fun _=>rfl) (fun f i r out=>by kernel_rfl)
theorem lw_pe:Lw [59,32,125] [kO 59,kO 125]:=(lw_sg 59).wapp ((lw_bl 32).wapp (lw_sg 125))
def dgS:List UInt8:=[50,51,52,53,54,55,56,57,97,98,99,100,101,102]
def dgt (i:Nat):UInt8:=dgS.getD i 0
theorem dg_at:∀i,i<12→(dgS.drop i).take (i+1-i)=[dgt i]:=by decide
def atC (i:Nat):Cx:=if i<8 then .num [dgt i] else .var [dgt i]
def sgn (x:Int):List UInt8:=opK (2+x.tmod 5)
def jnC:Option (Cx×Int)→Cx→Cx
 |none,t=>t
 |some (a,k),t=>.bin k a t
def bld:Nat→List Int→Option (Cx×Int)→Cx→Cx
 |_,[],o,t=>jnC o t
 |i,x::r,o,t=>if decide (2≤x.tmod 5)=true then bld (i+1) r o (.bin (2+x.tmod 5) t (atC i)) else bld (i+1) r (some (jnC o t,2+x.tmod 5)) (atC i)
def opsK:Nat→List Int→List Kt
 |_,[]=>[]
 |i,x::r=>(2,sgn x)::((atC i).tk++opsK (i+1) r)
theorem bld_tk:∀(l:List Int) (i:Nat) (o:Option (Cx×Int)) (t:Cx),(bld i l o t).tk=(jnC o t).tk++opsK i l
 |[],i,o,t=>by simp[bld,opsK]
 |x::r,i,o,t=>by
  unfold bld
  split
  ·rw[bld_tk r]
   cases o with
   |none=>simp[jnC,Cx.tk,opsK,sgn]
   |some p=>obtain⟨a,k⟩:=p;simp[jnC,Cx.tk,opsK,sgn]
  ·rw[bld_tk r]
   simp[jnC,Cx.tk,opsK,sgn]
def okX:Ex→Prop
 | .nil=>False
 | .mk k n _ a b=>(k=0∧0≤n∧n<10)∨k=1∨(2≤k∧k≤6∧okX a∧okX b)
def okC (t:Cx):Prop:=t.wf∧t.nm∧t.dp=0∧okX t.v
def okO:Option (Cx×Int)→Prop
 |none=>True
 |some (a,k)=>okC a∧(k=2∨k=3)
theorem at_ok:∀i,i<12→okC (atC i)∧(atC i).lv=0:=by
 intro i hi
 unfold atC
 by_cases h:i<8
 ·rw[if_pos h]
  have hw:∀i,i<12→i<8→digB ((dgt i).toNat:Int)=true∧0≤numW [dgt i] 0∧numW [dgt i] 0<10:=by decide
  exact⟨⟨trivial,⟨dgt i,[],rfl,(hw i hi h).1⟩,rfl,.inl ⟨rfl,(hw i hi h).2⟩⟩,rfl⟩
 ·rw[if_neg h]
  have hw:∀i,i<12→¬i<8→wordB [dgt i]=false∧letB ((dgt i).toNat:Int)=true:=by decide
  exact⟨⟨(hw i hi h).1,⟨dgt i,[],rfl,(hw i hi h).2⟩,rfl,.inr (.inl rfl)⟩,rfl⟩
theorem jn_ok {o:Option (Cx×Int)} {t:Cx} (ho:okO o) (ht:okC t) (hl:t.lv≤1):okC (jnC o t):=by
 cases o with
 |none=>exact ht
 |some p=>
  obtain⟨a,k⟩:=p
  obtain⟨ha,hk⟩:=ho
  refine⟨.inl ⟨hk,hl,ha.1,ht.1⟩,⟨ha.2.1,ht.2.1⟩,?_,.inr (.inr ⟨by omega,by omega,ha.2.2.2,ht.2.2.2⟩)⟩
  show max a.dp t.dp=0
  rw[ha.2.2.1,ht.2.2.1];rfl
theorem md5 {x:Int} (h:0≤x):x.tmod 5=0∨x.tmod 5=1∨x.tmod 5=2∨x.tmod 5=3∨x.tmod 5=4:=by
 have h1:=Int.tmod_nonneg 5 h
 have h2:=Int.tmod_lt_of_pos x (b:=5) (by decide)
 omega
theorem bld_ok:∀(l:List Int) (i:Nat) (o:Option (Cx×Int)) (t:Cx),(∀x∈l,0≤x)→i+l.length≤12→okO o→okC t→t.lv≤1→okC (bld i l o t)
 |[],i,o,t,_,_,ho,ht,hl=>jn_ok ho ht hl
 |x::r,i,o,t,hx,hi,ho,ht,hl=>by
  simp only[List.length_cons]at hi
  have h0:=hx x (by simp)
  have hr:∀y∈r,0≤y:=fun y hy=>hx y (List.mem_cons_of_mem _ hy)
  obtain⟨a1,a2⟩:=at_ok i (by omega)
  have h5:=md5 h0
  unfold bld
  split
  ·rename_i h
   have h:=of_decide_eq_true h
   refine bld_ok r (i+1) o _ hr (by omega) ho ⟨.inr ⟨by omega,hl,a2,ht.1,a1.1⟩,⟨ht.2.1,a1.2.1⟩,?_,.inr (.inr ⟨by omega,by omega,ht.2.2.2,a1.2.2.2⟩)⟩ ?_
   ·show max t.dp (atC i).dp=0
    rw[ht.2.2.1,a1.2.2.1];rfl
   ·show (if 2+x.tmod 5≤3 then 2 else 1)≤1
    rw[if_neg (by omega)];decide
  ·rename_i h
   have h:¬2≤x.tmod 5:=fun h'=>h (decide_eq_true h')
   exact bld_ok r (i+1) _ _ hr (by omega) ⟨jn_ok ho ht hl,by omega⟩ a1 (by omega)
def pc (i:Nat) (x:Int):List UInt8:=[32]++(sgn x++([32]++[dgt i]))
def pcs:Nat→List Int→List UInt8
 |_,[]=>[]
 |i,x::r=>pc i x++pcs (i+1) r
theorem pcs_app:∀(l:List Int) (i:Nat) (x:Int),pcs i (l++[x])=pcs i l++pc (i+l.length) x
 |[],i,x=>by simp[pcs]
 |y::r,i,x=>by
  show pc i y++pcs (i+1) (r++[x])=pc i y++pcs (i+1) r++pc (i+(r.length+1)) x
  rw[pcs_app r,List.append_assoc,show i+1+r.length=i+(r.length+1) by omega]
theorem sgn_len (x:Int):(sgn x).length=1:=by
 unfold sgn opK
 repeat' split
 all_goals rfl
theorem pcs_len:∀(l:List Int) (i:Nat),(pcs i l).length=4*l.length
 |[],i=>rfl
 |x::r,i=>by
  show (pc i x++pcs (i+1) r).length=_
  rw[List.length_append,pcs_len r]
  unfold pc
  simp[sgn_len];omega
theorem lw_sgn {x:Int} (h:0≤x):Lw (sgn x) [(2,sgn x)]:=by
 unfold sgn
 rcases md5 h with e|e|e|e|e<;>rw[e]
 ·exact lw_sg 43
 ·exact lw_sg 45
 ·exact lw_sg 42
 ·exact lw_sg 47
 ·exact lw_sg 37
theorem lz_at:∀i,i<12→Lz [dgt i] (atC i).tk:=by
 intro i hi
 unfold atC
 by_cases h:i<8
 ·rw[if_pos h]
  have hw:∀i,i<12→i<8→digB ((dgt i).toNat:Int)=true∧(dgF [dgt i] 0 false).2=false∧(dgF [dgt i] 0 false).1≤9223372036854775807:=by decide
  refine lz_nu ⟨?_,by simp,.inl rfl,(hw i hi h).2⟩
  intro c hc;rw[List.mem_singleton.1 hc];exact(hw i hi h).1
 ·rw[if_neg h]
  have hw:∀i,i<12→¬i<8→letB ((dgt i).toNat:Int)=true∧idB ((dgt i).toNat:Int)=true:=by decide
  refine lz_nm ⟨dgt i,[],rfl,(hw i hi h).1⟩ ?_ (by show 1≤32;decide)
  intro c hc;rw[List.mem_singleton.1 hc];exact(hw i hi h).2
theorem pcs_hd:∀(l:List Int) (i:Nat),∃c q,pcs i l++[59,32,125]=c::q∧pS c=true
 |[],i=>⟨59,[32,125],rfl,by decide⟩
 |x::r,i=>⟨32,_,rfl,by decide⟩
theorem lw_pcs:∀(l:List Int) (i:Nat),(∀x∈l,0≤x)→i+l.length≤12→Lw (pcs i l++[59,32,125]) (opsK i l++[kO 59,kO 125])
 |[],i,_,_=>lw_pe
 |x::r,i,hx,hi=>by
  simp only[List.length_cons]at hi
  have ih:=lw_pcs r (i+1) (fun y hy=>hx y (List.mem_cons_of_mem _ hy)) (by omega)
  have h:=(lw_bl 32).wapp ((lw_sgn (hx x (by simp))).wapp ((lw_bl 32).wapp ((lz_at i (by omega)).app ih (pcs_hd r (i+1)))))
  refine Eq.mp ?_ h
  congr 1
  ·simp[pcs,pc]
  ·simp[opsK]
def poT (l:List Int):List UInt8:=[102,110,32,102,40,41,32,123,32,114,101,116,117,114,110,32]++([49]++(pcs 0 l++[59,32,125]))
def poC (l:List Int):Cx:=bld 0 l none (.num [49])
theorem poC_ok {l:List Int} (hx:∀x∈l,0≤x) (hl:l.length≤12):okC (poC l):=
 bld_ok l 0 none _ hx (by omega) trivial ⟨trivial,⟨49,[],rfl,by decide⟩,rfl,.inl ⟨rfl,by decide,by decide⟩⟩ (by decide)
theorem po_fun {l:List Int} (hx:∀x∈l,0≤x) (hl:l.length≤12):funF (poT l)=(⟨[102],[],[],[.mk 9 [] [] (poC l).v .nil .nil [] [] [] 0]⟩,0,0):=by
 have hok:=poC_ok hx hl
 have h1:Lz [49] [(1,[49])]:=lz_nu ⟨by decide,by decide,.inl rfl,by decide⟩
 have h:=lw_po.wapp (h1.app (lw_pcs l 0 hx (by omega)) (pcs_hd l 0))
 obtain⟨T,e1,e2⟩:=rx_all h (by simp only[List.length_append,pcs_len,List.length_cons,List.length_nil];omega)
 have hn:nmO [102]:=⟨by decide,⟨102,[],rfl,by decide⟩⟩
 have hcf:=cf_fun (f:=⟨[102],[],[],[.ret (poC l)]⟩) ⟨hn,(fun v hv=>by cases hv),(fun v hv=>by cases hv),Nat.zero_le _,Nat.zero_le _,⟨⟨hok.1,hok.2.1⟩,trivial⟩,by
  show max (poC l).dp 0≤39
  rw[hok.2.2.1];decide,by show 1+0≤200;decide⟩ e1 (by
  rw[e2]
  show _=(0,tFn)::(0,[102])::kO 40::([kO 41]++kO 123::([]++(((0,tRet)::((poC l).tk++[kO 59]))++[]++[kO 125])))
  unfold poC
  rw[bld_tk]
  simp[jnC,Cx.tk,kO,tFn,tRet])
 exact hcf
def wh:Ex→List UInt8
 | .nil=>[]
 | .mk k n s a b=>if (k==0)=true then [UInt8.ofNat (48+n.toNat)] else if (k==1)=true then s else [40]++wh a++opK k++wh b++[41]
def jnS (out sign term:List UInt8):List UInt8:=if (sign==[])=true then term else [40]++out++sign++term++[41]
def spS:Nat→List Int→List UInt8→List UInt8→List UInt8→List UInt8
 |_,[],out,sign,term=>jnS out sign term
 |i,x::r,out,sign,term=>if decide (2≤x.tmod 5)=true then spS (i+1) r out sign ([40]++term++sgn x++[dgt i]++[41]) else spS (i+1) r (jnS out sign term) (sgn x) [dgt i]
theorem wh_bin {k:Int} (h:2≤k) (a b:Cx):wh (Cx.bin k a b).v=[40]++wh a.v++opK k++wh b.v++[41]:=by
 show (if (k==0)=true then _ else if (k==1)=true then _ else _)=_
 rw[if_neg (by simp;omega),if_neg (by simp;omega)]
theorem wh_at:∀i,i<12→wh (atC i).v=[dgt i]:=by decide
def okS (o:Option (Cx×Int)) (out sign:List UInt8):Prop:=
 match o with
 |none=>sign=[]
 |some (a,k)=>out=wh a.v∧sign=opK k∧2≤k
theorem opK_nl (k:Int):(opK k==[])=false:=by
 unfold opK
 repeat' split
 all_goals rfl
theorem jn_wh {o:Option (Cx×Int)} {out sign term:List UInt8} {t:Cx} (ho:okS o out sign) (ht:term=wh t.v):jnS out sign term=wh (jnC o t).v:=by
 cases o with
 |none=>
  have ho:sign=[]:=ho
  unfold jnS
  rw[ho];exact ht
 |some p=>
  obtain⟨a,k⟩:=p
  obtain⟨h1,h2,h3⟩:=ho
  unfold jnS
  rw[h2,opK_nl,if_neg (by decide),h1,ht]
  exact(wh_bin h3 a t).symm
theorem sp_wh:∀(l:List Int) (i:Nat) (o:Option (Cx×Int)) (t:Cx) (out sign term:List UInt8),(∀x∈l,0≤x)→i+l.length≤12→okS o out sign→term=wh t.v→spS i l out sign term=wh (bld i l o t).v
 |[],i,o,t,out,sign,term,_,_,ho,ht=>jn_wh ho ht
 |x::r,i,o,t,out,sign,term,hx,hi,ho,ht=>by
  simp only[List.length_cons]at hi
  have h0:=hx x (by simp)
  have hr:∀y∈r,0≤y:=fun y hy=>hx y (List.mem_cons_of_mem _ hy)
  have h5:=md5 h0
  have ha:=wh_at i (by omega)
  unfold spS bld
  split
  ·rename_i h
   have h:=of_decide_eq_true h
   refine sp_wh r (i+1) o _ out sign _ hr (by omega) ho ?_
   rw[wh_bin (by omega),ha,ht];rfl
  ·rename_i h
   refine sp_wh r (i+1) _ _ _ _ _ hr (by omega) ⟨jn_wh ho ht,rfl,by omega⟩ ha.symm
theorem po_sp {l:List Int} (hx:∀x∈l,0≤x) (hl:l.length≤12):spS 0 l [] [] [49]=wh (poC l).v:=sp_wh l 0 none _ [] [] [49] hx (by omega) rfl (by decide)
theorem jnS_len (a b c:List UInt8):(jnS a b c).length≤a.length+b.length+c.length+2:=by
 unfold jnS
 split
 ·omega
 ·simp only[List.length_append,List.length_cons,List.length_nil];omega
theorem sp_len:∀(l:List Int) (i:Nat) (a b c:List UInt8),(spS i l a b c).length≤a.length+b.length+c.length+2+6*l.length
 |[],i,a,b,c=>by have:=jnS_len a b c;exact this
 |x::r,i,a,b,c=>by
  unfold spS
  have h:=jnS_len a b c
  split
  ·refine Nat.le_trans (sp_len r _ _ _ _) ?_
   simp only[List.length_append,List.length_cons,List.length_nil,sgn_len];omega
  ·refine Nat.le_trans (sp_len r _ _ _ _) ?_
   simp only[List.length_append,List.length_cons,List.length_nil,sgn_len];omega
end Go.Proofs.YtodppgiaimihfabDoor
namespace Go.Proofs.YtodppgiaimihfabDoor
open Go Go.Sy Go.RowKit
theorem leC_d {c:C} {z z':List D} {es es':List (List D)} (h:leC c (.d (.sl z es))) (h':leC c (.d (.sl z' es'))):es=es':=by
 rcases h with rfl|⟨h1,h2⟩
 ·rcases h' with h|⟨h3,h4⟩
  ·simp only[C.d.injEq,D.sl.injEq]at h;exact h.2
  ·cases h3
 ·obtain rfl:=nilS_eq h1
  rcases h' with h|⟨h3,h4⟩
  ·cases h
  ·obtain⟨_,he⟩:=emS_eq h2
   obtain⟨_,he'⟩:=emS_eq h4
   simp only[C.d.injEq,D.sl.injEq]at he he'
   rw[he.2,he'.2]
theorem leC_o {c:C} {d d':D} (hd:∀z,oD d≠.d (.sl z [])) (hd':∀z,oD d'≠.d (.sl z [])) (h:leC c (oD d)) (h':leC c (oD d')):oD d=oD d':=by
 rcases h with rfl|⟨_,h2⟩
 ·rcases h' with h|⟨_,h4⟩
  ·exact h
  ·obtain⟨z,h⟩:=emS_eq h4;exact absurd h (hd' z)
 ·obtain⟨z,h⟩:=emS_eq h2;exact absurd h (hd z)
theorem oD_inj {a b:D} (h:oD a=oD b):a=b:=by cases a<;>cases b<;>simp_all [oD]
theorem exC_inj {a b:Ex} (h:exC a=exC b):a=b:=exd_inj (oD_inj h)
theorem ex_nsl (e:Ex):∀z,oD e.d≠.d (.sl z []):=by intro z;cases e<;>simp[Ex.d,oD]
noncomputable def cEx:Cod Ex:=codOf (fun e=>.one (exC e)) (fun v a b h h'=>by
 cases v with
 |one c=>exact exC_inj (leC_o (ex_nsl a) (ex_nsl b) h h')
 |agg l=>exact h.elim
 |tup l=>exact h.elim) (fun e=>ex_names e)
theorem cEx_e (e:Ex):cEx.e e= .one (exC e):=rfl
theorem cEx_d (e:Ex):cEx.d (.one (exC e))=some e:=codOf_le (e:=fun e=>.one (exC e)) (leV_refl _)
theorem cEx_n:cEx.d (.one (.v (.pointer none)))=some .nil:=cEx_d .nil
def Ex.dp:Ex→Nat
 | .nil=>0
 | .mk _ _ _ a b=>max a.dp b.dp+1
def Cd.dp:Cd→Nat
 | .nil=>0
 | .mk _ a b p q _=>max (max a.dp b.dp) (max p.dp q.dp)+1
structure OkS (n:Nat) (s:Sm):Prop where
 e:s.e.dp<n
 f:s.f.dp<n
 c:s.cd.dp<n
 a:∀a∈s.ar,a.e.dp<n
 l:s.ar.length≤5000
end Go.Proofs.YtodppgiaimihfabDoor
