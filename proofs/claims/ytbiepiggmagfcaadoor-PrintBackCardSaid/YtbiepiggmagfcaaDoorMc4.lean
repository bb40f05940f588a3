/- The maker's functions are read as what they say. No conditions but those in each statement. -/
import Derived.Test.YtbiepiggmagfcaaDoorMc3
import Derived.Test.YtbiepiggmagfcaaDoorPx2
set_option linter.unusedVariables false
set_option linter.unusedSimpArgs false
namespace Go.Proofs.YtbiepiggmagfcaaDoor
open Go Go.Sy Go.RowKit
theorem lw_h0:Lw [102,110,32,102,40,120,41,32,123,32,118,97,114,32,97,59,32,118,97,114,32,98,59,32,112,116,114,32,113,59,32] [(0,[102,110]),(0,[102]),(2,[40]),(0,[120]),(2,[41]),(2,[123]),(0,[118,97,114]),(0,[97]),(2,[59]),(0,[118,97,114]),(0,[98]),(2,[59]),(0,[112,116,114]),(0,[113]),(2,[59])]:=Lp.of (n:=24) (fun i=>[⟨0,[102,110],((i+0:Nat):Int)⟩,⟨0,[102],((i+3:Nat):Int)⟩,⟨2,[40],((i+4:Nat):Int)⟩,⟨0,[120],((i+5:Nat):Int)⟩,⟨2,[41],((i+6:Nat):Int)⟩,⟨2,[123],((i+8:Nat):Int)⟩,⟨0,[118,97,114],((i+10:Nat):Int)⟩,⟨0,[97],((i+14:Nat):Int)⟩,⟨2,[59],((i+15:Nat):Int)⟩,⟨0,[118,97,114],((i+17:Nat):Int)⟩,⟨0,[98],((i+21:Nat):Int)⟩,⟨2,[59],((i+22:Nat):Int)⟩,⟨0,[112,116,114],((i+24:Nat):Int)⟩,⟨0,[113],((i+28:Nat):Int)⟩,⟨2,[59],((i+29:Nat):Int)⟩]) (by decide) (fun _=>rfl) (fun f i r out=>by kernel_rfl)
theorem lw_h1:Lw [102,110,32,103,40,120,44,32,121,41,32,123,32,118,97,114,32,97,59,32,118,97,114,32,98,59,32,112,116,114,32,113,59,32] [(0,[102,110]),(0,[103]),(2,[40]),(0,[120]),(2,[44]),(0,[121]),(2,[41]),(2,[123]),(0,[118,97,114]),(0,[97]),(2,[59]),(0,[118,97,114]),(0,[98]),(2,[59]),(0,[112,116,114]),(0,[113]),(2,[59])]:=Lp.of (n:=27) (fun i=>[⟨0,[102,110],((i+0:Nat):Int)⟩,⟨0,[103],((i+3:Nat):Int)⟩,⟨2,[40],((i+4:Nat):Int)⟩,⟨0,[120],((i+5:Nat):Int)⟩,⟨2,[44],((i+6:Nat):Int)⟩,⟨0,[121],((i+8:Nat):Int)⟩,⟨2,[41],((i+9:Nat):Int)⟩,⟨2,[123],((i+11:Nat):Int)⟩,⟨0,[118,97,114],((i+13:Nat):Int)⟩,⟨0,[97],((i+17:Nat):Int)⟩,⟨2,[59],((i+18:Nat):Int)⟩,⟨0,[118,97,114],((i+20:Nat):Int)⟩,⟨0,[98],((i+24:Nat):Int)⟩,⟨2,[59],((i+25:Nat):Int)⟩,⟨0,[112,116,114],((i+27:Nat):Int)⟩,⟨0,[113],((i+31:Nat):Int)⟩,⟨2,[59],((i+32:Nat):Int)⟩]) (by decide) (fun _=>rfl) (fun f i r out=>by kernel_rfl)
theorem lw_h2:Lw [102,110,32,104,40,42,112,41,32,123,32,118,97,114,32,97,59,32,118,97,114,32,98,59,32,118,97,114,32,120,59,32,112,116,114,32,113,59,32] [(0,[102,110]),(0,[104]),(2,[40]),(2,[42]),(0,[112]),(2,[41]),(2,[123]),(0,[118,97,114]),(0,[97]),(2,[59]),(0,[118,97,114]),(0,[98]),(2,[59]),(0,[118,97,114]),(0,[120]),(2,[59]),(0,[112,116,114]),(0,[113]),(2,[59])]:=Lp.of (n:=30) (fun i=>[⟨0,[102,110],((i+0:Nat):Int)⟩,⟨0,[104],((i+3:Nat):Int)⟩,⟨2,[40],((i+4:Nat):Int)⟩,⟨2,[42],((i+5:Nat):Int)⟩,⟨0,[112],((i+6:Nat):Int)⟩,⟨2,[41],((i+7:Nat):Int)⟩,⟨2,[123],((i+9:Nat):Int)⟩,⟨0,[118,97,114],((i+11:Nat):Int)⟩,⟨0,[97],((i+15:Nat):Int)⟩,⟨2,[59],((i+16:Nat):Int)⟩,⟨0,[118,97,114],((i+18:Nat):Int)⟩,⟨0,[98],((i+22:Nat):Int)⟩,⟨2,[59],((i+23:Nat):Int)⟩,⟨0,[118,97,114],((i+25:Nat):Int)⟩,⟨0,[120],((i+29:Nat):Int)⟩,⟨2,[59],((i+30:Nat):Int)⟩,⟨0,[112,116,114],((i+32:Nat):Int)⟩,⟨0,[113],((i+36:Nat):Int)⟩,⟨2,[59],((i+37:Nat):Int)⟩]) (by decide) (fun _=>rfl) (fun f i r out=>by kernel_rfl)
theorem lw_h3:Lw [102,110,32,107,40,120,44,32,42,112,41,32,123,32,118,97,114,32,97,59,32,118,97,114,32,98,59,32,112,116,114,32,113,59,32] [(0,[102,110]),(0,[107]),(2,[40]),(0,[120]),(2,[44]),(2,[42]),(0,[112]),(2,[41]),(2,[123]),(0,[118,97,114]),(0,[97]),(2,[59]),(0,[118,97,114]),(0,[98]),(2,[59]),(0,[112,116,114]),(0,[113]),(2,[59])]:=Lp.of (n:=28) (fun i=>[⟨0,[102,110],((i+0:Nat):Int)⟩,⟨0,[107],((i+3:Nat):Int)⟩,⟨2,[40],((i+4:Nat):Int)⟩,⟨0,[120],((i+5:Nat):Int)⟩,⟨2,[44],((i+6:Nat):Int)⟩,⟨2,[42],((i+8:Nat):Int)⟩,⟨0,[112],((i+9:Nat):Int)⟩,⟨2,[41],((i+10:Nat):Int)⟩,⟨2,[123],((i+12:Nat):Int)⟩,⟨0,[118,97,114],((i+14:Nat):Int)⟩,⟨0,[97],((i+18:Nat):Int)⟩,⟨2,[59],((i+19:Nat):Int)⟩,⟨0,[118,97,114],((i+21:Nat):Int)⟩,⟨0,[98],((i+25:Nat):Int)⟩,⟨2,[59],((i+26:Nat):Int)⟩,⟨0,[112,116,114],((i+28:Nat):Int)⟩,⟨0,[113],((i+32:Nat):Int)⟩,⟨2,[59],((i+33:Nat):Int)⟩]) (by decide) (fun _=>rfl) (fun f i r out=>by kernel_rfl)
def vI (s:List UInt8):Vr:=⟨s,false⟩
def vP (s:List UInt8):Vr:=⟨s,true⟩
def hdC (s:Int):List UInt8×List Vr×List Vr:=
 if s.tmod 4=0 then ([102],[vI [120]],[vI [97],vI [98],vP [113]])
 else if s.tmod 4=1 then ([103],[vI [120],vI [121]],[vI [97],vI [98],vP [113]])
 else if s.tmod 4=2 then ([104],[vP [112]],[vI [97],vI [98],vI [120],vP [113]])
 else ([107],[vI [120],vP [112]],[vI [97],vI [98],vP [113]])
theorem hd_q {s:Int} (hs:0≤s):Lw (txH s) ((0,tFn)::(0,(hdC s).1)::kO 40::(psK (hdC s).2.1++kO 123::lsK (hdC s).2.2))∧nmQ (hdC s).1∧(∀v∈(hdC s).2.1,nmQ v.s)∧(∀v∈(hdC s).2.2,nmQ v.s)∧(hdC s).2.1.length≤2∧(hdC s).2.2.length≤4:=by
 have h4:=tmod4 hs
 have h5:s.tmod 4=0∨s.tmod 4=1∨s.tmod 4=2∨s.tmod 4=3:=by omega
 have a:=(nmQ.of:nmQ [97])
 have b:=(nmQ.of:nmQ [98])
 have x:=(nmQ.of:nmQ [120])
 have y:=(nmQ.of:nmQ [121])
 have p:=(nmQ.of:nmQ [112])
 have q:=(nmQ.of:nmQ [113])
 unfold txH hdS hdC
 rcases h5 with e|e|e|e<;>rw[e]
 ·refine⟨lw_h0,(nmQ.of:nmQ [102]),?_,?_,by decide,by decide⟩
  ·intro v hv
   simp only[if_true,List.mem_singleton]at hv
   subst hv;exact x
  ·intro v hv
   simp only[if_true,List.mem_cons,List.not_mem_nil,or_false]at hv
   rcases hv with rfl|rfl|rfl
   ·exact a
   ·exact b
   ·exact q
 ·refine⟨lw_h1,(nmQ.of:nmQ [103]),?_,?_,by decide,by decide⟩
  ·intro v hv
   have hv:v∈[vI [120],vI [121]]:=hv
   simp only[List.mem_cons,List.not_mem_nil,or_false]at hv
   rcases hv with rfl|rfl
   ·exact x
   ·exact y
  ·intro v hv
   have hv:v∈[vI [97],vI [98],vP [113]]:=hv
   simp only[List.mem_cons,List.not_mem_nil,or_false]at hv
   rcases hv with rfl|rfl|rfl
   ·exact a
   ·exact b
   ·exact q
 ·refine⟨lw_h2,(nmQ.of:nmQ [104]),?_,?_,by decide,by decide⟩
  ·intro v hv
   have hv:v∈[vP [112]]:=hv
   rw[List.mem_singleton.1 hv];exact p
  ·intro v hv
   have hv:v∈[vI [97],vI [98],vI [120],vP [113]]:=hv
   simp only[List.mem_cons,List.not_mem_nil,or_false]at hv
   rcases hv with rfl|rfl|rfl|rfl
   ·exact a
   ·exact b
   ·exact x
   ·exact q
 ·refine⟨lw_h3,(nmQ.of:nmQ [107]),?_,?_,by decide,by decide⟩
  ·intro v hv
   have hv:v∈[vI [120],vP [112]]:=hv
   simp only[List.mem_cons,List.not_mem_nil,or_false]at hv
   rcases hv with rfl|rfl
   ·exact x
   ·exact p
  ·intro v hv
   have hv:v∈[vI [97],vI [98],vP [113]]:=hv
   simp only[List.mem_cons,List.not_mem_nil,or_false]at hv
   rcases hv with rfl|rfl|rfl
   ·exact a
   ·exact b
   ·exact q
theorem tkB_app:∀l m:List Cs,tkB (l++m)=tkB l++tkB m
 |[],m=>rfl
 |s::l,m=>by rw[List.cons_append,tkB,tkB_app l m,tkB,List.append_assoc]
theorem wfB_app:∀l m:List Cs,wfB l→wfB m→wfB (l++m)
 |[],m,_,h=>h
 |s::l,m,h,k=>⟨h.1,wfB_app l m h.2 k⟩
theorem dpB_app:∀l m:List Cs,dpB (l++m)=max (dpB l) (dpB m)
 |[],m=>by simp[dpB]
 |s::l,m=>by rw[List.cons_append,dpB,dpB_app l m,dpB];omega
theorem ctB_app:∀l m:List Cs,ctB (l++m)=ctB l+ctB m
 |[],m=>by simp[ctB]
 |s::l,m=>by rw[List.cons_append,ctB,ctB_app l m,ctB];omega
structure mkQ (t:List UInt8) (f:Cf):Prop where
 ok:f.ok
 z:Lw t f.tk
 l:t.length≤4096
 d:dpB f.body≤5
 c:ctB f.body≤42
 nl:f.name.length≤1
 pl:∀v∈f.ps,v.s.length≤1
 vl:∀v∈f.ls,v.s.length≤1
theorem ph_le {n:Int} (h : -16≤n):ph 25-ph n≤2948:=by
 have:ph 25=2500:=rfl
 unfold ph at*
 split<;>omega
theorem mk_q {s:Int} (hs:0≤s) {b:List Int} (hb:okY b):∃f,mkQ (txT s b) f∧f.name=(hdC s).1:=by
 obtain⟨z0,q1,q2,q3,q4,q5⟩:=hd_q hs
 have hk0:okK (m0 b):=hb.2
 have hk1:okK (nxM (m0 b)):=hb.2
 have hj:=nxK hk0 (j:=6) (by decide)
 obtain⟨t,l,e1,a⟩:=bl_q (fun m=>st_q 2 (Nat.le_refl _) s m) (1+nxV 6 (m0 b)).toNat (txH s) (nxM (m0 b)) hk1 (by show _≤(25:Int);omega) (by show (25:Int)≤25;omega) (by omega)
 have hn:(nxM (m0 b)).n=25:=rfl
 have x2:=a.x2
 have ln:=a.ln
 have x0:xk 2=11:=rfl
 rw[hn]at x2 ln
 have hc:ctB l≤41:=by rcases x2 (by decide) with h|h<;>omega
 have hl:=ph_le (n:=25-(ctB l:Int)) (by omega)
 have hH:=txH_len s
 have e2:(txB s b).1=txH s++t:=e1
 have hkB:okK (txB s b).2:=by unfold okK;show ∀x∈(blkL _ _ _ _).2.b,_;rw[a.b];exact hb.2
 have key:∀(f:Cf) (u:List UInt8) (us:List Cs),f.name=(hdC s).1→f.ps=(hdC s).2.1→f.ls=(hdC s).2.2→f.body=l++us→wfB us→dpB us≤3→ctB us≤1→Lw u (tkB us)→u.length≤30→mkQ (((txH s++t)++u)++[125]) f:=by
  intro f u us f1 f2 f3 f4 w d c z lu
  refine⟨⟨by rw[f1];exact q1.o,by rw[f2];exact fun v hv=>(q2 v hv).o,by rw[f3];exact fun v hv=>(q3 v hv).o,by rw[f2];omega,by rw[f3];omega,by rw[f4];exact wfB_app _ _ a.w w,?_,?_⟩,?_,?_,?_,?_,by rw[f1];exact q1.l,by rw[f2];exact fun v hv=>(q2 v hv).l,by rw[f3];exact fun v hv=>(q3 v hv).l⟩
  ·rw[f4,dpB_app];have:=a.d;omega
  ·rw[f4,ctB_app];omega
  ·refine((((z0.wapp a.z).wapp z).wapp (lw_sg 125))).cast rfl ?_
   unfold Cf.tk
   rw[f1,f2,f3,f4,tkB_app];simp
  ·simp only[List.length_append,List.length_cons,List.length_nil];omega
  ·rw[f4,dpB_app];have:=a.d;omega
  ·rw[f4,ctB_app];omega
 unfold txT
 rw[e2]
 by_cases c0:(nxV 2 (txB s b).2==0)=true
 ·rw[if_pos c0]
  obtain⟨i,_⟩:=iv_q ((sm_nx (txB s b).2).ok hkB)
  refine⟨⟨(hdC s).1,(hdC s).2.1,(hdC s).2.2,l++[.ret (.var (ivT' (nxM (txB s b).2)).1)]⟩,?_,rfl⟩
  have:=key ⟨(hdC s).1,(hdC s).2.1,(hdC s).2.2,l++[.ret (.var (ivT' (nxM (txB s b).2)).1)]⟩ (([114,101,116,117,114,110,32]++(ivT' (nxM (txB s b).2)).1)++[59,32]) [.ret (.var (ivT' (nxM (txB s b).2)).1)] rfl rfl rfl rfl ⟨⟨i.o.1,i.o.2⟩,trivial⟩ (by simp[dpB,Cs.dp,Cx.dp]) (by simp[ctB,Cs.ct]) (((lw_rt.wapp i.z).app lw_se (pS_c _ _)).cast rfl (by simp[tkB,Cs.tk,Cx.tk])) (by have:=i.l;simp only[List.length_append,List.length_cons,List.length_nil];omega)
  simpa using this
 ·rw[if_neg c0]
  refine⟨⟨(hdC s).1,(hdC s).2.1,(hdC s).2.2,l⟩,?_,rfl⟩
  have:=key ⟨(hdC s).1,(hdC s).2.1,(hdC s).2.2,l⟩ [] [] rfl rfl rfl (by simp) trivial (Nat.zero_le _) (Nat.zero_le _) Lp.nil (Nat.zero_le _)
  simpa using this
theorem mk_fun {s:Int} (hs:0≤s) {b:List Int} (hb:okY b):∃f,mkQ (txT s b) f∧funF (txT s b)=(f.v,0,0)∧f.name=(hdC s).1∧f.tk.length≤4096∧∀t∈f.tk,t.2.length≤4096:=by
 obtain⟨f,a,n⟩:=mk_q hs hb
 obtain⟨T,e1,e2⟩:=rx_all a.z a.l
 have h:=rxT_ok (txT s b)
 rw[e1]at h
 refine⟨f,a,cf_fun a.ok e1 e2,n,by rw[← e2,List.length_map];exact h.1,fun t ht=>?_⟩
 rw[← e2]at ht
 obtain⟨x,hx,rfl⟩:=List.mem_map.1 ht
 exact h.2 x hx
end Go.Proofs.YtbiepiggmagfcaaDoor
namespace Go.Proofs.YtbiepiggmagfcaaDoor
open Go Go.Sy Go.Shelf Go.RowKit
def sD1 (s:List UInt8):List D:=[dS s]
theorem sD1_inj (a b:List UInt8) (h:sD1 a=sD1 b):a=b:=by
 simp only[sD1,List.cons.injEq,D.v.injEq,Value.string.injEq,and_true]at h
 exact bs_inj h
def zSD:List D:=[dS []]
noncomputable def rSs:RowC (List UInt8):=rowOf zSD sD1 sD1_inj fun _=>rfl
theorem rSs_z:rSs.z=zSD:=rfl
theorem rSs_e:rSs.e=sD1:=rfl
theorem rSs_d (s:List UInt8):rSs.d (sD1 s)=some s:=rSs.i s
theorem zSD_ln:zSD.length=1:=rfl
theorem decL_ss (l:List (List UInt8)):decL rSs.d (l.map sD1)=some l:=decL_map rSs l
theorem rowsS1:RowsD sR1 sD1 1:=by
 refine⟨fun a c hc=>?_,fun a c hc=>?_,fun a=>rfl,fun a=>rfl⟩
 ·simp only[sR1,List.mem_singleton]at hc;subst hc;rfl
 ·simp only[sR1,List.mem_singleton]at hc;subst hc;rfl
def jnT (l:List (List UInt8)):List UInt8:=Lib.join l [44,32]
theorem c_Join (l:List (List UInt8)) (ad:Option Addr) (n c:Nat) (w:World) (fz:Nat→Prop) (hfz:∀b,fz b→b<w.heap.size) (hl:l.length≤1000000) (ht:(jnT l).length≤1000000000) {x:Value} (h:Rd (hp w) fz (.sl zSD (l.map sD1)) x) :
  Calls Tryd.prog 47 #[x,.string (bs [44,32])] w fun e w'=>e= .returned (.string (bs (jnT l)))∧Below w.heap.size w w':=by
 have hbs:∀s:List UInt8,(bs s).data.toList=s:=fun s=>by simp[bs]
 have h5:List.map (fun b:ByteArray=>b.data.toList) (l.map bs)=l:=by
  rw[List.map_map]
  have:((fun b:ByteArray=>b.data.toList)∘bs)=id:=by funext s;exact hbs s
  rw[this,List.map_id]
 generalize hD:l.map sD1=es at h
 cases h with
 |nil _ a cap h0=>
  obtain rfl:l=[]:=by simpa using hD
  exact(Any.strings_Join_none Tryd.lays156 x5 a cap (bs [44,32]) w).mono fun e w' ⟨he,hw⟩=>⟨he,hw▸Below.refl _ _⟩
 |sl _ _ b off cap arr T m val hz hb hcap hl' hc hr=>
  subst hD
  have hbw:w.heap[b]?=some (.cells arr T m):=hb
  have:=Any.strings_Join Tryd.lays156 x5 b off cap (l.map bs) (bs [44,32]) w (fun j x hj=>by
    simp only[List.getElem?_map,Option.map_eq_some_iff]at hj
    obtain⟨s,hs,rfl⟩:=hj
    have h1:(l.map sD1)[j]?=some (sD1 s):=by simp[hs]
    have h2:=hc j 0 _ (dS s) h1 rfl
    have h3:=hr j 0 _ (dS s) h1 rfl
    generalize val j 0=y at h2 h3
    cases h3
    simp only[World.cell?,hbw,Option.isSome_none,Bool.false_eq_true,if_false]
    rw[← h2];congr 1;simp[zSD])
   (hfz b hz) (by rw[List.length_map];omega) (by rw[List.length_map];rw[List.length_map]at hcap;exact hcap) (by
    rw[h5,hbs]
    show (jnT l).length≤_
    omega)
  rw[h5,hbs]at this
  rw[List.length_map]at this ⊢
  exact this
abbrev yc_Join (l:List (List UInt8)) (s:List UInt8):Prop:=s=[44,32]∧l.length≤1000000∧(jnT l).length≤1000000000
abbrev yr_Join (l:List (List UInt8)) (_:List UInt8):Value:=.string (bs (jnT l))
theorem y_Join:CallsR Tryd.prog 47 (ahS (cSl rSs) (ahS cStr.H ah0)) (fun p=>yc_Join p.1 p.2.1) (fun p=>ofV (yr_Join p.1 p.2.1)):=by
 rintro ⟨l,s,_u⟩ w fz xs ⟨hs,hl1,hl2⟩ hfz hl hx
 dsimp only at hs hl1 hl2
 subst hs
 obtain⟨x,y,rfl⟩:∃x y,xs=[x,y]:=by
  match xs,hl with
  |[x,y],_=>exact⟨x,y,rfl⟩
 have hy:=hx 1 _ y rfl rfl
 have hxx:=hx 0 _ x rfl rfl
 obtain rfl:=sd_clos hy rfl
 have hr:Rd (hp w) fz (.sl zSD (l.map sD1)) x:=by
  have:=hxx.2
  cases this
  assumption
 refine(c_Join l none 0 0 w fz hfz hl1 hl2 hr).mono ?_
 rintro e w' ⟨rfl,hb⟩
 exact⟨_,_,fz,rfl,rfl,rfl,fun _ h=>h,fun _ h=>.inl h,fun b h=>Nat.lt_of_lt_of_le (hfz b h) hb.size,sd_ofV (w:=w') rfl,hb⟩
theorem yh_Join:∀p:(List (List UInt8))×(List UInt8)×Unit,okV ((fun p:(List (List UInt8))×(List UInt8)×Unit=>yr_Join p.1 p.2.1) p)=true:=by intro p;rfl
noncomputable def yp_Join {X:Ctx} {w0:World}:Sy.Spec Tryd.prog X w0:=specR 47 Tryd.call47 (ahS (cSl rSs) (ahS cStr.H ah0)) (fun p=>yc_Join p.1 p.2.1) (fun p=>yr_Join p.1 p.2.1) yh_Join y_Join
end Go.Proofs.YtbiepiggmagfcaaDoor
namespace Go.Proofs.YtbiepiggmagfcaaDoor
open Go Go.Sy Go.RowKit
structure Ln where
 t:List UInt8
 n:Int
def argX (a:Ar):List UInt8:=if a.p=true then a.s else exT a.e
def tgtT (x:List UInt8):List UInt8:=if (x==[])=true then [] else x++[32,61,32]
def hdL (s:Sm):List (List UInt8):=
 if (s.k==0)=true then [s.x,[32,61,32],exT s.e,[59]]
 else if (s.k==1)=true then [s.x,[32,61,32,38],s.y,[59]]
 else if (s.k==2)=true then [s.x,[32,61,32],s.y,[59]]
 else if (s.k==3)=true then [s.x,[32,61,32,110,117,108,108,59]]
 else if (s.k==4)=true then [s.x,[32,61,32,42],s.y,[59]]
 else if (s.k==5)=true then [[42],s.x,[32,61,32],exT s.e,[59]]
 else if (s.k==6)=true then [s.x,[32,61,32],s.y,[91],exT s.e,[93,59]]
 else if (s.k==7)=true then [s.y,[91],exT s.e,[93,32,61,32],exT s.f,[59]]
 else if (s.k==8)=true then [tgtT s.x,s.y,[40],jnT (s.ar.map argX),[41,59]]
 else if (s.k==9)=true then [[114,101,116,117,114,110,32],exT s.e,[59]]
 else if (s.k==12)=true then [[97,115,115,101,114,116,32,40],coT s.cd,[41,59]]
 else if (s.k==10)=true then [[105,102,32,40],coT s.cd,[41,32,123]]
 else [[119,104,105,108,101,32,40],coT s.cd,[41,32,123]]
def tbs (d:Nat):List UInt8:=List.replicate d 9
def lnO (d:Nat) (t:List UInt8) (n:Int):Ln:=⟨tbs d++t,n⟩
mutual
def lnS (d:Nat):Sm→List Ln
 | .mk k x y e f c ar th el no=>lnO d (hdL (.mk k x y e f c ar th el no)).flatten no::
  (if (k==10)=true then lnB (d+1) th++((if el.isEmpty=true then [] else lnO d [125,32,101,108,115,101,32,123] (-1)::lnB (d+1) el)++[lnO d [125] (-1)])
   else if (k==11)=true then lnB (d+1) th++[lnO d [125] (-1)] else [])
def lnB (d:Nat):List Sm→List Ln
 |[]=>[]
 |s::l=>lnS d s++lnB d l
end
def vrT (v:Vr):List UInt8:=if v.p=true then [42]++v.s else v.s
def locT (v:Vr):List UInt8:=[9]++(if v.p=true then [112,116,114,32] else [118,97,114,32])++v.s++[59]
def lnF (f:Fn):List Ln:=⟨[[102,110,32],f.name,[40],jnT (f.ps.map vrT),[41,32,123]].flatten,-1⟩::(f.ls.map (fun v=>⟨locT v,-1⟩)++(lnB 1 f.body++[⟨[125],-1⟩]))
def lnX (l:List Ln):List UInt8:=l.flatMap fun x=>x.t++[10]
theorem lnX_nil:lnX []=[]:=rfl
theorem lnX_cons (x:Ln) (l:List Ln):lnX (x::l)=(x.t++[10])++lnX l:=rfl
theorem lnX_app (l m:List Ln):lnX (l++m)=lnX l++lnX m:=by simp[lnX]
def fnT (f:Fn):List UInt8:=lnX (lnF f)
theorem lnB_nil (d:Nat):lnB d []=[]:=by simp[lnB]
theorem lnB_cons (d:Nat) (s:Sm) (l:List Sm):lnB d (s::l)=lnS d s++lnB d l:=by simp[lnB]
theorem lnB_snoc (d:Nat):∀(l:List Sm) (s:Sm),lnB d (l++[s])=lnB d l++lnS d s
 |[],s=>by simp[lnB]
 |a::l,s=>by rw[List.cons_append,lnB_cons,lnB_snoc d l s,lnB_cons,List.append_assoc]
theorem lnS_eq (d:Nat) (s:Sm):lnS d s=lnO d (hdL s).flatten s.no::
  (if (s.k==10)=true then lnB (d+1) s.th++((if s.el.isEmpty=true then [] else lnO d [125,32,101,108,115,101,32,123] (-1)::lnB (d+1) s.el)++[lnO d [125] (-1)])
   else if (s.k==11)=true then lnB (d+1) s.th++[lnO d [125] (-1)] else []):=by
 cases s;simp only[lnS];rfl
structure PrS (n:Nat) (s:Sm):Prop where
 ok:OkS n s
 k0:0≤s.k
 k1:s.k≤12
 e:okN s.e
 f:okN s.f
 c:okCn s.cd
 a:∀a∈s.ar,okN a.e
def okPr (n:Nat):Nat→List Sm→Prop
 |0,_=>False
 |m+1,l=>l.length≤5000∧∀s∈l,PrS n s∧okPr n m s.th∧okPr n m s.el
theorem lnX_len_app (l m:List Ln):(lnX (l++m)).length=(lnX l).length+(lnX m).length:=by rw[lnX_app,List.length_append]
theorem kd13 {k:Int} (h0:0≤k) (h1:k≤12):k=0∨k=1∨k=2∨k=3∨k=4∨k=5∨k=6∨k=7∨k=8∨k=9∨k=10∨k=11∨k=12:=by omega
theorem hdk0 (x y:List UInt8) (e f:Ex) (c:Cd) (ar:List Ar) (th el:List Sm) (no:Int):hdL (.mk 0 x y e f c ar th el no)=[x,[32,61,32],exT e,[59]]:=by simp only[hdL,Sm.k,Sm.x,Sm.y,Sm.e,Sm.f,Sm.cd,Sm.ar,Int.reduceBEq,if_true,if_false,Bool.false_eq_true]
theorem hdk1 (x y:List UInt8) (e f:Ex) (c:Cd) (ar:List Ar) (th el:List Sm) (no:Int):hdL (.mk 1 x y e f c ar th el no)=[x,[32,61,32,38],y,[59]]:=by simp only[hdL,Sm.k,Sm.x,Sm.y,Sm.e,Sm.f,Sm.cd,Sm.ar,Int.reduceBEq,if_true,if_false,Bool.false_eq_true]
theorem hdk2 (x y:List UInt8) (e f:Ex) (c:Cd) (ar:List Ar) (th el:List Sm) (no:Int):hdL (.mk 2 x y e f c ar th el no)=[x,[32,61,32],y,[59]]:=by simp only[hdL,Sm.k,Sm.x,Sm.y,Sm.e,Sm.f,Sm.cd,Sm.ar,Int.reduceBEq,if_true,if_false,Bool.false_eq_true]
theorem hdk3 (x y:List UInt8) (e f:Ex) (c:Cd) (ar:List Ar) (th el:List Sm) (no:Int):hdL (.mk 3 x y e f c ar th el no)=[x,[32,61,32,110,117,108,108,59]]:=by simp only[hdL,Sm.k,Sm.x,Sm.y,Sm.e,Sm.f,Sm.cd,Sm.ar,Int.reduceBEq,if_true,if_false,Bool.false_eq_true]
theorem hdk4 (x y:List UInt8) (e f:Ex) (c:Cd) (ar:List Ar) (th el:List Sm) (no:Int):hdL (.mk 4 x y e f c ar th el no)=[x,[32,61,32,42],y,[59]]:=by simp only[hdL,Sm.k,Sm.x,Sm.y,Sm.e,Sm.f,Sm.cd,Sm.ar,Int.reduceBEq,if_true,if_false,Bool.false_eq_true]
theorem hdk5 (x y:List UInt8) (e f:Ex) (c:Cd) (ar:List Ar) (th el:List Sm) (no:Int):hdL (.mk 5 x y e f c ar th el no)=[[42],x,[32,61,32],exT e,[59]]:=by simp only[hdL,Sm.k,Sm.x,Sm.y,Sm.e,Sm.f,Sm.cd,Sm.ar,Int.reduceBEq,if_true,if_false,Bool.false_eq_true]
theorem hdk6 (x y:List UInt8) (e f:Ex) (c:Cd) (ar:List Ar) (th el:List Sm) (no:Int):hdL (.mk 6 x y e f c ar th el no)=[x,[32,61,32],y,[91],exT e,[93,59]]:=by simp only[hdL,Sm.k,Sm.x,Sm.y,Sm.e,Sm.f,Sm.cd,Sm.ar,Int.reduceBEq,if_true,if_false,Bool.false_eq_true]
theorem hdk7 (x y:List UInt8) (e f:Ex) (c:Cd) (ar:List Ar) (th el:List Sm) (no:Int):hdL (.mk 7 x y e f c ar th el no)=[y,[91],exT e,[93,32,61,32],exT f,[59]]:=by simp only[hdL,Sm.k,Sm.x,Sm.y,Sm.e,Sm.f,Sm.cd,Sm.ar,Int.reduceBEq,if_true,if_false,Bool.false_eq_true]
theorem hdk8 (x y:List UInt8) (e f:Ex) (c:Cd) (ar:List Ar) (th el:List Sm) (no:Int):hdL (.mk 8 x y e f c ar th el no)=[tgtT x,y,[40],jnT (ar.map argX),[41,59]]:=by simp only[hdL,Sm.k,Sm.x,Sm.y,Sm.e,Sm.f,Sm.cd,Sm.ar,Int.reduceBEq,if_true,if_false,Bool.false_eq_true]
theorem hdk9 (x y:List UInt8) (e f:Ex) (c:Cd) (ar:List Ar) (th el:List Sm) (no:Int):hdL (.mk 9 x y e f c ar th el no)=[[114,101,116,117,114,110,32],exT e,[59]]:=by simp only[hdL,Sm.k,Sm.x,Sm.y,Sm.e,Sm.f,Sm.cd,Sm.ar,Int.reduceBEq,if_true,if_false,Bool.false_eq_true]
theorem hdk10 (x y:List UInt8) (e f:Ex) (c:Cd) (ar:List Ar) (th el:List Sm) (no:Int):hdL (.mk 10 x y e f c ar th el no)=[[105,102,32,40],coT c,[41,32,123]]:=by simp only[hdL,Sm.k,Sm.x,Sm.y,Sm.e,Sm.f,Sm.cd,Sm.ar,Int.reduceBEq,if_true,if_false,Bool.false_eq_true]
theorem hdk11 (x y:List UInt8) (e f:Ex) (c:Cd) (ar:List Ar) (th el:List Sm) (no:Int):hdL (.mk 11 x y e f c ar th el no)=[[119,104,105,108,101,32,40],coT c,[41,32,123]]:=by simp only[hdL,Sm.k,Sm.x,Sm.y,Sm.e,Sm.f,Sm.cd,Sm.ar,Int.reduceBEq,if_true,if_false,Bool.false_eq_true]
theorem hdk12 (x y:List UInt8) (e f:Ex) (c:Cd) (ar:List Ar) (th el:List Sm) (no:Int):hdL (.mk 12 x y e f c ar th el no)=[[97,115,115,101,114,116,32,40],coT c,[41,59]]:=by simp only[hdL,Sm.k,Sm.x,Sm.y,Sm.e,Sm.f,Sm.cd,Sm.ar,Int.reduceBEq,if_true,if_false,Bool.false_eq_true]
end Go.Proofs.YtbiepiggmagfcaaDoor
