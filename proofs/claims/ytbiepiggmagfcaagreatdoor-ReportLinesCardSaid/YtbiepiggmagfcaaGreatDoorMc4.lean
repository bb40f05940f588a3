/- The maker's functions are read as what they say. No conditions but those in each statement. -/
import Derived.Test.YtbiepiggmagfcaaGreatDoorMc2
import Derived.Test.YtbiepiggmagfcaaGreatDoorRq2
import Derived.Test.YtbiepiggmagfcaaGreatDoorSy28
set_option linter.unusedVariables false
set_option linter.unusedSimpArgs false
open List (length_append length_cons length_nil cons_append)
namespace Go.Proofs.YtbiepiggmagfcaaGreatDoor
open Go Go.Sy Go.RowKit
theorem A28:Lw [102,110,32,102,40,120,41,32,123,32,118,97,114,32,97,59,32,118,97,114,32,98,59,32,112,116,114,32,113,59,32] [(0,[102,110]),(0,[102]),(2,[40]),(0,[120]),(2,[41]),(2,[123]),(0,[118,97,114]),(0,[97]),(2,[59]),(0,[118,97,114]),(0,[98]),(2,[59]),(0,[112,116,114]),(0,[113]),(2,[59])]:=Lp.of (n:=24) (fun i=>[⟨0,[102,110],((i+0:Nat):Int)⟩,⟨0,[102],((i+3:Nat):Int)⟩,⟨2,[40],((i+4:Nat):Int)⟩,⟨0,[120],((i+5:Nat):Int)⟩,⟨2,[41],((i+6:Nat):Int)⟩,⟨2,[123],((i+8:Nat):Int)⟩,⟨0,[118,97,114],((i+10:Nat):Int)⟩,⟨0,[97],((i+14:Nat):Int)⟩,⟨2,[59],((i+15:Nat):Int)⟩,⟨0,[118,97,114],((i+17:Nat):Int)⟩,⟨0,[98],((i+21:Nat):Int)⟩,⟨2,[59],((i+22:Nat):Int)⟩,⟨0,[112,116,114],((i+24:Nat):Int)⟩,⟨0,[113],((i+28:Nat):Int)⟩,⟨2,[59],((i+29:Nat):Int)⟩]) (by decide) (fun _=>rfl) (fun f i r out=>by kernel_rfl)
theorem A29:Lw [102,110,32,103,40,120,44,32,121,41,32,123,32,118,97,114,32,97,59,32,118,97,114,32,98,59,32,112,116,114,32,113,59,32] [(0,[102,110]),(0,[103]),(2,[40]),(0,[120]),(2,[44]),(0,[121]),(2,[41]),(2,[123]),(0,[118,97,114]),(0,[97]),(2,[59]),(0,[118,97,114]),(0,[98]),(2,[59]),(0,[112,116,114]),(0,[113]),(2,[59])]:=Lp.of (n:=27) (fun i=>[⟨0,[102,110],((i+0:Nat):Int)⟩,⟨0,[103],((i+3:Nat):Int)⟩,⟨2,[40],((i+4:Nat):Int)⟩,⟨0,[120],((i+5:Nat):Int)⟩,⟨2,[44],((i+6:Nat):Int)⟩,⟨0,[121],((i+8:Nat):Int)⟩,⟨2,[41],((i+9:Nat):Int)⟩,⟨2,[123],((i+11:Nat):Int)⟩,⟨0,[118,97,114],((i+13:Nat):Int)⟩,⟨0,[97],((i+17:Nat):Int)⟩,⟨2,[59],((i+18:Nat):Int)⟩,⟨0,[118,97,114],((i+20:Nat):Int)⟩,⟨0,[98],((i+24:Nat):Int)⟩,⟨2,[59],((i+25:Nat):Int)⟩,⟨0,[112,116,114],((i+27:Nat):Int)⟩,⟨0,[113],((i+31:Nat):Int)⟩,⟨2,[59],((i+32:Nat):Int)⟩]) (by decide) (fun _=>rfl) (fun f i r out=>by kernel_rfl)
theorem A2A:Lw [102,110,32,104,40,42,112,41,32,123,32,118,97,114,32,97,59,32,118,97,114,32,98,59,32,118,97,114,32,120,59,32,112,116,114,32,113,59,32] [(0,[102,110]),(0,[104]),(2,[40]),(2,[42]),(0,[112]),(2,[41]),(2,[123]),(0,[118,97,114]),(0,[97]),(2,[59]),(0,[118,97,114]),(0,[98]),(2,[59]),(0,[118,97,114]),(0,[120]),(2,[59]),(0,[112,116,114]),(0,[113]),(2,[59])]:=Lp.of (n:=30) (fun i=>[⟨0,[102,110],((i+0:Nat):Int)⟩,⟨0,[104],((i+3:Nat):Int)⟩,⟨2,[40],((i+4:Nat):Int)⟩,⟨2,[42],((i+5:Nat):Int)⟩,⟨0,[112],((i+6:Nat):Int)⟩,⟨2,[41],((i+7:Nat):Int)⟩,⟨2,[123],((i+9:Nat):Int)⟩,⟨0,[118,97,114],((i+11:Nat):Int)⟩,⟨0,[97],((i+15:Nat):Int)⟩,⟨2,[59],((i+16:Nat):Int)⟩,⟨0,[118,97,114],((i+18:Nat):Int)⟩,⟨0,[98],((i+22:Nat):Int)⟩,⟨2,[59],((i+23:Nat):Int)⟩,⟨0,[118,97,114],((i+25:Nat):Int)⟩,⟨0,[120],((i+29:Nat):Int)⟩,⟨2,[59],((i+30:Nat):Int)⟩,⟨0,[112,116,114],((i+32:Nat):Int)⟩,⟨0,[113],((i+36:Nat):Int)⟩,⟨2,[59],((i+37:Nat):Int)⟩]) (by decide) (fun _=>rfl) (fun f i r out=>by kernel_rfl)
theorem A2B:Lw [102,110,32,107,40,120,44,32,42,112,41,32,123,32,118,97,114,32,97,59,32,118,97,114,32,98,59,32,112,116,114,32,113,59,32] [(0,[102,110]),(0,[107]),(2,[40]),(0,[120]),(2,[44]),(2,[42]),(0,[112]),(2,[41]),(2,[123]),(0,[118,97,114]),(0,[97]),(2,[59]),(0,[118,97,114]),(0,[98]),(2,[59]),(0,[112,116,114]),(0,[113]),(2,[59])]:=Lp.of (n:=28) (fun i=>[⟨0,[102,110],((i+0:Nat):Int)⟩,⟨0,[107],((i+3:Nat):Int)⟩,⟨2,[40],((i+4:Nat):Int)⟩,⟨0,[120],((i+5:Nat):Int)⟩,⟨2,[44],((i+6:Nat):Int)⟩,⟨2,[42],((i+8:Nat):Int)⟩,⟨0,[112],((i+9:Nat):Int)⟩,⟨2,[41],((i+10:Nat):Int)⟩,⟨2,[123],((i+12:Nat):Int)⟩,⟨0,[118,97,114],((i+14:Nat):Int)⟩,⟨0,[97],((i+18:Nat):Int)⟩,⟨2,[59],((i+19:Nat):Int)⟩,⟨0,[118,97,114],((i+21:Nat):Int)⟩,⟨0,[98],((i+25:Nat):Int)⟩,⟨2,[59],((i+26:Nat):Int)⟩,⟨0,[112,116,114],((i+28:Nat):Int)⟩,⟨0,[113],((i+32:Nat):Int)⟩,⟨2,[59],((i+33:Nat):Int)⟩]) (by decide) (fun _=>rfl) (fun f i r out=>by kernel_rfl)
def vI (s:List UInt8):Vr:=⟨s,false⟩
def vP (s:List UInt8):Vr:=⟨s,true⟩
def hdC (s:Int):List UInt8×List Vr×List Vr:=
 if s.tmod 4=0 then ([102],[vI [120]],[vI [97],vI [98],vP [113]])
 else if s.tmod 4=1 then ([103],[vI [120],vI [121]],[vI [97],vI [98],vP [113]])
 else if s.tmod 4=2 then ([104],[vP [112]],[vI [97],vI [98],vI [120],vP [113]])
 else ([107],[vI [120],vP [112]],[vI [97],vI [98],vP [113]])
theorem A7c {s:Int} (hs:0≤s):Lw (txH s) ((0,tFn)::(0,(hdC s).1)::kO 40::(psK (hdC s).2.1++kO 123::lsK (hdC s).2.2))∧nmQ (hdC s).1∧(∀v∈(hdC s).2.1,nmQ v.s)∧(∀v∈(hdC s).2.2,nmQ v.s)∧(hdC s).2.1.length≤2∧(hdC s).2.2.length≤4:=by
 have h4:=bP hs
 have h5:s.tmod 4=0∨s.tmod 4=1∨s.tmod 4=2∨s.tmod 4=3:=by omega
 have a:=(nmQ.of:nmQ [97])
 have b:=(nmQ.of:nmQ [98])
 have x:=(nmQ.of:nmQ [120])
 have y:=(nmQ.of:nmQ [121])
 have p:=(nmQ.of:nmQ [112])
 have q:=(nmQ.of:nmQ [113])
 unfold txH hdS hdC
 rcases h5 with e|e|e|e<;>rw[e]
 ·refine⟨A28,(nmQ.of:nmQ [102]),?_,?_,by decide,by decide⟩
  ·intro v hv
   simp only[if_true,List.mem_singleton]at hv
   subst hv;exact x
  ·intro v hv
   simp only[if_true,List.mem_cons,List.not_mem_nil,or_false]at hv
   rcases hv with rfl|rfl|rfl
   ·exact a
   ·exact b
   ·exact q
 ·refine⟨A29,(nmQ.of:nmQ [103]),?_,?_,by decide,by decide⟩
  ·intro v hv
   have hv:v∈[vI [120],vI [121]]:=hv
   simp only[List.mem_cons,List.not_mem_nil,or_false]at hv
   rcases hv with rfl|rfl
   ·exact x
   ·exact y
  ·intro v hv
   have hv:v∈[vI [97],vI [98],vP [113]]:=hv
   simp only[List.mem_cons,List.not_mem_nil,or_false]at hv
   rcases hv with rfl|rfl|rfl
   ·exact a
   ·exact b
   ·exact q
 ·refine⟨A2A,(nmQ.of:nmQ [104]),?_,?_,by decide,by decide⟩
  ·intro v hv
   have hv:v∈[vP [112]]:=hv
   rw[List.mem_singleton.1 hv];exact p
  ·intro v hv
   have hv:v∈[vI [97],vI [98],vI [120],vP [113]]:=hv
   simp only[List.mem_cons,List.not_mem_nil,or_false]at hv
   rcases hv with rfl|rfl|rfl|rfl
   ·exact a
   ·exact b
   ·exact x
   ·exact q
 ·refine⟨A2B,(nmQ.of:nmQ [107]),?_,?_,by decide,by decide⟩
  ·intro v hv
   have hv:v∈[vI [120],vP [112]]:=hv
   simp only[List.mem_cons,List.not_mem_nil,or_false]at hv
   rcases hv with rfl|rfl
   ·exact x
   ·exact p
  ·intro v hv
   have hv:v∈[vI [97],vI [98],vP [113]]:=hv
   simp only[List.mem_cons,List.not_mem_nil,or_false]at hv
   rcases hv with rfl|rfl|rfl
   ·exact a
   ·exact b
   ·exact q
theorem Z3:∀l m:List Cs,tkB (l++m)=tkB l++tkB m
 |[],m=>rfl
 |s::l,m=>by rw[cons_append,tkB,Z3 l m,tkB,List.append_assoc]
theorem Z4:∀l m:List Cs,wfB l→wfB m→wfB (l++m)
 |[],m,_,h=>h
 |s::l,m,h,k=>⟨h.1,Z4 l m h.2 k⟩
theorem Ty:∀l m:List Cs,dpB (l++m)=max (dpB l) (dpB m)
 |[],m=>by simp[dpB]
 |s::l,m=>by rw[cons_append,dpB,Ty l m,dpB];omega
theorem Tz:∀l m:List Cs,ctB (l++m)=ctB l+ctB m
 |[],m=>by simp[ctB]
 |s::l,m=>by rw[cons_append,ctB,Tz l m,ctB];omega
structure mkQ (t:List UInt8) (f:Cf):Prop where
 ok:f.ok
 z:Lw t f.tk
 l:t.length≤4096
 d:dpB f.body≤5
 c:ctB f.body≤42
 nl:f.name.length≤1
 pl:∀v∈f.ps,v.s.length≤1
 vl:∀v∈f.ls,v.s.length≤1
theorem A2C {n:Int} (h : -16≤n):ph 25-ph n≤2948:=by
 have:ph 25=2500:=rfl
 unfold ph at*
 split<;>omega
theorem A7d {s:Int} (hs:0≤s) {b:List Int} (hb:okY b):∃f,mkQ (txT s b) f∧f.name=(hdC s).1:=by
 obtain⟨z0,q1,q2,q3,q4,q5⟩:=A7c hs
 have hk0:okK (m0 b):=hb.2
 have hk1:okK (nxM (m0 b)):=hb.2
 have hj:=nxK hk0 (j:=6) (by decide)
 obtain⟨t,l,e1,a⟩:=jT (fun m=>st_q 2 (Nat.le_refl _) s m) (1+nxV 6 (m0 b)).toNat (txH s) (nxM (m0 b)) hk1 (by show _≤(25:Int);omega) (by show (25:Int)≤25;omega) (by omega)
 have hn:(nxM (m0 b)).n=25:=rfl
 have x2:=a.x2
 have ln:=a.ln
 have x0:xk 2=11:=rfl
 rw[hn]at x2 ln
 have hc:ctB l≤41:=by rcases x2 (by decide) with h|h<;>omega
 have hl:=A2C (n:=25-(ctB l:Int)) (by omega)
 have hH:=U3 s
 have e2:(txB s b).1=txH s++t:=e1
 have hkB:okK (txB s b).2:=by unfold okK;show ∀x∈(blkL _ _ _ _).2.b,_;rw[a.b];exact hb.2
 have key:∀(f:Cf) (u:List UInt8) (us:List Cs),f.name=(hdC s).1→f.ps=(hdC s).2.1→f.ls=(hdC s).2.2→f.body=l++us→wfB us→dpB us≤3→ctB us≤1→Lw u (tkB us)→u.length≤30→mkQ (((txH s++t)++u)++[125]) f:=by
  intro f u us f1 f2 f3 f4 w d c z lu
  refine⟨⟨by rw[f1];exact q1.o,by rw[f2];exact fun v hv=>(q2 v hv).o,by rw[f3];exact fun v hv=>(q3 v hv).o,by rw[f2];omega,by rw[f3];omega,by rw[f4];exact Z4 _ _ a.w w,?_,?_⟩,?_,?_,?_,?_,by rw[f1];exact q1.l,by rw[f2];exact fun v hv=>(q2 v hv).l,by rw[f3];exact fun v hv=>(q3 v hv).l⟩
  ·rw[f4,Ty];have:=a.d;omega
  ·rw[f4,Tz];omega
  ·refine((((z0.wapp a.z).wapp z).wapp (Bs 125))).cast rfl ?_
   unfold Cf.tk
   rw[f1,f2,f3,f4,Z3];simp
  ·simp only[jL3];omega
  ·rw[f4,Ty];have:=a.d;omega
  ·rw[f4,Tz];omega
 unfold txT
 rw[e2]
 by_cases c0:(nxV 2 (txB s b).2==0)=true
 ·rw[if_pos c0]
  obtain⟨i,_⟩:=LP ((Ak (txB s b).2).ok hkB)
  refine⟨⟨(hdC s).1,(hdC s).2.1,(hdC s).2.2,l++[.ret (.var (A6 (nxM (txB s b).2)).1)]⟩,?_,rfl⟩
  have:=key ⟨(hdC s).1,(hdC s).2.1,(hdC s).2.2,l++[.ret (.var (A6 (nxM (txB s b).2)).1)]⟩ (([114,101,116,117,114,110,32]++(A6 (nxM (txB s b).2)).1)++[59,32]) [.ret (.var (A6 (nxM (txB s b).2)).1)] rfl rfl rfl rfl ⟨⟨i.o.1,i.o.2⟩,trivial⟩ (by simp[dpB,Cs.dp,Cx.dp]) (by simp[ctB,Cs.ct]) (((W9.wapp i.z).app JY (Ac _ _)).cast rfl (by simp[tkB,Cs.tk,Cx.tk])) (by have:=i.l;simp only[jL3];omega)
  simpa using this
 ·rw[if_neg c0]
  refine⟨⟨(hdC s).1,(hdC s).2.1,(hdC s).2.2,l⟩,?_,rfl⟩
  have:=key ⟨(hdC s).1,(hdC s).2.1,(hdC s).2.2,l⟩ [] [] rfl rfl rfl (by simp) trivial (Nat.zero_le _) (Nat.zero_le _) Lp.nil (Nat.zero_le _)
  simpa using this
theorem eg {s:Int} (hs:0≤s) {b:List Int} (hb:okY b):∃f,mkQ (txT s b) f∧funF (txT s b)=(f.v,0,0)∧f.name=(hdC s).1∧f.tk.length≤4096∧∀t∈f.tk,t.2.length≤4096:=by
 obtain⟨f,a,n⟩:=A7d hs hb
 obtain⟨T,e1,e2⟩:=TR a.z a.l
 have h:=Sg (txT s b)
 rw[e1]at h
 refine⟨f,a,eJ a.ok e1 e2,n,by rw[← e2,List.length_map];exact h.1,fun t ht=>?_⟩
 rw[← e2]at ht
 obtain⟨x,hx,rfl⟩:=List.mem_map.1 ht
 exact h.2 x hx
end Go.Proofs.YtbiepiggmagfcaaGreatDoor
namespace Go.Proofs.YtbiepiggmagfcaaGreatDoor
open Go Go.Sy Go.RowKit
theorem A2D {ts:List Kt} (h:∀t∈ts,t.2.length≤4096):wT ts≤ts.length*4296:=by
 induction ts with
 |nil=>exact Nat.zero_le _
 |cons t l ih=>
  have:=ih fun x hx=>h x (List.mem_cons_of_mem _ hx)
  have:=h t (by simp)
  rw[B6,length_cons,Nat.succ_mul];omega
structure RqF (f:Fn):Prop where
 p:Cp 5000 8 f.body
 r:ER 8 f.body
 pl:f.ps.length≤5000
 ll:f.ls.length≤5000
 l:(fnT f).length≤100000000
theorem om {l:List (List UInt8)} {c:Nat} (h:∀x∈l,x.length≤c):Lib.lens l≤c*l.length:=by
 induction l with
 |nil=>exact Nat.zero_le _
 |cons a l ih=>
  have:=ih fun x hx=>h x (List.mem_cons_of_mem _ hx)
  have:=h a (by simp)
  simp only[Lib.lens,List.map_cons,List.sum_cons,length_cons,Nat.mul_succ]at *;omega
theorem A2E {l:List Vr} (h:∀v∈l,v.s.length≤1):(lnX (lcL l)).length≤8*l.length:=by
 induction l with
 |nil=>exact Nat.zero_le _
 |cons a l ih=>
  have:=ih fun x hx=>h x (List.mem_cons_of_mem _ hx)
  have:=h a (by simp)
  have e:(locT a).length=a.s.length+6:=by
   obtain⟨s,p⟩:=a
   cases p<;>simp[locT]<;>omega
  show (lnX (⟨locT a,-1⟩::lcL l)).length≤_
  rw[EA,length_append,length_append,e,length_cons]
  simp only[length_cons,length_nil];omega
theorem bM {t:List UInt8} {f:Cf} (h:mkQ t f) (h1:f.tk.length≤4096) (h2:∀t∈f.tk,t.2.length≤4096):RqF f.v:=by
 have h3:(tkB f.body).length≤f.tk.length∧∀t∈tkB f.body,t∈f.tk:=by
  unfold Cf.tk
  refine⟨by simp only[length_cons,length_append];omega,fun t ht=>by simp[ht]⟩
 have hd:=h.d
 have a:=UZ f.body 5000 8 1 0 h.ok.w (by omega) (by omega) (by omega) (by omega)
 have w:=A2D (ts:=tkB f.body) fun t ht=>h2 t (h3.2 t ht)
 have w2:(tkB f.body).length*4296≤4096*4296:=Nat.mul_le_mul_right _ (by omega)
 have al:=a.l
 have hp:=h.ok.pl
 have hl:=h.ok.ll
 refine⟨a.p,a.r,by show f.ps.length≤_;omega,by show f.ls.length≤_;omega,?_⟩
 rw[NY]
 have e1:=A2E h.vl
 have e2:=iA (f.ps.map vrT)
 have e3:Lib.lens (f.ps.map vrT)≤2*(f.ps.map vrT).length:=om fun x hx=>by
  obtain⟨v,hv,rfl⟩:=List.mem_map.1 hx
  have:=h.pl v hv
  unfold vrT
  split
  ·simp only[jL3];omega
  ·omega
 rw[List.length_map]at e2 e3
 have e4:=h.nl
 have e5:=As 0 (fnH f.v)
 have e6:(fnH f.v).flatten.length=3+(f.name.length+(1+((jnT (f.ps.map vrT)).length+3))):=by
  show [_,f.name,_,jnT (f.ps.map vrT),_].flatten.length=_
  simp only[List.flatten_cons,List.flatten_nil,jL3]
 have e7:=As 0 [([125]:List UInt8)]
 show (BL 0 (fnH f.v)++(lnX (lcL f.ls)++(lnX (lnB 1 (vB 0 f.body))++BL 0 [[125]]))).length≤_
 simp only[length_append,List.flatten_cons,List.flatten_nil,length_cons,length_nil]at e5 e7 ⊢
 omega
end Go.Proofs.YtbiepiggmagfcaaGreatDoor
namespace Go.Sy
open Go Go.RowKit
section
variable {P:Program} {X:Ctx} {w0:World} {n:Nat}
theorem jU {c:Code} {s:St} {Q Q':Exit→St→Prop} (h:Tri (P:=P) X w0 n c s Q) (hq:∀e s,Q e s→Q' e s):Tri (P:=P) X w0 n c s Q':=by
 intro a w hs
 refine Code.wp_mono ?_ (h a w hs)
 rintro e a' w' ⟨s',h1,h2⟩
 exact⟨s',hq e s' h1,h2⟩
theorem Z5 {a b:Code} {s:St} {Q:Exit→St→Prop} (h:Tri (P:=P) X w0 n a s (Kl (fun s'=>Tri (P:=P) X w0 n b s' Q) Q)):Tri (P:=P) X w0 n (.seq a b) s Q:=by
 intro act w hs
 refine wp_seq ?_
 refine Code.wp_mono ?_ (h act w hs)
 rintro e a' w' ⟨s',hq,hs'⟩
 cases e with
 |normal=>exact hq a' w' hs'
 |_=>exact⟨s',hq,hs'⟩
theorem w7 {c:Code} {s t:St} {Q:Exit→St→Prop} (h:Tri (P:=P) X w0 n c t Q) (hs:To X s t):Tri (P:=P) X w0 n c s Q:=fun a w hh=>h a w (hs w0 n a w hh)
theorem QH {Y:Type} {a b:Code} {s:St} {Q:Exit→St→Prop} (J:Y→Prop) (S:Y→St) (sp:List (Spec P X w0)) (g:Gh) (h1:vc X w0 sp n g a s (Kl (fun s'=>∃y,J y∧To X s' (S y)) Q)) (h2:∀y,J y→Tri (P:=P) X w0 n b (S y) Q):Tri (P:=P) X w0 n (.seq a b) s Q:=by
 refine Z5 (jU (Ab sp g a s _ h1) ?_)
 intro e s' hq
 cases e with
 |normal=>obtain⟨y,hy,hto⟩:=hq;exact w7 (h2 y hy) hto
 |_=>exact hq
theorem E6 {a b:Code} {s:St} {Q:Exit→St→Prop} (sp:List (Spec P X w0)) (g:Gh) (h1:vc X w0 sp n g a s (Kl (fun s'=>Tri (P:=P) X w0 n b s' Q) Q)):Tri (P:=P) X w0 n (.seq a b) s Q:=Z5 (Ab sp g a s _ h1)
end
section
variable {P:Program}
theorem eh {f:FuncId} {fn:Func} {c:Code} (hf:P.funcs[f]?=some fn) (hb:fn.body=some c) (w:World) (fz:Nat→Prop) (args:List SV) (hnm:∀v∈args,v.names=[]) (hfz:∀b,fz b→b<w.heap.size)
  (xs:List Value) (hlen:xs.length=args.length) (hx:∀(j:Nat) (v:SV) (x:Value),args[j]?=some v→xs[j]?=some x→CD (hp w) fz v x) (R:SV→Prop)
  (hn:args.length≤fn.ntmps) (h:Tri (P:=P) (clX fz) w fn.ntmps c ⟨HE 0 args,[]⟩ (Mn P (clX fz) fn.results.toList (fun _ vs=>(DS vs).names=[]∧R (DS vs)))) :
  Calls P f xs.toArray w (GP w fz R):=by
 refine calls_of_wp hf hb (Code.wp_mono ?_ (h _ w ?_))
 ·rintro e a w' ⟨s,hq,hs⟩
  have fin:Q9 P (clX fz) fn.results.toList (fun _ vs=>(DS vs).names=[]∧R (DS vs)) s→a.defers=[]∧∃v,(results fn a.tmps).run P w'= .ok v w'∧GP w fz R (Ending.returned v) w':=by
   rintro ⟨cs,s',vs,h1,h2,h3,h4,h5⟩
   refine⟨hs.defers,?_⟩
   obtain⟨_,I,lab,fz',hA⟩:=Fz h1 a w' hs
   obtain⟨x,x1,x2⟩:=Ol hA h2 h3
   refine⟨x,x1,DS vs,x,fun b=>fz' b∨fz b,rfl,h5,h4,fun b hb=>.inr hb,fun b hb=>?_,fun b hb=>?_,DU (fun b hb=>⟨.inl hb,rfl⟩) h4 x2,hA.m.kept.below (fun _ _ hf=>hf)⟩
   ·rcases hb with hb|hb
    ·rcases hA.m.fzo b hb with h|h|h
     ·exact .inl h
     ·exact .inr h
     ·exact h.elim
    ·exact .inl hb
   ·rcases hb with hb|hb
    ·exact(hA.m.fzl b hb).1
    ·exact Nat.lt_of_lt_of_le (hfz b hb) hA.m.kept.size
  cases e with
  |normal=>exact fin hq
  |ret=>exact fin hq
  |_=>exact hq.elim
 ·have hE0:∀t g v,lkp (HE 0 args) t=some (g,v)→g=true∧args[t]?=some v:=by
   intro t g v ht
   rw[M7]at ht
   simp only[Nat.zero_le,if_true,Nat.sub_zero,Option.map_eq_some_iff,jP]at ht
   obtain⟨u,hu,rfl,rfl⟩:=ht
   exact⟨rfl,hu⟩
  refine⟨?_,nm0,fun _=>none,fz,?_,rfl,?_,⟨?_,?_,?_,fun b hb=>⟨hfz b hb,rfl⟩,fun b hb=>.inl hb,Kept.refl _ _,by intro p hp;cases hp⟩⟩
  ·intro t g v ht _
   have:=(hE0 t g v ht).2
   rw[hnm v (List.mem_of_getElem? this)]
   intro k hk;cases hk
  ·simp[hlen];omega
  ·intro t g v ht
   obtain⟨rfl,hv⟩:=hE0 t g v ht
   have hlt:t<args.length:=(List.getElem?_eq_some_iff.1 hv).1
   have hlt2:t<xs.length:=by omega
   refine⟨xs[t],?_,?_⟩
   ·rw[Array.getElem?_append_left (by simpa using hlt2)]
    simp[hlt2]
   ·simp only[if_true]
    exact DU (fun b hb=>⟨hb,rfl⟩) (hnm v (List.mem_of_getElem? hv)) (hx t v _ hv (List.getElem?_eq_getElem hlt2))
  ·intro k ch hk;simp[lkp]at hk
  ·intro k ch hk;simp[lkp]at hk
  ·intro b π hb;cases hb
theorem bN {f:FuncId} {fn:Func} {c:Code} (hf:P.funcs[f]?=some fn) (hb:fn.body=some c) (w:World) (fz:Nat→Prop) {A:Type} (ac:ArgC A) (F:A→SV) (a:A) (xs:List Value) (hfz:∀b,fz b→b<w.heap.size) (hl:xs.length=(ac.e a).length)
  (hx:∀(j:Nat) (v:SV) (x:Value),(ac.e a)[j]?=some v→xs[j]?=some x→CD (hp w) fz v x) (hn:(ac.e a).length≤fn.ntmps)
  (h:Tri (P:=P) (clX fz) w fn.ntmps c ⟨HE 0 (ac.e a),[]⟩ (Mn P (clX fz) fn.results.toList (dF (F a)))):Calls P f xs.toArray w (GP w fz (fun v=>v=F a)):=
 (eh hf hb w fz (ac.e a) (ac.n a) hfz xs hl hx (fun v=>leV v (F a)) hn h).mono fun _ _ h=>Rq h
end
end Go.Sy
