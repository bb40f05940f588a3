/- The document's lines of statements. Conditions: each node has its parts, the numbers are of 64 bits, the text is shorter than 10^9 bytes. -/
import Derived.Test.YtbiepiggmagfcaaGreatDoorPr3
import Derived.Test.YtbiepiggmagfcaaGreatDoorPs5
set_option linter.unusedVariables false
set_option linter.unusedSimpArgs false
namespace Go.Proofs.YtbiepiggmagfcaaGreatDoor
open Go Go.Sy Go.RowKit
def Ln.r (x:Ln):List D:=[dS x.t,dI x.n]
def Ln.c (x:Ln):List C:=[.v (.string (bs x.t)),.v (.int .i64 x.n)]
def zLn:List D:=[dS [],dI 0]
def zLc:List C:=[.v (.string (bs [])),.v (.int .i64 0)]
theorem zLn_ln:zLn.length=2:=rfl
theorem zLc_t:zT zLc=none:=rfl
theorem zLc_ln:zLc.length=2:=rfl
theorem zLc_ds:toDs zLc=some zLn:=rfl
theorem ln_map (l:List Ln):(l.map Ln.r).map (fun r=>r.map oD)=l.map Ln.c:=by rw[List.map_map];rfl
attribute [go_sem] zLc_t zLc_ln zLc_ds ln_map
theorem rowsLn:RowsD Ln.c Ln.r 2:=by
 refine⟨fun a c hc=>?_,fun a c hc=>?_,fun a=>rfl,fun a=>rfl⟩
 ·simp only[Ln.c,List.mem_cons,List.not_mem_nil,or_false]at hc;rcases hc with rfl|rfl<;>rfl
 ·simp only[Ln.c,List.mem_cons,List.not_mem_nil,or_false]at hc;rcases hc with rfl|rfl<;>rfl
def okRg:Nat→List Sm→Prop
 |0,_=>False
 |m+1,l=>∀s∈l,RgS s∧okRg m s.th∧okRg m s.el
theorem lnX_lens (l:List Ln):l.length≤(lnX l).length:=by
 induction l with
 |nil=>exact Nat.le_refl _
 |cons a l ih=>rw[lnX_cons,List.length_append,List.length_append,List.length_cons];simp only[List.length_cons,List.length_nil];omega
def lnR (l:List Ln):SV:=.one (.d (.sl zLn (l.map Ln.r)))
theorem lnO_c (d:Nat) (t:List UInt8) (n:Int):Ln.c (lnO d t n)=[.v (.string (bs (tbs d++t))),.v (.int .i64 n)]:=rfl
theorem lc_app (l m:List Ln):(l++m).map Ln.c=l.map Ln.c++m.map Ln.c:=List.map_append
theorem is_len (l:List Sm):decide ((0:Int)<((l.length:Nat):Int)) = !l.isEmpty:=by
 cases l with
 |nil=>rfl
 |cons a l=>rw[gt_len];rfl
theorem kd3 (k:Int):k=10∨k=11∨((k==10)=false∧(k==11)=false):=by simp only[beq_eq_false_iff_ne];omega
abbrev yc_rlines (n:Nat) (m:Nat) (l:List Sm) (d:Int):Prop:=0≤d∧d+m≤1000000∧okPr n m l∧okRg m l∧(lnX (lnB d.toNat l)).length≤1000000000
abbrev yr_rlines (n:Nat) (m:Nat) (l:List Sm) (d:Int):SV:=lnR (lnB d.toNat l)
noncomputable abbrev ya_rlines:ArgC ((List Sm)×(Int)×Unit):=(acS (cSs) (acS (cInt .i64) ac0))
abbrev yq_rlines (n:Nat) (m:Nat):Prop:=CallsY Tryz.prog 52 ya_rlines (fun p:(List Sm)×(Int)×Unit=>yc_rlines n m p.1 p.2.1) (fun p:(List Sm)×(Int)×Unit=>yr_rlines n m p.1 p.2.1)
theorem yn_rlines (n:Nat) (m:Nat):∀p:(List Sm)×(Int)×Unit,((fun p:(List Sm)×(Int)×Unit=>yr_rlines n m p.1 p.2.1) p).names=[]:=by intro p;rfl
noncomputable def yg_rlines {X:Ctx} {w0:World} (n:Nat) (m:Nat) (h:yq_rlines n m):Sy.Spec Tryz.prog X w0:=specD 52 Tryz.call52 ya_rlines (fun p:(List Sm)×(Int)×Unit=>yc_rlines n m p.1 p.2.1) (fun p:(List Sm)×(Int)×Unit=>yr_rlines n m p.1 p.2.1) (yn_rlines n m) h
attribute [local go_sem] Sm.ar Sm.c Sm.cd Sm.e Sm.el Sm.f Sm.k Sm.no Sm.th Sm.x Sm.y cSm_d cSm_e cSs_d cSs_e lnR pzSm_ln zLn_ln
set_option maxRecDepth 20000 in set_option maxHeartbeats 16000000 in
theorem y_rlinesS (n:Nat) (m:Nat) (hL:yq_rlines n m):yq_rlines n (m+1):=by
 rintro ⟨l,d,_u⟩ w fz xs hc hfz hl hx
 refine calls_toL Tryz.func52 rfl w fz [yp_rtabs,(yg_rHead n (y_rHead n)),(yg_rlines n m hL)] [] ya_rlines (fun p:(List Sm)×(Int)×Unit=>yr_rlines n (m+1) p.1 p.2.1) _ xs hfz hl hx (Nat.le_of_ble_eq_true rfl) ?_
 clear hx hl hfz xs
 simp only[Tryz.f52]
 obtain⟨h0,h1,⟨hl,hk⟩,hr,hlen⟩:=hc
 dsimp only at h0 h1 hl hk hr hlen
 obtain⟨j,rfl⟩:∃j:Nat,d=(j:Int):=⟨d.toNat,by omega⟩
 rw[Int.toNat_natCast]at hlen
 have w1:IntKind.i64.wrap ((j:Int)+1)=((j+1:Nat):Int):=by rw[wrap_i64 (by omega) (by omega)];rfl
 have q0:(0:Int)≤((j+1:Nat):Int):=by omega
 have q1:((j+1:Nat):Int)+m≤1000000:=by omega
 have q2:(j:Int)≤1000000:=by omega
 simp only[↓eB,seval,go_sem]
 refine loop_ok (Y:=Nat) (fun z=>z≤l.length)
  (fun z=>⟨[(0,true,.one (.d (.sl zSm (l.map Sm.r)))),(1,true,.one (.v (.int .i64 (j:Int)))),(5,true,.one (.s 1000)),(6,true,.one (.v (.int .i64 (z:Int))))],[(1000,.vec 0 zLc ((lnB j (l.take z)).map Ln.c))]⟩)
  (fun z=>l.length-z) 0 (Nat.zero_le _) ?_ ?_
 ·refine to_with [.nil 5 1000 zLc] ?_;simp only[↓eB,seval,go_sem,lnB_nil]
 ·rintro i hi
  refine vc_ok [yp_rtabs,yg_rHead n (y_rHead n),yg_rlines n m hL] [] _ _ _ ?_
  cases hx:l[i]? with
  |none=>
   have h2:=List.getElem?_eq_none_iff.1 hx
   have h3:=natI_ge h2
   have h4:l.take i=l:=List.take_of_length_le h2
   simp only[↓eB,seval,go_sem,h3,h4]
   try simp only[impB,impN]
   repeat' first|exact ck|with_reducible apply And.intro|intro _
   all_goals first|exact trivial|(rename_i h;first|exact oI h|exact nah h)|(rename_i _ h _ g;exact sL h g)|decide|omega|(refine ret_with [.fz 1000] ?_;simp only[↓eB,seval,go_sem,bne,yr_rlines,rowsLn.ds,rowsLn.fz])
  |some s=>
   have hlt:i<l.length:=(List.getElem?_eq_some_iff.1 hx).1
   have h2:=natI_lt hlt
   have h3:=natI_ltp hlt
   have h4:=natI_succ (n:=l.length) (Nat.le_of_lt hlt) (by omega)
   obtain⟨g1,g2,g3⟩:=hk s (List.mem_of_getElem? hx)
   obtain⟨r1,r2,r3⟩:=hr s (List.mem_of_getElem? hx)
   have hb:=lnB_len hx j
   have hc1:=lnX_lens (lnB j (l.take i))
   have hsn:lnB j (l.take (i+1))=lnB j (l.take i)++lnS j s:=by rw[List.take_add_one,hx,← lnB_snoc];rfl
   have hSe:=lnS_eq j s
   rw[hSe]at hsn hb
   obtain⟨k,x,y,e,f,c,ar,th,el,no⟩:=s
   have hd:=smD_at hx
   dsimp only[Sm.k,Sm.th,Sm.el,Sm.no]at hsn hb g2 g3 r2 r3
   have k0:=g1.k0
   have k1:=g1.k1
   dsimp only[Sm.k]at k0 k1
   have hS:PrS n (.mk k x y e f c ar th el no):=g1
   rcases kd3 k with rfl|rfl|⟨e10,e11⟩
   ·simp only[Int.reduceBEq,if_true,if_false,Bool.false_eq_true,lnX_cons,lnX_app,List.length_append]at hb
    simp only[Int.reduceBEq,if_true,if_false,Bool.false_eq_true]at hsn
    have b1:=lnX_lens (lnB (j+1) th)
    have b2:(lnX (lnB (j+1) th)).length≤1000000000:=by omega
    have b3:(hdL (.mk 10 x y e f c ar th el no)).flatten.length≤1000000000:=by
     have:(lnO j (hdL (.mk 10 x y e f c ar th el no)).flatten no).t=tbs j++(hdL (.mk 10 x y e f c ar th el no)).flatten:=rfl
     rw[this,List.length_append]at hb;omega
    have gl:=is_len el
    cases hE:el.isEmpty with
    |true=>
     rw[hE]at gl
     simp only[hE,if_true,List.nil_append]at hsn
     simp only[↓eB,seval,go_sem,yp_rtabs,yg_rHead,yg_rlines,w1,h2,h3,h4,hd,Int.reduceBEq,Int.reduceBNe,bne,gl]
     try simp only[impB,impN]
     repeat' first|exact ck|with_reducible apply And.intro|intro _
     all_goals try first|exact hlt|exact rfl|exact hS|exact r1|exact b3|exact h0|exact q0|exact q1|exact q2|exact g2|exact g3|exact r2|exact r3|exact b2|exact b5|(rename_i _ h _ g;exact rowsLn.stor _ h _ g)|(simp only[List.length_append,List.length_map,List.length_cons,List.length_nil,tbs_len]at *;omega)|(rename_i h;first|exact oI h|exact nah h)|(rename_i _ h _ g;exact sL h g)|decide|omega
     refine⟨i+1,hlt,by omega,to_trans (t:=⟨[(0,true,.one (.d (.sl zSm (l.map Sm.r)))),(1,true,.one (.v (.int .i64 (j:Int)))),(5,true,.one (.s 73)),(6,true,.one (.v (.int .i64 ((i+1:Nat):Int))))],[(73,.vec 0 zLc ((lnB j (l.take (i+1))).map Ln.c))]⟩) (to_with [] ?_) (to_with [.mv 73 1000] ?_)⟩
     ·simp only[↓eB,seval,go_sem,rowsLn.fn,List.map_append,List.flatMap_append,hsn,lc_app,lnO_c,List.append_assoc]
     ·simp only[↓eB,seval,go_sem,rowsLn.fn,List.map_append,List.flatMap_append,rowsLn.mv]
    |false=>
     rw[hE]at gl
     simp only[hE,Bool.false_eq_true,if_false,lnX_cons,lnX_app,List.length_append]at hsn hb
     have b4:=lnX_lens (lnB (j+1) el)
     have b5:(lnX (lnB (j+1) el)).length≤1000000000:=by omega
     simp only[↓eB,seval,go_sem,yp_rtabs,yg_rHead,yg_rlines,w1,h2,h3,h4,hd,Int.reduceBEq,Int.reduceBNe,bne,gl]
     try simp only[impB,impN]
     repeat' first|exact ck|with_reducible apply And.intro|intro _
     all_goals try first|exact hlt|exact rfl|exact hS|exact r1|exact b3|exact h0|exact q0|exact q1|exact q2|exact g2|exact g3|exact r2|exact r3|exact b2|exact b5|(rename_i _ h _ g;exact rowsLn.stor _ h _ g)|(simp only[List.length_append,List.length_map,List.length_cons,List.length_nil,tbs_len]at *;omega)|(rename_i h;first|exact oI h|exact nah h)|(rename_i _ h _ g;exact sL h g)|decide|omega
     refine⟨i+1,hlt,by omega,to_trans (t:=⟨[(0,true,.one (.d (.sl zSm (l.map Sm.r)))),(1,true,.one (.v (.int .i64 (j:Int)))),(5,true,.one (.s 73)),(6,true,.one (.v (.int .i64 ((i+1:Nat):Int))))],[(73,.vec 0 zLc ((lnB j (l.take (i+1))).map Ln.c))]⟩) (to_with [] ?_) (to_with [.mv 73 1000] ?_)⟩
     ·simp only[↓eB,seval,go_sem,rowsLn.fn,List.map_append,List.flatMap_append,hsn,lc_app,lnO_c,List.append_assoc]
     ·simp only[↓eB,seval,go_sem,rowsLn.fn,List.map_append,List.flatMap_append,rowsLn.mv]
   ·simp only[Int.reduceBEq,if_true,if_false,Bool.false_eq_true,lnX_cons,lnX_app,List.length_append]at hb
    simp only[Int.reduceBEq,if_true,if_false,Bool.false_eq_true]at hsn
    have b1:=lnX_lens (lnB (j+1) th)
    have b2:(lnX (lnB (j+1) th)).length≤1000000000:=by omega
    have b3:(hdL (.mk 11 x y e f c ar th el no)).flatten.length≤1000000000:=by
     have:(lnO j (hdL (.mk 11 x y e f c ar th el no)).flatten no).t=tbs j++(hdL (.mk 11 x y e f c ar th el no)).flatten:=rfl
     rw[this,List.length_append]at hb;omega
    simp only[↓eB,seval,go_sem,yp_rtabs,yg_rHead,yg_rlines,w1,h2,h3,h4,hd,Int.reduceBEq,Int.reduceBNe,bne]
    try simp only[impB,impN]
    repeat' first|exact ck|with_reducible apply And.intro|intro _
    all_goals try first|exact hlt|exact rfl|exact hS|exact r1|exact b3|exact h0|exact q0|exact q1|exact q2|exact g2|exact g3|exact r2|exact r3|exact b2|exact b5|(rename_i _ h _ g;exact rowsLn.stor _ h _ g)|(simp only[List.length_append,List.length_map,List.length_cons,List.length_nil,tbs_len]at *;omega)|(rename_i h;first|exact oI h|exact nah h)|(rename_i _ h _ g;exact sL h g)|decide|omega
    refine⟨i+1,hlt,by omega,to_trans (t:=⟨[(0,true,.one (.d (.sl zSm (l.map Sm.r)))),(1,true,.one (.v (.int .i64 (j:Int)))),(5,true,.one (.s 73)),(6,true,.one (.v (.int .i64 ((i+1:Nat):Int))))],[(73,.vec 0 zLc ((lnB j (l.take (i+1))).map Ln.c))]⟩) (to_with [] ?_) (to_with [.mv 73 1000] ?_)⟩
    ·simp only[↓eB,seval,go_sem,rowsLn.fn,List.map_append,List.flatMap_append,hsn,lc_app,lnO_c,List.append_assoc]
    ·simp only[↓eB,seval,go_sem,rowsLn.fn,List.map_append,List.flatMap_append,rowsLn.mv]
   ·simp only[e10,e11,if_false,Bool.false_eq_true]at hsn hb
    have b3:(hdL (.mk k x y e f c ar th el no)).flatten.length≤1000000000:=by
     simp only[lnX_cons,lnX_app,List.length_append]at hb
     have:(lnO j (hdL (.mk k x y e f c ar th el no)).flatten no).t=tbs j++(hdL (.mk k x y e f c ar th el no)).flatten:=rfl
     rw[this,List.length_append]at hb;omega
    simp only[↓eB,seval,go_sem,yp_rtabs,yg_rHead,yg_rlines,w1,h2,h3,h4,hd,e10,e11,bne]
    try simp only[impB,impN]
    repeat' first|exact ck|with_reducible apply And.intro|intro _
    all_goals try first|exact hlt|exact rfl|exact hS|exact r1|exact b3|exact h0|exact q0|exact q1|exact q2|exact g2|exact g3|exact r2|exact r3|exact b2|exact b5|(rename_i _ h _ g;exact rowsLn.stor _ h _ g)|(simp only[List.length_append,List.length_map,List.length_cons,List.length_nil,tbs_len]at *;omega)|(rename_i h;first|exact oI h|exact nah h)|(rename_i _ h _ g;exact sL h g)|decide|omega
    refine⟨i+1,hlt,by omega,to_trans (t:=⟨[(0,true,.one (.d (.sl zSm (l.map Sm.r)))),(1,true,.one (.v (.int .i64 (j:Int)))),(5,true,.one (.s 28)),(6,true,.one (.v (.int .i64 ((i+1:Nat):Int))))],[(28,.vec 0 zLc ((lnB j (l.take (i+1))).map Ln.c))]⟩) (to_with [] ?_) (to_with [.mv 28 1000] ?_)⟩
    ·simp only[↓eB,seval,go_sem,rowsLn.fn,List.map_append,List.flatMap_append,hsn,lc_app,lnO_c,List.append_assoc]
    ·simp only[↓eB,seval,go_sem,rowsLn.fn,List.map_append,List.flatMap_append,rowsLn.mv]
theorem y_rlines (n:Nat):∀m:Nat,yq_rlines n m
 |0=>by
  rintro ⟨l,d,_u⟩ w fz xs hc hfz hl hx
  exact hc.2.2.1.elim
 |m+1=>y_rlinesS n m (y_rlines n m)
end Go.Proofs.YtbiepiggmagfcaaGreatDoor
namespace Go.Proofs.YtbiepiggmagfcaaGreatDoor
open Go Go.Sy Go.RowKit
theorem vp_len (l:List Vr) (i:Nat):(jnT (vpT l i)).length≤(jnT (l.map vrT)).length:=by
 unfold vpT;rw[List.map_take];exact jn_len_le i
theorem vp_snoc {l:List Vr} {i:Nat} {x:Vr} (h:l[i]?=some x):jnT (vpT l (i+1))=jnT (vpT l i)++((if i=0 then [] else [44,32])++vrT x):=by
 rw[← vpT_s h]
 cases i with
 |zero=>rw[vpT_0,List.nil_append,jn_1,jn_0];rfl
 |succ i=>
  rw[jn_snoc]
  ·rfl
  ·intro h0
   have:=vpT_len (l:=l) (i:=i+1) (by have:=(List.getElem?_eq_some_iff.1 h).1;omega)
   rw[h0]at this;cases this
def lcH (h:Ln) (l:List Vr):List Ln:=h::lcL l
theorem lcH_len (h:Ln) (l:List Vr):(lcH h l).length=l.length+1:=by simp[lcH,lcL]
def lnH (f:Fn):Ln:=⟨(fnH f).flatten,-1⟩
theorem lnF_eq (f:Fn):lnF f=lnH f::(lcL f.ls++(lnB 1 f.body++[⟨[125],-1⟩])):=rfl
abbrev yc_rLines (n:Nat) (m:Nat) (f:Fn):Prop:=okPr n m f.body∧okRg m f.body∧m≤1000∧f.ps.length≤5000∧f.ls.length≤5000∧(fnT f).length≤1000000000
abbrev yr_rLines (n:Nat) (m:Nat) (f:Fn):SV:=lnR (lnF f)
noncomputable abbrev ya_rLines:ArgC ((Fn)×Unit):=(acS (cFn) ac0)
abbrev yq_rLines (n:Nat) (m:Nat):Prop:=CallsY Tryz.prog 19 ya_rLines (fun p:(Fn)×Unit=>yc_rLines n m p.1) (fun p:(Fn)×Unit=>yr_rLines n m p.1)
theorem yn_rLines (n:Nat) (m:Nat):∀p:(Fn)×Unit,((fun p:(Fn)×Unit=>yr_rLines n m p.1) p).names=[]:=by intro p;rfl
noncomputable def yg_rLines {X:Ctx} {w0:World} (n:Nat) (m:Nat) (h:yq_rLines n m):Sy.Spec Tryz.prog X w0:=specD 19 Tryz.call19 ya_rLines (fun p:(Fn)×Unit=>yc_rLines n m p.1) (fun p:(Fn)×Unit=>yr_rLines n m p.1) (yn_rLines n m) h
attribute [local go_sem] Fn.c cFn_d cFn_e cSs_d cSs_e lnR pzVr_ln zLn_ln
set_option maxRecDepth 20000 in set_option maxHeartbeats 8000000 in
theorem y_rLines (n:Nat) (m:Nat):yq_rLines n m:=by
 rintro ⟨f,_u⟩ w fz xs hc hfz hl hx
 refine calls_toL Tryz.func19 rfl w fz [(yg_rlines n m (y_rlines n m))] [] ya_rLines (fun p:(Fn)×Unit=>yr_rLines n m p.1) _ xs hfz hl hx (Nat.le_of_ble_eq_true rfl) ?_
 clear hx hl hfz xs
 simp only[Tryz.f19]
 obtain⟨hk,hr,hm,hp,hq,hlen⟩:=hc
 rw[fnT_eq]at hlen
 have hLF:=lnF_eq f
 obtain⟨nm,ps,ls,bd⟩:=f
 dsimp only at hk hr hp hq hlen hLF
 have hl0:(lineT 0 (fnH ⟨nm,ps,ls,bd⟩)).length+(lnX (lcL ls)).length+(lnX (lnB 1 bd)).length+2≤1000000000:=by
  simp only[List.length_append]at hlen
  have:=lT_len 0 [[125]]
  simp only[List.flatten_cons,List.flatten_nil,List.length_append,List.length_cons,List.length_nil]at this
  omega
 have hl2:(lnX (lnB (1:Int).toNat bd)).length≤1000000000:=by show (lnX (lnB 1 bd)).length≤_;omega
 have hl3:=lnX_lens (lnB 1 bd)
 rw[lT_len]at hl0
 have hT:(([102,110,32]++nm)++[40]).length+(jnT (ps.map vrT)).length+3≤1000000000:=by
  simp only[fnH,List.flatten_cons,List.flatten_nil,List.length_append,List.length_cons,List.length_nil]at hl0 ⊢
  omega
 have hU:nm.length+4≤1000000000:=by
  simp only[List.length_append,List.length_cons,List.length_nil]at hT;omega
 simp only[↓eB,seval,go_sem]
 try simp only[impB,impN]
 repeat' (first|exact ck|with_reducible apply And.intro)
 all_goals try first|exact hU|(simp only[List.length_append,List.length_cons,List.length_nil]at *;omega)|decide|omega
 refine loop_ok (Y:=Nat) (fun z=>z≤ps.length) (fun z=>⟨[(1,true,.one (.p 1 0 0)),(3,true,.one (.v (.string (bs ((([102,110,32]++nm)++[40])++jnT (vpT ps z)))))),(4,true,.one (.v (.int .i64 (z:Int))))],[(1,.vec 0 (anyN 4) [(Fn.mk nm ps ls bd).c])]⟩)
  (fun z=>ps.length-z) 0 (Nat.zero_le _) ?_ ?_
 ·refine to_with [] ?_;simp only[↓eB,seval,go_sem,vpT_0,jn_0,List.append_assoc]
 ·rintro i hi
  refine vc_ok [yg_rlines n m (y_rlines n m)] [] _ _ _ ?_
  have hj:((([102,110,32]++nm)++[40])++jnT (vpT ps i)).length+3≤1000000000:=by
   have:=vp_len ps i
   rw[List.length_append]
   omega
  cases hx:ps[i]? with
  |none=>
   have h2:=List.getElem?_eq_none_iff.1 hx
   have h1:=natI_ge h2
   have h3:=vpT_all h2
   rw[h3]at hj
   simp only[↓eB,seval,go_sem,yg_rlines,h1,h3]
   try simp only[impB,impN]
   repeat' (first|exact ck|with_reducible apply And.intro)
   all_goals try first|(simp only[List.length_append,List.length_cons,List.length_nil]at *;omega)|decide|omega
   generalize hHL:lnH ⟨nm,ps,ls,bd⟩=HL at hLF
   have hHc:Ln.c HL=[.v (.string (bs ((([102,110,32]++nm)++[40])++jnT (ps.map vrT)++[41,32,123]))),.v (.int .i64 (-1))]:=by
    rw[← hHL];simp[lnH,fnH,Ln.c]
   refine loop_ok (Y:=Nat) (fun z=>z≤ls.length) (fun z=>⟨[(1,true,.one (.p 1 0 0)),(5,true,.one (.s 1000)),(6,true,.one (.v (.int .i64 (z:Int))))],[(1,.vec 0 (anyN 4) [(Fn.mk nm ps ls bd).c]),(1000,.vec 0 zLc ((lcH HL (ls.take z)).map Ln.c))]⟩)
    (fun z=>ls.length-z) 0 (Nat.zero_le _) ?_ ?_
   ·refine to_with [.mv 42 1000] ?_;simp only[↓eB,seval,go_sem,lcH,lcL,hHc,List.append_assoc]
   ·rintro i hi
    refine vc_ok [yg_rlines n m (y_rlines n m)] [] _ _ _ ?_
    cases hx:ls[i]? with
    |none=>
     have h2:=List.getElem?_eq_none_iff.1 hx
     have h1:=natI_ge h2
     have h3:ls.take i=ls:=List.take_of_length_le h2
     have hz:(lcH HL ls).map Ln.c++((lnB 1 bd).map Ln.c++[[.v (.string (bs [125])),.v (.int .i64 (-1))]])=(lnF ⟨nm,ps,ls,bd⟩).map Ln.c:=by
      rw[hLF];simp[Ln.c,lcH]
     have q2:(1:Int)+(m:Int)≤1000000:=by omega
     simp only[↓eB,seval,go_sem,yg_rlines,h1,h3]
     try simp only[impB,impN]
     repeat' (first|exact ck|with_reducible apply And.intro)
     all_goals try first|(show (0:Int)≤1;decide)|exact q2|exact hk|exact hr|exact hl2|exact rfl|(intro _ h _ g;exact rowsLn.stor _ h _ g)|(simp only[List.length_append,List.length_map,List.length_cons,List.length_nil,lcH_len]at *;omega)|decide|omega
     try simp only[impB,impN]
     repeat' first|exact ck|with_reducible apply And.intro|intro _
     all_goals first|(rename_i _ h _ g;exact rowsLn.stor _ h _ g)|(rename_i h;first|exact oI h|exact nah h)|(rename_i _ h _ g;exact sL h g)|decide|omega|(refine ret_with [.fz 77] ?_;simp only[↓eB,seval,go_sem,bne,yr_rLines,List.append_assoc,hz,rowsLn.ds,rowsLn.fz])
    |some v=>
     have hlt:i<ls.length:=(List.getElem?_eq_some_iff.1 hx).1
     have h1:=natI_lt hlt
     have h2:=natI_ltp hlt
     have h2':=natI_succ (n:=ls.length) (Nat.le_of_lt hlt) (by omega)
     obtain⟨vs,vp⟩:=v
     have h3:=vrD_at hx
     cases vp with
     |true=>
      have g5:(lcH HL (ls.take (i+1))).map Ln.c=(lcH HL (ls.take i)).map Ln.c++[[.v (.string (bs (([9]++[112,116,114,32])++vs++[59]))),.v (.int .i64 (-1))]]:=by
       rw[List.take_add_one,hx,lcH,lcL_app]
       simp[lcH,lcL,locT,Ln.c]
      have g6:[112,116,114,32].length+vs.length+2≤1000000000:=by
       have q1:=lcL_len ls (i+1)
       rw[lcL_take hx,List.length_append,lT_len]at q1
       simp only[if_true,List.flatten_cons,List.flatten_nil,List.length_append,List.length_cons,List.length_nil]at q1 ⊢
       omega
      simp only[↓eB,seval,go_sem,yg_rlines,h1,h2,h2',h3]
      try simp only[impB,impN]
      repeat' first|exact ck|with_reducible apply And.intro|intro _
      all_goals try first|exact hlt|exact rfl|(rename_i _ h _ g;exact rowsLn.stor _ h _ g)|(simp only[List.length_append,List.length_map,List.length_cons,List.length_nil,lcH_len,List.length_take]at *;omega)|(rename_i h;first|exact oI h|exact nah h)|(rename_i _ h _ g;exact sL h g)|decide|omega
      refine⟨i+1,hlt,by omega,to_trans (t:=⟨[(1,true,.one (.p 1 0 0)),(5,true,.one (.s 69)),(6,true,.one (.v (.int .i64 ((i+1:Nat):Int))))],[(1,.vec 0 (anyN 4) [(Fn.mk nm ps ls bd).c]),(69,.vec 0 zLc ((lcH HL (ls.take (i+1))).map Ln.c))]⟩) (to_with [] ?_) (to_with [.mv 69 1000] ?_)⟩
      ·rw[g5]
       simp only[↓eB,seval,go_sem,rowsLn.fn,List.map_append,List.flatMap_append,List.append_assoc]
      ·simp only[↓eB,seval,go_sem,rowsLn.fn,List.map_append,List.flatMap_append,rowsLn.mv]
     |false=>
      have g5:(lcH HL (ls.take (i+1))).map Ln.c=(lcH HL (ls.take i)).map Ln.c++[[.v (.string (bs (([9]++[118,97,114,32])++vs++[59]))),.v (.int .i64 (-1))]]:=by
       rw[List.take_add_one,hx,lcH,lcL_app]
       simp[lcH,lcL,locT,Ln.c]
      have g6:[118,97,114,32].length+vs.length+2≤1000000000:=by
       have q1:=lcL_len ls (i+1)
       rw[lcL_take hx,List.length_append,lT_len]at q1
       simp only[Bool.false_eq_true,if_false,List.flatten_cons,List.flatten_nil,List.length_append,List.length_cons,List.length_nil]at q1 ⊢
       omega
      simp only[↓eB,seval,go_sem,yg_rlines,h1,h2,h2',h3]
      try simp only[impB,impN]
      repeat' first|exact ck|with_reducible apply And.intro|intro _
      all_goals try first|exact hlt|exact rfl|(rename_i _ h _ g;exact rowsLn.stor _ h _ g)|(simp only[List.length_append,List.length_map,List.length_cons,List.length_nil,lcH_len,List.length_take]at *;omega)|(rename_i h;first|exact oI h|exact nah h)|(rename_i _ h _ g;exact sL h g)|decide|omega
      refine⟨i+1,hlt,by omega,to_trans (t:=⟨[(1,true,.one (.p 1 0 0)),(5,true,.one (.s 69)),(6,true,.one (.v (.int .i64 ((i+1:Nat):Int))))],[(1,.vec 0 (anyN 4) [(Fn.mk nm ps ls bd).c]),(69,.vec 0 zLc ((lcH HL (ls.take (i+1))).map Ln.c))]⟩) (to_with [] ?_) (to_with [.mv 69 1000] ?_)⟩
      ·rw[g5]
       simp only[↓eB,seval,go_sem,rowsLn.fn,List.map_append,List.flatMap_append,List.append_assoc]
      ·simp only[↓eB,seval,go_sem,rowsLn.fn,List.map_append,List.flatMap_append,rowsLn.mv]
  |some a=>
   have hlt:i<ps.length:=(List.getElem?_eq_some_iff.1 hx).1
   have h1:=natI_lt hlt
   have h2:=natI_ltp hlt
   have h2':=natI_succ (n:=ps.length) (Nat.le_of_lt hlt) (by omega)
   have hj2:((([102,110,32]++nm)++[40])++jnT (vpT ps (i+1))).length+2≤1000000000:=by
    have:=vp_len ps (i+1)
    rw[List.length_append]
    omega
   have g5:(([102,110,32]++nm)++[40])++jnT (vpT ps (i+1))=(([102,110,32]++nm)++[40])++jnT (vpT ps i)++((if i=0 then [] else [44,32])++vrT a):=by rw[vp_snoc hx];simp only[List.append_assoc]
   rw[g5]at hj2
   obtain⟨vs,vp⟩:=a
   have h3:=vrD_at hx
   cases i with
   |zero=>
    have k1:decide ((0:Int)<(ps.length:Int))=true:=h1
    have k2:((0:Int)<(ps.length:Int))=True:=h2
    have k3:IntKind.i64.wrap (0+1)=1:=h2'
    cases vp with
     |true=>
      have g6:(([102,110,32]++nm)++[40])++jnT (vpT ps 1)=(([102,110,32]++nm)++[40])++([42]++vs):=by rw[g5];simp[vpT_0,jn_0,vrT]
      simp only[↓eB,seval,go_sem,yg_rlines,k1,k2,k3,h3,vpT_0,jn_0]
      try simp only[impB,impN]
      repeat' first|exact ck|with_reducible apply And.intro|intro _
      all_goals try first|exact hlt|exact rfl|(simp only[Nat.succ_ne_zero,if_true,if_false,vrT,Bool.false_eq_true,vpT_0,jn_0,List.nil_append,List.append_nil,List.length_append,List.length_cons,List.length_nil]at *;omega)|(rename_i h;first|exact oI h|exact nah h)|(rename_i _ h _ g;exact sL h g)|decide|omega
      simp only[List.append_assoc,List.cons_append,List.nil_append]at g6
      refine⟨0+1,hlt,by omega,to_with [] ?_⟩
      simp only[↓eB,seval,go_sem,rowsLn.fn,List.map_append,List.flatMap_append,g6,List.append_assoc]
     |false=>
      have g6:(([102,110,32]++nm)++[40])++jnT (vpT ps 1)=(([102,110,32]++nm)++[40])++(vs):=by rw[g5];simp[vpT_0,jn_0,vrT]
      simp only[↓eB,seval,go_sem,yg_rlines,k1,k2,k3,h3,vpT_0,jn_0]
      try simp only[impB,impN]
      repeat' first|exact ck|with_reducible apply And.intro|intro _
      all_goals try first|exact hlt|exact rfl|(simp only[Nat.succ_ne_zero,if_true,if_false,vrT,Bool.false_eq_true,vpT_0,jn_0,List.nil_append,List.append_nil,List.length_append,List.length_cons,List.length_nil]at *;omega)|(rename_i h;first|exact oI h|exact nah h)|(rename_i _ h _ g;exact sL h g)|decide|omega
      simp only[List.append_assoc,List.cons_append,List.nil_append]at g6
      refine⟨0+1,hlt,by omega,to_with [] ?_⟩
      simp only[↓eB,seval,go_sem,rowsLn.fn,List.map_append,List.flatMap_append,g6,List.append_assoc]
   |succ i=>
    have w0:=wt_ne i
    cases vp with
     |true=>
      have g6:(([102,110,32]++nm)++[40])++jnT (vpT ps (i+1+1))=(([102,110,32]++nm)++[40])++jnT (vpT ps (i+1))++([44,32]++([42]++vs)):=by rw[g5];rfl
      simp only[↓eB,seval,go_sem,yg_rlines,h1,h2,h2',h3,w0]
      try simp only[impB,impN]
      repeat' first|exact ck|with_reducible apply And.intro|intro _
      all_goals try first|exact hlt|exact rfl|(simp only[Nat.succ_ne_zero,if_true,if_false,vrT,Bool.false_eq_true,vpT_0,jn_0,List.nil_append,List.append_nil,List.length_append,List.length_cons,List.length_nil]at *;omega)|(rename_i h;first|exact oI h|exact nah h)|(rename_i _ h _ g;exact sL h g)|decide|omega
      simp only[List.append_assoc,List.cons_append,List.nil_append]at g6
      refine⟨i+1+1,hlt,by omega,to_with [] ?_⟩
      simp only[↓eB,seval,go_sem,rowsLn.fn,List.map_append,List.flatMap_append,g6,List.append_assoc]
     |false=>
      have g6:(([102,110,32]++nm)++[40])++jnT (vpT ps (i+1+1))=(([102,110,32]++nm)++[40])++jnT (vpT ps (i+1))++([44,32]++(vs)):=by rw[g5];rfl
      simp only[↓eB,seval,go_sem,yg_rlines,h1,h2,h2',h3,w0]
      try simp only[impB,impN]
      repeat' first|exact ck|with_reducible apply And.intro|intro _
      all_goals try first|exact hlt|exact rfl|(simp only[Nat.succ_ne_zero,if_true,if_false,vrT,Bool.false_eq_true,vpT_0,jn_0,List.nil_append,List.append_nil,List.length_append,List.length_cons,List.length_nil]at *;omega)|(rename_i h;first|exact oI h|exact nah h)|(rename_i _ h _ g;exact sL h g)|decide|omega
      simp only[List.append_assoc,List.cons_append,List.nil_append]at g6
      refine⟨i+1+1,hlt,by omega,to_with [] ?_⟩
      simp only[↓eB,seval,go_sem,rowsLn.fn,List.map_append,List.flatMap_append,g6,List.append_assoc]
end Go.Proofs.YtbiepiggmagfcaaGreatDoor
