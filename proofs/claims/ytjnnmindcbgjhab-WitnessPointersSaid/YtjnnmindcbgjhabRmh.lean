/- The blank state, walked. No conditions but those in each statement. -/
import Derived.Test.YtjnnmindcbgjhabRmg
set_option linter.unusedVariables false
set_option linter.unusedSimpArgs false
namespace Go.Proofs.Ytjnnmindcbgjhab
open Go Go.Sy Go.RowKit
theorem pg_uq (v:SV) (a b:Pg) (h:leV v (.agg (pgR a))) (h':leV v (.agg (pgR b))):a=b:=by
 cases v with
 |one c=>exact h.elim
 |tup l=>exact h.elim
 |agg l=>
  obtain⟨⟨c,a⟩,fs⟩:=a
  obtain⟨⟨c',a'⟩,fs'⟩:=b
  match l,h,h' with
  |[c0,c1,c2],⟨h0,h1,h2,_⟩,⟨g0,g1,g2,_⟩=>
   have k0:=map_inj cSd_inj (leC_d h0 g0)
   have k1:=map_inj gyr_inj (leC_d h1 g1)
   have k2:=map_inj fn_inj (leC_d h2 g2)
   simp only at k0 k1 k2
   subst k0;subst k1;subst k2;rfl
noncomputable def cPg:Cod Pg:=codOf (fun p=>.agg (pgR p)) pg_uq (fun p=>rfl)
theorem cPg_e (p:Pg):cPg.e p= .agg (pgR p):=rfl
theorem cPg_d (c:List (List UInt8)) (a:List Gy) (fs:List Fn):cPg.d (.agg [.d (.sl zSqD (c.map cSd)),.d (.sl zGyD (a.map Gy.r)),.d (.sl zFn (fs.map Fn.r))])=some ⟨⟨c,a⟩,fs⟩:=codOf_le (e:=fun p:Pg=>.agg (pgR p)) (a:=⟨⟨c,a⟩,fs⟩) (leV_refl _)
open Classical in
noncomputable def clJ {B:Type} (ac:ArgC B) (l:List SV):Option B→Option (B×List Nat)
 |some b=>if ac.e b=l then some (b,[]) else none
 |none=>none
open Classical in
theorem clJ_eq {B:Type} (ac:ArgC B) (l:List SV) (b:B):clJ ac l (some b)=if ac.e b=l then some (b,[]) else none:=rfl
theorem clJ_ok {B:Type} {ac:ArgC B} {l:List SV} {o:Option B} {b:B} {ks:List Nat} (h:clJ ac l o=some (b,ks)):ks=[]∧ac.e b=l:=by
 cases o with
 |none=>cases h
 |some b'=>
  rw[clJ_eq]at h
  split at h
  ·rename_i he
   simp only[Option.some.injEq,Prod.mk.injEq]at h
   obtain⟨rfl,rfl⟩:=h
   exact⟨rfl,he⟩
  ·cases h
noncomputable def amCl {B:Type} (ac:ArgC B) (nt:∀b,∀v∈ac.e b,v.tupB=false):ArgL B where
 d _ l:=clJ ac l (ac.d l)
 args b:=ac.e b
 mem _:=[]
 h H l a ks h:=by
  obtain⟨rfl,he⟩:=clJ_ok h
  refine⟨?_,rfl,fun i k hi=>by simp at hi⟩
  rw[map_self (l:=ac.e a) fun v hv=>rnV_clos (ac.n a v hv),he]
 n a m hm:=by cases hm
 an a v hv:=by
  have:=ac.n a v hv
  cases v with
  |one c=>exact .inl this
  |agg l=>
   intro c hc
   exact .inl (List.eq_nil_iff_forall_not_mem.2 fun k hk=>by
    have h2:k∈(SV.agg l).names:=List.mem_flatMap.2 ⟨c,hc,hk⟩
    rw[this]at h2;cases h2)
  |tup l=>cases nt a _ hv
 l H H' v a ks h _:=h
theorem amCl_d {B:Type} (ac:ArgC B) (nt) (H:Hp) (l:List SV):(amCl ac nt).d H l=clJ ac l (ac.d l):=rfl
theorem amCl_a {B:Type} (ac:ArgC B) (nt) (b:B):(amCl ac nt).args b=ac.e b:=rfl
theorem amCl_m {B:Type} (ac:ArgC B) (nt) (b:B):(amCl ac nt).mem b=[]:=rfl
def blC (l:List (List UInt8)):List Nb:=l.map fun s=>⟨s,0⟩
theorem blC_nil:blC []=[]:=rfl
def blA (l:List Gy):List Na:=l.map fun x=>⟨x.s,List.replicate x.n.toNat 0⟩
theorem blA_nil:blA []=[]:=rfl
theorem nbL_nm (l:List Nb):List.flatMap (fun r=>List.flatMap C.names r) (l.map Nb.c)=[]:=List.flatMap_eq_nil_iff.2 fun p hp=>by
 obtain⟨a,_,rfl⟩:=List.mem_map.1 hp
 rfl
theorem naL_nm (l:List Na):List.flatMap (fun r=>List.flatMap C.names r) (l.map Na.c)=[]:=List.flatMap_eq_nil_iff.2 fun p hp=>by
 obtain⟨a,_,rfl⟩:=List.mem_map.1 hp
 rfl
theorem nbL_mv (k t:Nat) (l:List Nb):(l.map Nb.c).map (fun r=>r.map (mvC k t))=l.map Nb.c:=map_of Nb.c (fun _=>rfl) l
theorem naL_mv (k t:Nat) (l:List Na):(l.map Na.c).map (fun r=>r.map (mvC k t))=l.map Na.c:=map_of Na.c (fun _=>rfl) l
theorem rpl_cl (n:Nat):(List.replicate n [C.v (.int .i64 0)]).all (fun r=>r.all fun c=>c.names.isEmpty)=true:=by
 rw[List.all_eq_true]
 intro r hr
 rw[List.eq_of_mem_replicate hr];rfl
theorem rpl_cI (n:Nat):(List.replicate n (0:Int)).map cI=List.replicate n [C.v (.int .i64 0)]:=by simp[cI]
theorem nt_pg:∀b,∀v∈ArgC.e (acS cPg ac0) b,v.tupB=false:=by
 rintro ⟨p,_⟩ v hv
 simp only[acS_e,ac0_e,List.mem_cons,List.not_mem_nil,or_false]at hv
 subst hv;rfl
noncomputable abbrev ya_Blank:ArgL (Pg×Unit):=amCl (acS cPg ac0) nt_pg
abbrev Cd_Bl (p:Pg×Unit):Prop:=p.1.g.c.length≤1000000∧p.1.g.a.length≤1000000∧∀x∈p.1.g.a,x.n≤1048576
abbrev R_Bl (_:Pg×Unit):SV:=.agg [.s 0,.s 1]
abbrev M_Bl (p:Pg×Unit):List (Option ML):=[some (.vec zNb ((blC p.1.g.c).map Nb.c)),some (.vec zNa ((blA p.1.g.a).map Na.c))]
attribute [local go_sem] Fa.mem Fa.memO Fa.pan ML.ch ML.ren amFr_a amFr_d amFr_m bumpL cPg_d cPg_e chL faD_p faJ_some faK_some fa_eta fcN frC frD_v frJ_eq lmH lmO mPg_d mPg_e mPg_z mSt_d mSt_e mSt_z mcD_v mcR_d mlO_nil mlO_none mlO_some nmX pgR pnL_nil pnL_none pnL_some pnOL_f pnOL_t renQ renQC rnC spL_some specL'_f specL'_fn stR updL updX vrQ vsD_v
set_option maxRecDepth 20000 in
set_option maxHeartbeats 16000000 in
theorem y_Blank:CallsL Try.prog 13 ya_Blank.args ya_Blank.mem Cd_Bl (fun _=>false) R_Bl M_Bl (fun _=>mlO []):=by
 rintro ⟨⟨⟨pc,pa⟩,pf⟩,_u⟩ w M I lab fz xs ⟨hc1,hc2,hc3⟩ hA hl hx
 dsimp only at hc1 hc2 hc3
 refine calls_toLM Try.func13 rfl [] w M I lab fz false [] (M_Bl (⟨⟨pc,pa⟩,pf⟩,())) [] [(12,[.mv 1000 0,.mv 1001 1])] (ya_Blank.args (⟨⟨pc,pa⟩,pf⟩,())) (R_Bl (⟨⟨pc,pa⟩,pf⟩,())) xs hA hl hx ?_ (Nat.le_of_ble_eq_true rfl) (Nat.zero_le _) rfl (by intro q hq;cases hq) ?_
 ·intro v hv k hk
  rw[(acS cPg ac0).n _ v hv]at hk;cases hk
 clear hx hl hA xs
 simp only[Try.f13]
 simp only[↓eB,seval,go_sem,xt,↓e_fac4,amCl_a,amCl_m]
 refine loop_ok (Y:=Nat) (fun i=>i≤pc.length)
  (fun i=>⟨[(1,true,.one (.p 1 0 0)),(2,true,.one (.p 2 0 0)),(3,true,.one (.p 3 0 0)),(10,true,.one (.d (.sl zSqD (pc.map cSd)))),(11,true,.one (.v (.int .i64 (pc.length:Int)))),(12,true,.one (.v (.int .i64 (i:Int))))],
   [(1,.vec 0 [.v (.bool false),.v (.bool false),.v (.bool false)] [pgR ⟨⟨pc,pa⟩,pf⟩]),(2,.vec 0 (tgN 40 2) [[.v (.slice none 0 0),.v (.slice none 0 0)]]),(3,.vec 0 (tgN 40 2) [[.s 1000,.v (.slice none 0 0)]]),(1000,.vec 0 zNb ((blC (pc.take i)).map Nb.c))]⟩)
  (fun i=>pc.length-i) 0 (Nat.zero_le _) ?_ ?_
 ·refine to_with [.nilr 3 0 0 1000 zNb] ?_;simp only[↓eB,seval,go_sem,xt,↓e_fac4,zNb,blC_nil]
 ·rintro i hi
  refine vc_ok [] [(12,[.mv 1000 0,.mv 1001 1])] _ _ _ ?_
  have w1:IntKind.i64.wrap ((i:Int)+1)=((i+1:Nat):Int):=by rw[wrap_i64 (by omega) (by omega)];rfl
  cases hx:pc[i]? with
  |none=>
   have h2:=List.getElem?_eq_none_iff.1 hx
   have h1:=natI_ge h2
   simp only[↓eB,seval,go_sem,xt,↓e_fac4,h1]
   rw[List.take_of_length_le h2]
   refine loop_ok (Y:=Nat) (fun i=>i≤pa.length)
    (fun i=>⟨[(2,true,.one (.p 2 0 0)),(3,true,.one (.p 3 0 0)),(26,true,.one (.d (.sl zGyD (pa.map Gy.r)))),(27,true,.one (.v (.int .i64 (pa.length:Int)))),(28,true,.one (.v (.int .i64 (i:Int))))],
     [(2,.vec 0 (tgN 40 2) [[.v (.slice none 0 0),.v (.slice none 0 0)]]),(3,.vec 0 (tgN 40 2) [[.s 1000,.s 1001]]),(1000,.vec 0 zNb ((blC pc).map Nb.c)),(1001,.vec 0 zNa ((blA (pa.take i)).map Na.c))]⟩)
    (fun i=>pa.length-i) 0 (Nat.zero_le _) ?_ ?_
   ·refine to_with [.nilr 3 0 1 1001 zNa] ?_;simp only[↓eB,seval,go_sem,xt,↓e_fac4,zNa,blA_nil,nbL_nm]
   ·rintro j hj
    refine vc_ok [] [(12,[.mv 1000 0,.mv 1001 1])] _ _ _ ?_
    have w2:IntKind.i64.wrap ((j:Int)+1)=((j+1:Nat):Int):=by rw[wrap_i64 (by omega) (by omega)];rfl
    cases hy:pa[j]? with
    |none=>
     have g2:=List.getElem?_eq_none_iff.1 hy
     have g1:=natI_ge g2
     simp only[↓eB,seval,go_sem,xt,↓e_fac4,g1,nbL_mv,naL_mv]
     rw[List.take_of_length_le g2]
     refine ret_with [] ?_;simp only[↓eB,seval,go_sem,bne,R_Bl,M_Bl,e_RESLP,xt,↓e_fac4,nbL_nm,naL_nm,nbL_mv,naL_mv]
    |some y=>
     obtain⟨ys,yn⟩:=y
     have glt:=(List.getElem?_eq_some_iff.1 hy).1
     have g1:=natI_lt glt
     have gs:(pa.map Gy.r).getD j zGyD=Gy.r ⟨ys,yn⟩:=by simp[List.getD,hy]
     simp only[↓eB,seval,go_sem,xt,↓e_fac4,g1,w2,gs,Gy.r]
     have hy3:=hc3 ⟨ys,yn⟩ (List.mem_of_getElem? hy)
     dsimp only at hy3
     have hmx:mx 0 yn=((yn.toNat:Nat):Int):=by unfold mx;split<;>omega
     have hml:yn.toNat≤1048576:=by omega
     have hjl:(j:Int)<(pa.length:Int):=by omega
     have hbl:(blA (List.take j pa)).length=j:=by simp[blA];omega
     have hrs:rowsStor [[C.v (.string (bs ys)),C.s 39]]:=by
      intro r h c hc
      simp only[List.mem_singleton]at h
      subst h
      simp only[List.mem_cons,List.not_mem_nil,or_false]at hc
      rcases hc with rfl|rfl<;>rfl
     have ht:(blA (pa.take (j+1))).map Na.c=(blA (pa.take j)).map Na.c++[[.v (.string (bs ys)),.ov zI ((List.replicate yn.toNat (0:Int)).map cI)]]:=by
      rw[List.take_add_one,hy];simp[blA,Na.c]
     have hge:((blA (pa.take j)).map Na.c++[[C.v (.string (bs ys)),C.s 39]])[j]?=some [C.v (.string (bs ys)),C.s 39]:=by
      rw[List.getElem?_append_right (by rw[List.length_map,hbl];exact Nat.le_refl _),List.length_map,hbl,Nat.sub_self];rfl
     have hst:∀r:List C,((blA (pa.take j)).map Na.c++[[C.v (.string (bs ys)),C.s 39]]).set j r=(blA (pa.take j)).map Na.c++[r]:=by
      intro r
      rw[List.set_append_right _ _ (by rw[List.length_map,hbl];exact Nat.le_refl _),List.length_map,hbl,Nat.sub_self];rfl
     have htn:(((yn.toNat:Nat):Int)).toNat=yn.toNat:=Int.toNat_natCast _
     refine⟨⟨hjl,rfl⟩,⟨(by rw[hmx];omega),(by rw[hmx];omega),(by rw[hmx];omega)⟩,⟨⟨rfl,.inl rfl⟩,(fun q h=>(by cases h;rfl)),hrs,(by decide),(by rw[hbl];omega),(by rw[hbl];omega)⟩,chk_ok (by kernel_rfl),j+1,glt,(by omega),to_trans (t:=⟨[(2,true,.one (.p 2 0 0)),(3,true,.one (.p 3 0 0)),(26,true,.one (.d (.sl zGyD (pa.map Gy.r)))),(27,true,.one (.v (.int .i64 (pa.length:Int)))),(28,true,.one (.v (.int .i64 ((j+1:Nat):Int))))],
      [(2,.vec 0 (tgN 40 2) [[.v (.slice none 0 0),.v (.slice none 0 0)]]),(3,.vec 0 (tgN 40 2) [[.s 1000,.s 42]]),(1000,.vec 0 zNb ((blC pc).map Nb.c)),(42,.vec 0 zNa ((blA (pa.take (j+1))).map Na.c))]⟩) ?_ ?_⟩
     ·refine to_with [.fold 42 j 1] ?_;simp only[↓eB,seval,go_sem,xt,↓e_fac4,hge,hst,hmx,htn,ht,nbL_nm,naL_nm,nbL_mv,rpl_cl,rpl_cI,zI,List.flatMap_append]
     ·refine to_with [.mv 42 1001] ?_;simp only[↓eB,seval,go_sem,xt,↓e_fac4,nbL_nm,naL_nm,naL_mv,nbL_mv]
  |some s=>
   have hlt:=(List.getElem?_eq_some_iff.1 hx).1
   have h1:=natI_lt hlt
   have hs:(pc.map cSd).getD i zSqD=cSd s:=by simp[List.getD,hx]
   simp only[↓eB,seval,go_sem,xt,↓e_fac4,h1,w1,hs,cSd]
   have hil:(i:Int)<(pc.length:Int):=by omega
   have hbl:(blC (List.take i pc)).length=i:=by simp[blC];omega
   have ht:(blC (pc.take (i+1))).map Nb.c=(blC (pc.take i)).map Nb.c++[[.v (.string (bs s)),.v (.int .i64 0)]]:=by
    rw[List.take_add_one,hx];simp[blC,Nb.c]
   have hrs:rowsStor [[C.v (.string (bs s)),C.v (.int .i64 0)]]:=by
    intro r h c hc
    simp only[List.mem_singleton]at h
    subst h
    simp only[List.mem_cons,List.not_mem_nil,or_false]at hc
    rcases hc with rfl|rfl<;>rfl
   refine⟨⟨hil,rfl⟩,⟨⟨rfl,.inl rfl⟩,(fun q h=>(by cases h;rfl)),hrs,(by decide),(by rw[hbl];omega),(by rw[hbl];omega)⟩,i+1,hlt,(by omega),to_trans (t:=⟨[(1,true,.one (.p 1 0 0)),(2,true,.one (.p 2 0 0)),(3,true,.one (.p 3 0 0)),(10,true,.one (.d (.sl zSqD (pc.map cSd)))),(11,true,.one (.v (.int .i64 (pc.length:Int)))),(12,true,.one (.v (.int .i64 ((i+1:Nat):Int))))],
     [(1,.vec 0 [.v (.bool false),.v (.bool false),.v (.bool false)] [pgR ⟨⟨pc,pa⟩,pf⟩]),(2,.vec 0 (tgN 40 2) [[.v (.slice none 0 0),.v (.slice none 0 0)]]),(3,.vec 0 (tgN 40 2) [[.s 21,.v (.slice none 0 0)]]),(21,.vec 0 zNb ((blC (pc.take (i+1))).map Nb.c))]⟩) ?_ ?_⟩
   ·refine to_with [] ?_;simp only[↓eB,seval,go_sem,xt,↓e_fac4,ht,nbL_nm,List.map_append,List.flatMap_append]
   ·refine to_with [.mv 21 1000] ?_;simp only[↓eB,seval,go_sem,xt,↓e_fac4,nbL_nm,nbL_mv]
end Go.Proofs.Ytjnnmindcbgjhab
