/- What is written is of known kinds, each node has its parts, and its text is not much longer. No conditions but those in each statement. -/
import Derived.Test.YtbiepiggmagfcaaDoorCx5
import Derived.Test.YtbiepiggmagfcaaDoorRg0
import Derived.Test.YtbiepiggmagfcaaDoorKc1
import Derived.Test.YtbiepiggmagfcaaDoorOp
set_option linter.unusedVariables false
set_option linter.unusedSimpArgs false
namespace Go.Proofs.YtbiepiggmagfcaaDoor
open Go Go.Sy Go.RowKit
theorem enT_le (p:Bool) (t:List UInt8):(enT p t).length≤t.length+2:=by unfold enT;split<;>simp
theorem co8_le (p:Cd):(coT (.mk 8 .nil .nil p .nil [])).length≤(coT p).length+3:=by
 rw[co8]
 split
 ·rename_i h
  cases p with
  |nil=>cases h
  |mk k a b p q s=>
   have hk:k=9:=eq_of_beq h
   subst hk
   rw[co9]
   simp only[Cd.nm,List.length_append,List.length_cons,List.length_nil];omega
 ·have:=enT_le (!isB 8 p) (coT p)
  simp only[List.length_append,List.length_cons,List.length_nil];omega
end Go.Proofs.YtbiepiggmagfcaaDoor
namespace Go.Proofs.YtbiepiggmagfcaaDoor
open Go Go.Sy Go.RowKit
def cP9:Cd:=.mk 9 .nil .nil .nil .nil [112]
def leafC (c:Int):Cd:=if (c.tmod 5==1)=true then cP9 else .mk ((c.tdiv 5).tmod 6) (.mk 1 0 [97] .nil .nil) (.mk 0 c [] .nil .nil) .nil .nil []
def mcC:Nat→List Int→Cd×List Int
 |_,[]=>(cP9,[])
 |0,c::r=>(leafC c,r)
 |m+1,c::r=>
  if c.tmod 5<2 then (leafC c,r)
  else if (c.tmod 5==2)=true then (.mk 8 .nil .nil (mcC m r).1 .nil [],(mcC m r).2)
  else (.mk (6+c.tmod 2) .nil .nil (mcC m r).1 (mcC m (mcC m r).2).1 [],(mcC m (mcC m r).2).2)
def byOk (b:List Int):Prop:=b.length≤1000∧∀x∈b,0≤x∧x<256
def u256 (c:Int):Bool:=decide (IntKind.u8.wrap (c.tmod 5)=c.tmod 5∧IntKind.u8.wrap (c.tmod 2)=c.tmod 2∧w64i (c.tmod 2)=c.tmod 2∧w64i (6+c.tmod 2)=6+c.tmod 2∧IntKind.u8.wrap (c.tdiv 5)=c.tdiv 5∧IntKind.u8.wrap ((c.tdiv 5).tmod 6)=(c.tdiv 5).tmod 6∧w64i ((c.tdiv 5).tmod 6)=(c.tdiv 5).tmod 6∧w64i c=c∧0≤c.tmod 5∧c.tmod 5<5∧0≤(c.tdiv 5).tmod 6∧(c.tdiv 5).tmod 6<6∧(c.tmod 2=0∨c.tmod 2=1))
theorem u256_all:(List.range 256).all (fun c=>u256 (c:Int))=true:=by kernel_rfl
theorem u256_ok {c:Int} (h0:0≤c) (h1:c<256):u256 c=true:=by
 have:=List.all_eq_true.1 u256_all c.toNat (List.mem_range.2 (by omega))
 rwa [Int.toNat_of_nonneg h0]at this
theorem nm_p:nmP [112]:=⟨⟨by decide,(idn (by decide) (by decide)).1⟩,(idn (by decide) (by decide)).2⟩
theorem nm_a:nmP [97]:=⟨⟨by decide,(idn (by decide) (by decide)).1⟩,(idn (by decide) (by decide)).2⟩
theorem re_P9:reC cP9:=.inr (.inr (.inr ⟨rfl,rfl,rfl,rfl,rfl,nm_p⟩))
theorem re_leaf {c:Int} (h0:0≤c) (h1:c<256):reC (leafC c):=by
 have hu:=u256_ok h0 h1
 simp only[u256,decide_eq_true_eq]at hu
 unfold leafC
 split
 ·exact re_P9
 ·refine .inl ⟨by omega,by omega,.inr (.inl ⟨rfl,rfl,nm_a,rfl,rfl⟩),.inl ⟨rfl,h0,by omega,rfl,rfl,rfl⟩,?_,rfl,rfl,rfl⟩
  show ((0:Int),_)≠((2:Int),_)
  simp
theorem dec3 {c:Int} (h0:0≤c) (h1:c<256):(itT c).length≤4:=itoa_len 2 c (by omega)
theorem leaf_len {c:Int} (h0:0≤c) (h1:c<256):(coT (leafC c)).length≤9∧okCn (leafC c)∧(leafC c).dp≤2:=by
 have hu:=u256_ok h0 h1
 simp only[u256,decide_eq_true_eq]at hu
 unfold leafC
 split
 ·exact⟨by show (coT cP9).length≤9;decide,⟨trivial,trivial,trivial,trivial⟩,by show cP9.dp≤2;decide⟩
 ·refine⟨?_,⟨⟨by unfold w64;omega,trivial,trivial⟩,⟨by unfold w64;omega,trivial,trivial⟩,trivial,trivial⟩,by simp[Cd.dp,Ex.dp]⟩
  rw[cmp_t (by omega) (by omega)]
  have h2:=cpT_len (o:=((c.tdiv 5).tmod 6).toNat) (by omega)
  have h3:exT (.mk 1 0 [97] .nil .nil)=[97]:=rfl
  have h4:exT (.mk 0 c [] .nil .nil)=itT c:=rfl
  have h5:=dec3 h0 h1
  rw[h3,h4]
  simp only[List.length_append,List.length_cons,List.length_nil]
  omega
structure mcQ (m:Nat) (b:List Int) (r:Cd×List Int):Prop where
 o:byOk r.2
 l:r.2.length≤b.length
 e:reC r.1
 n:okCn r.1
 d:r.1.dp≤m+2
 t:(coT r.1).length+30*r.2.length≤30*b.length+10
theorem mc_q:∀(m:Nat) (b:List Int),byOk b→mcQ m b (mcC m b)
 |m,[],h=>by
  have e:mcC m []=(cP9,[]):=by cases m<;>rfl
  rw[e]
  exact⟨h,Nat.le_refl _,re_P9,⟨trivial,trivial,trivial,trivial⟩,by show cP9.dp≤_;have:cP9.dp=1:=rfl;omega,by show (coT cP9).length+0≤_;have:(coT cP9).length=9:=rfl;omega⟩
 |0,c::r,h=>by
  obtain⟨h1,h2⟩:=h.2 c (by simp)
  obtain⟨l1,l2,l3⟩:=leaf_len h1 h2
  have hr:byOk r:=⟨by have:=h.1;simp only[List.length_cons]at this;omega,fun x hx=>h.2 x (List.mem_cons_of_mem _ hx)⟩
  exact⟨hr,by simp[mcC],re_leaf h1 h2,l2,by simp only[mcC];omega,by simp only[mcC,List.length_cons];omega⟩
 |m+1,c::r,h=>by
  obtain⟨h1,h2⟩:=h.2 c (by simp)
  obtain⟨l1,l2,l3⟩:=leaf_len h1 h2
  have hu:=u256_ok h1 h2
  simp only[u256,decide_eq_true_eq]at hu
  have hr:byOk r:=⟨by have:=h.1;simp only[List.length_cons]at this;omega,fun x hx=>h.2 x (List.mem_cons_of_mem _ hx)⟩
  have p:=mc_q m r hr
  have q:=mc_q m (mcC m r).2 p.o
  have p1:=p.l;have p2:=p.d;have p3:=p.t
  have q1:=q.l;have q2:=q.d;have q3:=q.t
  simp only[mcC]
  split
  ·exact⟨hr,by simp,re_leaf h1 h2,l2,by simp only;omega,by simp only[List.length_cons];omega⟩
  split
  ·refine⟨p.o,by simp only[List.length_cons];omega,.inr (.inr (.inl ⟨rfl,rfl,rfl,rfl,p.e,rfl⟩)),⟨trivial,trivial,p.n,trivial⟩,by simp only[Cd.dp,Ex.dp];omega,?_⟩
   have:=co8_le (mcC m r).1
   simp only[List.length_cons];omega
  ·refine⟨q.o,by simp only[List.length_cons];omega,.inr (.inl ⟨by omega,rfl,rfl,rfl,p.e,q.e⟩),⟨trivial,trivial,p.n,q.n⟩,by simp only[Cd.dp,Ex.dp];omega,?_⟩
   have hk:6+c.tmod 2=6∨6+c.tmod 2=7:=by omega
   rcases hk with hk|hk
   ·rw[hk,co6]
    have a1:=enT_le (isB 7 (mcC m r).1) (coT (mcC m r).1)
    have a2:=enT_le (isB 7 (mcC m (mcC m r).2).1||isB 6 (mcC m (mcC m r).2).1) (coT (mcC m (mcC m r).2).1)
    simp only[List.length_append,List.length_cons,List.length_nil];omega
   ·rw[hk,co7]
    have a2:=enT_le (isB 7 (mcC m (mcC m r).2).1) (coT (mcC m (mcC m r).2).1)
    simp only[List.length_append,List.length_cons,List.length_nil];omega
end Go.Proofs.YtbiepiggmagfcaaDoor
namespace Go.Proofs.YtbiepiggmagfcaaDoor
open Go Go.Sy Go.RowKit
abbrev mcR (d:Int) (b:List Int):Cd×List Int:=mcC d.toNat b
theorem byD_c (c:Int):byD c=[.v (.int .u8 c)]:=rfl
theorem take_by (r:List Int):(r.map byD).take r.length=r.map byD:=by rw[← List.length_map (f:=byD),List.take_length]
theorem tup_lc (c:Cd) (l:List (List D)):(SV.tup [.inl (cdC c),.inl (.d (.sl zBy l))]).names=[]:=by
 have h:pNames (.inl (cdC c))=[]:=cd_names c
 simp only[SV.names,List.flatMap_cons,List.flatMap_nil,h];rfl
abbrev yc_lcond (m:Nat) (b:List Int) (d:Int):Prop:=0≤d∧d<(m:Int)∧d≤1000∧byOk b
abbrev yr_lcond (m:Nat) (b:List Int) (d:Int):SV:=.tup [.inl (cdC (mcR d b).1),.inl (.d (.sl zBy ((mcR d b).2.map byD)))]
noncomputable abbrev ya_lcond:ArgC ((List Int)×(Int)×Unit):=(acS (cBy) (acS (cInt .i64) ac0))
abbrev yq_lcond (m:Nat):Prop:=CallsY Tryd.prog 17 ya_lcond (fun p:(List Int)×(Int)×Unit=>yc_lcond m p.1 p.2.1) (fun p:(List Int)×(Int)×Unit=>yr_lcond m p.1 p.2.1)
theorem yn_lcond (m:Nat):∀p:(List Int)×(Int)×Unit,((fun p:(List Int)×(Int)×Unit=>yr_lcond m p.1 p.2.1) p).names=[]:=by intro p;exact tup_lc _ _
noncomputable def yg_lcond {X:Ctx} {w0:World} (m:Nat) (h:yq_lcond m):Sy.Spec Tryd.prog X w0:=specD 17 Tryd.call17 ya_lcond (fun p:(List Int)×(Int)×Unit=>yc_lcond m p.1 p.2.1) (fun p:(List Int)×(Int)×Unit=>yr_lcond m p.1 p.2.1) (yn_lcond m) h
attribute [local go_sem] byD_c cBy_d cBy_d' cBy_e cCd_d cCd_e cCd_n pairN_o pairO_n spFn_n take_by zBy_ln
set_option maxRecDepth 20000 in set_option maxHeartbeats 8000000 in
theorem y_lcondS (m:Nat) (hE:yq_lcond m):yq_lcond (m+1):=by
 rintro ⟨b,d,_u⟩ w fz xs hc hfz hl hx
 refine calls_toL Tryd.func17 rfl w fz [(yg_lcond m hE)] [] ya_lcond (fun p:(List Int)×(Int)×Unit=>yr_lcond (m+1) p.1 p.2.1) _ xs hfz hl hx (Nat.le_of_ble_eq_true rfl) ?_
 clear hx hl hfz xs
 simp only[Tryd.f17]
 obtain⟨h0,h1,h2,h3⟩:=hc
 dsimp only at h0 h1 h2 h3
 cases b with
 |nil=>
  have hr:mcR d []=(cP9,[]):=by unfold mcR;cases d.toNat<;>rfl
  simp only[↓eB,seval,go_sem]
  try simp only[impB,impN]
  repeat' first|exact ck|with_reducible apply And.intro|intro _
  all_goals first|exact trivial|(rename_i h;first|exact oI h|exact nah h)|(rename_i _ h _ g;exact sL h g)|decide|omega|(refine ret_with [.fz 14] ?_;simp only[↓eB,seval,go_sem,bne,yr_lcond,hr,cd_mk,cd_nil,cd_dnil,ex_dnil,Cd.d,Ex.d,cP9])
 |cons c r=>
 obtain⟨c0,c1⟩:=h3.2 c (by simp)
 have hu:=u256_ok c0 c1
 simp only[u256,decide_eq_true_eq]at hu
 obtain⟨u1,u2,u3,u4,u5,u6,u7,u8,u9,u10,u11,u12,u13⟩:=hu
 have hbr:byOk r:=⟨by have:=h3.1;simp only[List.length_cons]at this;omega,fun x hx=>h3.2 x (List.mem_cons_of_mem _ hx)⟩
 have hlen:((((r.length+1:Nat)):Int)==0)=false:=by rw[beq_eq_false_iff_ne];omega
 have u14:IntKind.i64.wrap (0+(c.tdiv 5).tmod 6)=(c.tdiv 5).tmod 6:=by rw[Int.zero_add];exact u7
 have hleaf:∀(hz:(decide (d≤0)||decide (c.tmod 5<2))=true),mcR d (c::r)=(leafC c,r):=by
  intro hz
  unfold mcR
  obtain⟨k,rfl⟩:∃k:Nat,d=(k:Int):=⟨d.toNat,by omega⟩
  rw[Int.toNat_natCast]
  cases k with
  |zero=>rfl
  |succ k=>
   have:decide (((k+1:Nat):Int)≤0)=false:=by rw[decide_eq_false_iff_not];omega
   rw[this,Bool.false_or,decide_eq_true_eq]at hz
   simp only[mcC];rw[if_pos hz]
 cases z:(decide (d≤0)||decide (c.tmod 5<2)) with
 |true=>
  have hr:=hleaf z
  cases z1:(c.tmod 5==1) with
  |true=>
   have hl:leafC c=cP9:=by unfold leafC;rw[if_pos z1]
   simp only[↓eB,seval,go_sem,u1,z,z1,hlen]
   try simp only[impB,impN]
   repeat' first|exact ck|with_reducible apply And.intro|intro _
   all_goals first|exact trivial|(rename_i h;first|exact oI h|exact nah h)|(rename_i _ h _ g;exact sL h g)|decide|omega|(refine ret_with [.fz 31] ?_;simp only[↓eB,seval,go_sem,bne,yr_lcond,hr,hl,cd_mk,cd_nil,cd_dnil,ex_dnil,Cd.d,Ex.d,cP9])
  |false=>
   have hl:leafC c= .mk ((c.tdiv 5).tmod 6) (.mk 1 0 [97] .nil .nil) (.mk 0 c [] .nil .nil) .nil .nil []:=by unfold leafC;rw[if_neg (by rw[z1];decide)]
   simp only[↓eB,seval,go_sem,u1,u5,u6,u7,u14,u8,z,z1,hlen]
   try simp only[impB,impN]
   repeat' first|exact ck|with_reducible apply And.intro|intro _
   all_goals first|exact trivial|(rename_i h;first|exact oI h|exact nah h)|(rename_i _ h _ g;exact sL h g)|decide|omega|(refine ret_with [.fz 39,.fz 43,.fz 45] ?_;simp only[↓eB,seval,go_sem,bne,yr_lcond,hr,hl,cd_mk,cd_nil,cd_dnil,ex_dnil,Cd.d,Ex.d,cP9])
 |false=>
 have z':=z
 simp only[Bool.or_eq_false_iff,decide_eq_false_iff_not]at z'
 obtain⟨k,rfl⟩:∃k:Nat,d=((k+1:Nat):Int):=⟨d.toNat-1,by omega⟩
 have hk:IntKind.i64.wrap (((k+1:Nat):Int)-1)=(k:Int):=by rw[wrap_i64 (by omega) (by omega)];omega
 have q:=mc_q k r hbr
 have g1:(0:Int)≤(k:Int):=by omega
 have g2:(k:Int)<(m:Int):=by omega
 have g3:(k:Int)≤1000:=by omega
 have g4:=q.o
 have e1:mcR (k:Int) r=mcC k r:=rfl
 cases z2:(c.tmod 5==2) with
 |true=>
  have hr:mcR ((k+1:Nat):Int) (c::r)=(.mk 8 .nil .nil (mcC k r).1 .nil [],(mcC k r).2):=by
   show mcC (k+1) (c::r)=_
   simp only[mcC];rw[if_neg z'.2,if_pos z2]
  simp only[↓eB,seval,go_sem,yg_lcond,u1,u5,u6,u7,u14,u8,z,z2,hlen,hk,e1]
  try simp only[impB,impN]
  repeat' first|exact ck|with_reducible apply And.intro|intro _
  all_goals first|exact g1|exact g2|exact g3|exact hbr|(rename_i h;first|exact oI h|exact nah h)|(rename_i _ h _ g;exact sL h g)|decide|omega|(refine ret_with [.fz 59] ?_;simp only[↓eB,seval,go_sem,bne,yr_lcond,hr,cd_mk,cd_nil,cd_dnil,ex_dnil,Cd.d,Ex.d,cP9])
 |false=>
  have hr:mcR ((k+1:Nat):Int) (c::r)=(.mk (6+c.tmod 2) .nil .nil (mcC k r).1 (mcC k (mcC k r).2).1 [],(mcC k (mcC k r).2).2):=by
   show mcC (k+1) (c::r)=_
   simp only[mcC];rw[if_neg z'.2,if_neg (by rw[z2];decide)]
  have e2:mcR (k:Int) (mcC k r).2=mcC k (mcC k r).2:=rfl
  simp only[↓eB,seval,go_sem,yg_lcond,u1,u2,u3,u4,u5,u6,u7,u8,z,z2,hlen,hk,e1,e2]
  try simp only[impB,impN]
  repeat' first|exact ck|with_reducible apply And.intro|intro _
  all_goals first|exact g1|exact g2|exact g3|exact g4|exact hbr|(rename_i h;first|exact oI h|exact nah h)|(rename_i _ h _ g;exact sL h g)|decide|omega|(refine ret_with [.fz 75] ?_;simp only[↓eB,seval,go_sem,bne,yr_lcond,hr,cd_mk,cd_nil,cd_dnil,ex_dnil,Cd.d,Ex.d,cP9])
theorem y_lcond:∀m:Nat,yq_lcond m
 |0=>by
  rintro ⟨b,d,_u⟩ w fz xs hc hfz hl hx
  exact absurd hc.2.1 (by have:=hc.1;dsimp only at this ⊢;omega)
 |m+1=>y_lcondS m (y_lcond m)
end Go.Proofs.YtbiepiggmagfcaaDoor
