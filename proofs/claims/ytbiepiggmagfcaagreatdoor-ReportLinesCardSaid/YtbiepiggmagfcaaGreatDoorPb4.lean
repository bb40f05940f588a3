/- strings.Builder: WriteByte and WriteString. Conditions: the bytes come to less than 10^14. -/
import Derived.Test.YtbiepiggmagfcaaGreatDoorPb3
import Derived.Shelf.Strconv.Itoa4
import Derived.Test.YtbiepiggmagfcaaGreatDoorGs
set_option linter.unusedVariables false
set_option linter.unusedSimpArgs false
namespace Go.Proofs.YtbiepiggmagfcaaGreatDoor
open Go Go.Sy Go.RowKit
def byI (n:Int):UInt8:=UInt8.ofNat n.toNat
theorem A2Y:byI 9=9:=rfl
theorem wg:byI 10=10:=rfl
theorem A2Z (n:Int) (h0:0≤n) (h1:n<256):byK (byI n)=[.v (.int .u8 n)]:=by
 have:((UInt8.ofNat n.toNat).toNat:Int)=n:=by
  rw[UInt8.toNat_ofNat'];omega
 simp only[byK,byI,this]
theorem px (l:List UInt8):l.map (fun b=>[C.v (.int .u8 b.toNat)])=l.map byK:=rfl
theorem Wl (l:List UInt8):((l.map byK).all fun r=>r.all fun c=>c.names.isEmpty)=true:=A1x.cl
theorem A2a (l:List UInt8):∀r∈l.map byK,∀c∈r,C.stor c=true:=by
 intro r hr c hc
 obtain⟨x,_,rfl⟩:=List.mem_map.1 hr
 simp only[byK,List.mem_singleton]at hc
 subst hc;rfl
theorem MF (u:Bool) (t:List UInt8) (r:List Int):(Bd.mk u t r).c=adC u::.ov zB8 (t.map byK)::r.map inK:=rfl
theorem A2b:zT zB8=some 5:=rfl
theorem A2c:zB8.length=1:=rfl
attribute [go_sem] A2b A2c px
theorem bf {r:List Int} {m:Nat} (h:r.length=m) (h1:m≤1):r=[]∧m=0∨∃n,r=[n]∧m=1:=by
 match r,h with
 |[],h=>exact .inl ⟨rfl,h.symm⟩
 |[n],h=>exact .inr ⟨n,rfl,h.symm⟩
 |_::_::_,h=>simp at h;omega
abbrev FR (T:TypeId) (m:Nat) (b:Bd) (c:Int):Prop:=b.r.length=m∧m≤1∧lieB T m∧b.t.length≤100000000000000∧0≤c∧c<256
abbrev FS (T:TypeId) (m:Nat) (b:Bd) (c:Int):SV:=.one (.v .nilIface)
abbrev Da (T:TypeId) (m:Nat) (b:Bd) (c:Int):List (Option MV):=[some (tgN T (m+2),[({ b with u:=true,t:=b.t++[byI c] }:Bd).c])]
noncomputable abbrev Db (T:TypeId) (m:Nat):ArgN ((Bd)×(Int)×Unit):=(amB (rBd T m) (amD (cInt .u8) am0))
abbrev PH (T:TypeId) (m:Nat):Prop:=Ft Tryz.prog 80 T0 B0 (Db T m).args (Db T m).mem (fun p:(Bd)×(Int)×Unit=>FR T m p.1 p.2.1) (fun p:(Bd)×(Int)×Unit=>FS T m p.1 p.2.1) (fun p:(Bd)×(Int)×Unit=>Da T m p.1 p.2.1)
theorem Wm (T:TypeId) (m:Nat):∀p,(fun p:(Bd)×(Int)×Unit=>FR T m p.1 p.2.1) p→BA ((Db T m).mem p).length ((fun p:(Bd)×(Int)×Unit=>Da T m p.1 p.2.1) p)=true:=by intro p _;rfl
theorem Wn (T:TypeId) (m:Nat):∀p,(fun p:(Bd)×(Int)×Unit=>FR T m p.1 p.2.1) p→AQ ((fun p:(Bd)×(Int)×Unit=>Da T m p.1 p.2.1) p).length ((fun p:(Bd)×(Int)×Unit=>FS T m p.1 p.2.1) p)=true:=by intro p _;rfl
theorem Wo (T:TypeId) (m:Nat):∀p,(fun p:(Bd)×(Int)×Unit=>FR T m p.1 p.2.1) p→∀(i:Nat) q,((fun p:(Bd)×(Int)×Unit=>Da T m p.1 p.2.1) p)[i]?=some (some q)→∀r∈q.2,∀c∈r,cOK i c:=by intro p _;exact HI _ _
noncomputable def Hn {X:Ctx} {w0:World} (T:TypeId) (m:Nat) (h:PH T m) (hG:BB X w0 T0 B0):Sy.Spec Tryz.prog X w0:=Gd 80 Tryz.call80 T0 B0 (Db T m) (fun p:(Bd)×(Int)×Unit=>FR T m p.1 p.2.1) (fun p:(Bd)×(Int)×Unit=>FS T m p.1 p.2.1) (fun p:(Bd)×(Int)×Unit=>Da T m p.1 p.2.1) (Wm T m) (Wn T m) (Wo T m) h hG
attribute [local go_sem] adC Kf Kg MF inK MC Jk Jm Hh Hi Jj Jl MB LV
theorem MU (T:TypeId) (m:Nat):PH T m:=by
 rintro ⟨b,c,_u⟩ w M I lab fz xs hT hBk hc hA hl hx
 refine Eb 1 Tryz.func80 rfl _ rfl w M I lab fz [(LV T m (Qz T m) (BC _ _))] [] _ _ _ xs hA hl hx ((Db T m).an ⟨b,c,_u⟩) (jN rfl) (jN rfl) ?_
 clear hx hl hA xs
 simp only[Tryz.f80]
 obtain⟨hm,hm1,hlie,hlen,h0,h1⟩:=hc
 obtain⟨u,t,r⟩:=b
 dsimp only at hm hlen h0 h1
 rcases bf hm hm1 with⟨rfl,rfl⟩|⟨n,rfl,rfl⟩<;>cases u
 all_goals
  simp only[↓eB,seval,go_sem]
  try simp only[A1,A2]
  repeat' first|exact ck|with_reducible apply And.intro|intro _
  all_goals first|exact⟨rfl,hlie⟩|(rename_i h;first|exact oI h|exact nah h)|(rename_i _ h _ g;exact sL h g)|decide|omega|(refine A0 [.fold 0 0 1] ?_;simp only[↓eB,seval,go_sem,bne,FS,Da,List.map_append,List.all_append,List.isEmpty_nil,Wl,A2Z c h0 h1])
abbrev EM (T:TypeId) (m:Nat) (b:Bd) (s:List UInt8):Prop:=b.r.length=m∧m≤1∧lieB T m∧b.t.length+s.length≤100000000000000
abbrev EN (T:TypeId) (m:Nat) (b:Bd) (s:List UInt8):SV:=.tup [.inl (.v (.int .i64 (s.length:Int))),.inl (.v .nilIface)]
abbrev Cu (T:TypeId) (m:Nat) (b:Bd) (s:List UInt8):List (Option MV):=[some (tgN T (m+2),[({ b with u:=true,t:=b.t++s }:Bd).c])]
noncomputable abbrev Cv (T:TypeId) (m:Nat):ArgN ((Bd)×(List UInt8)×Unit):=(amB (rBd T m) (amD (cStr) am0))
abbrev NB (T:TypeId) (m:Nat):Prop:=Ft Tryz.prog 58 T0 B0 (Cv T m).args (Cv T m).mem (fun p:(Bd)×(List UInt8)×Unit=>EM T m p.1 p.2.1) (fun p:(Bd)×(List UInt8)×Unit=>EN T m p.1 p.2.1) (fun p:(Bd)×(List UInt8)×Unit=>Cu T m p.1 p.2.1)
theorem U7 (T:TypeId) (m:Nat):∀p,(fun p:(Bd)×(List UInt8)×Unit=>EM T m p.1 p.2.1) p→BA ((Cv T m).mem p).length ((fun p:(Bd)×(List UInt8)×Unit=>Cu T m p.1 p.2.1) p)=true:=by intro p _;rfl
theorem U8 (T:TypeId) (m:Nat):∀p,(fun p:(Bd)×(List UInt8)×Unit=>EM T m p.1 p.2.1) p→AQ ((fun p:(Bd)×(List UInt8)×Unit=>Cu T m p.1 p.2.1) p).length ((fun p:(Bd)×(List UInt8)×Unit=>EN T m p.1 p.2.1) p)=true:=by intro p _;rfl
theorem U9 (T:TypeId) (m:Nat):∀p,(fun p:(Bd)×(List UInt8)×Unit=>EM T m p.1 p.2.1) p→∀(i:Nat) q,((fun p:(Bd)×(List UInt8)×Unit=>Cu T m p.1 p.2.1) p)[i]?=some (some q)→∀r∈q.2,∀c∈r,cOK i c:=by intro p _;exact HI _ _
noncomputable def BU {X:Ctx} {w0:World} (T:TypeId) (m:Nat) (h:NB T m) (hG:BB X w0 T0 B0):Sy.Spec Tryz.prog X w0:=Gd 58 Tryz.call58 T0 B0 (Cv T m) (fun p:(Bd)×(List UInt8)×Unit=>EM T m p.1 p.2.1) (fun p:(Bd)×(List UInt8)×Unit=>EN T m p.1 p.2.1) (fun p:(Bd)×(List UInt8)×Unit=>Cu T m p.1 p.2.1) (U7 T m) (U8 T m) (U9 T m) h hG
theorem CM (T:TypeId) (m:Nat):NB T m:=by
 rintro ⟨b,s,_u⟩ w M I lab fz xs hT hBk hc hA hl hx
 refine Eb 1 Tryz.func58 rfl _ rfl w M I lab fz [(LV T m (Qz T m) (BC _ _))] [] _ _ _ xs hA hl hx ((Cv T m).an ⟨b,s,_u⟩) (jN rfl) (jN rfl) ?_
 clear hx hl hA xs
 simp only[Tryz.f58]
 obtain⟨hm,hm1,hlie,hlen⟩:=hc
 obtain⟨u,t,r⟩:=b
 dsimp only at hm hlen
 rcases bf hm hm1 with⟨rfl,rfl⟩|⟨n,rfl,rfl⟩<;>cases u
 all_goals
  simp only[↓eB,seval,go_sem]
  try simp only[A1,A2]
  repeat' first|exact ck|with_reducible apply And.intro|intro _
  all_goals first|exact⟨rfl,hlie⟩|(rename_i _ h _ g;exact A2a _ _ h _ g)|(rename_i h;first|exact oI h|exact nah h)|(rename_i _ h _ g;exact sL h g)|decide|omega|(refine A0 [.fold 0 0 1] ?_;simp only[↓eB,seval,go_sem,bne,EN,Cu,List.map_append,List.all_append,List.isEmpty_nil,Wl])
theorem FT:lieB 107 0:=by
 constructor
 intro n hn
 obtain⟨c,hc⟩:∃c,n / Tryz.prog.cellsOf 107=c+1:=by
  have:Tryz.prog.cellsOf 107=2:=by kernel_rfl
  rw[this]
  exact⟨n / 2-1,by omega⟩
 rw[hc]
 kernel_rfl
theorem Wp:lieB 111 1:=by
 constructor
 intro n hn
 obtain⟨c,hc⟩:∃c,n / Tryz.prog.cellsOf 111=c+1:=by
  have:Tryz.prog.cellsOf 111=3:=by kernel_rfl
  rw[this]
  exact⟨n / 3-1,by omega⟩
 rw[hc]
 kernel_rfl
end Go.Proofs.YtbiepiggmagfcaaGreatDoor
namespace Go.Proofs.YtbiepiggmagfcaaGreatDoor
open Go Go.Sy Go.RowKit
def zSs:List C:=[.v (.string (bs []))]
theorem A2d:zT zSs=none:=rfl
theorem A2e:zSs.length=1:=rfl
def sR1 (s:List UInt8):List C:=[.v (.string (bs s))]
theorem ZL (a b:List UInt8) (h:sR1 a=sR1 b):a=b:=by
 simp only[sR1,List.cons.injEq,C.v.injEq,Value.string.injEq,and_true]at h
 exact bs_inj h
noncomputable def mS:RowM (List UInt8):=KB zSs sR1 fun s c hc=>by simp only[sR1,List.mem_singleton]at hc;subst hc;rfl
theorem A7h:mS.z=zSs:=rfl
theorem A7i:mS.e=sR1:=rfl
theorem A7j (s:List UInt8):mS.d [.v (.string (bs s))]=some s:=Fs ZL s
theorem A7k {l:List (List UInt8)} {i:Nat} {x:List UInt8} (h:l[i]?=some x) (z:List C):(l.map sR1).getD i z=[.v (.string (bs x))]:=by simp[List.getD,h,sR1]
theorem UA (l:List (List UInt8)):(l.map sR1).flatMap (fun r=>r.flatMap C.names)=[]:=by
 induction l with
 |nil=>rfl
 |cons a l ih=>rw[List.map_cons,List.flatMap_cons,ih];rfl
attribute [go_sem] A2d A2e A7j A7h A7i
def Ho (t:List UInt8) (i:Nat):List UInt8:=t++List.replicate i 9
theorem wh (t:List UInt8):Ho t 0=t:=by simp[Ho]
theorem wj (t:List UInt8) (i:Nat):Ho t i++[byI 9]=Ho t (i+1):=by
 rw[A2Y];simp[Ho,List.replicate_succ']
theorem RI (t:List UInt8) (i:Nat):(Ho t i).length=t.length+i:=by simp[Ho]
def ptT (t:List UInt8) (l:List (List UInt8)) (i:Nat):List UInt8:=t++(l.take i).flatten
theorem A2f (t:List UInt8) (l:List (List UInt8)):ptT t l 0=t:=by simp[ptT]
theorem nB {l:List (List UInt8)} {i:Nat} {x:List UInt8} (h:l[i]?=some x) (t:List UInt8):ptT t l i++x=ptT t l (i+1):=by
 unfold ptT
 rw[List.append_assoc,List.take_add_one,h]
 simp
theorem ZM {l:List (List UInt8)} {i:Nat} (h:l.length≤i) (t:List UInt8):ptT t l i=t++l.flatten:=by
 unfold ptT;rw[List.take_of_length_le h]
theorem py {l:List (List UInt8)} {i:Nat} {x:List UInt8} (h:l[i]?=some x) (t:List UInt8):(ptT t l i).length+x.length≤t.length+l.flatten.length:=by
 have h1:l.flatten=(l.take (i+1)).flatten++(l.drop (i+1)).flatten:=by rw[← List.flatten_append,List.take_append_drop]
 have h2:=congrArg List.length (nB h t)
 rw[h1]
 simp only[List.length_append,ptT]at h2 ⊢
 omega
def BL (d:Nat) (l:List (List UInt8)):List UInt8:=List.replicate d 9++l.flatten++[10]
theorem ju (t:List UInt8) (d:Nat) (l:List (List UInt8)) {i:Nat} (h:l.length≤i):ptT (Ho t d) l i++[byI 10]=t++BL d l:=by
 rw[ZM h,wg];simp[Ho,BL]
def dep (b:Bd):Int:=b.r.headD 0
theorem BZ (u:Bool) (t:List UInt8) (n:Int):dep ⟨u,t,[n]⟩=n:=rfl
abbrev NC (b:Bd) (l:List (List UInt8)):Prop:=b.r.length=1∧0≤dep b∧dep b≤1000000∧l.length≤1000∧b.t.length+(dep b).toNat+l.flatten.length+1≤100000000000000
abbrev ND (b:Bd) (l:List (List UInt8)):SV:=.tup []
abbrev Io (b:Bd) (l:List (List UInt8)):List (Option MV):=[some (tgN 111 3,[({ b with u:=true,t:=b.t++BL (dep b).toNat l }:Bd).c]),none]
noncomputable abbrev Ip:ArgN ((Bd)×(List (List UInt8))×Unit):=(amB (rBd 111 1) (amS (mS) am0))
abbrev ZN:Prop:=Ft Tryz.prog 46 T0 B0 (Ip).args (Ip).mem (fun p:(Bd)×(List (List UInt8))×Unit=>NC p.1 p.2.1) (fun p:(Bd)×(List (List UInt8))×Unit=>ND p.1 p.2.1) (fun p:(Bd)×(List (List UInt8))×Unit=>Io p.1 p.2.1)
theorem pz:∀p,(fun p:(Bd)×(List (List UInt8))×Unit=>NC p.1 p.2.1) p→BA ((Ip).mem p).length ((fun p:(Bd)×(List (List UInt8))×Unit=>Io p.1 p.2.1) p)=true:=by intro p _;rfl
theorem qA:∀p,(fun p:(Bd)×(List (List UInt8))×Unit=>NC p.1 p.2.1) p→AQ ((fun p:(Bd)×(List (List UInt8))×Unit=>Io p.1 p.2.1) p).length ((fun p:(Bd)×(List (List UInt8))×Unit=>ND p.1 p.2.1) p)=true:=by intro p _;rfl
theorem qB:∀p,(fun p:(Bd)×(List (List UInt8))×Unit=>NC p.1 p.2.1) p→∀(i:Nat) q,((fun p:(Bd)×(List (List UInt8))×Unit=>Io p.1 p.2.1) p)[i]?=some (some q)→∀r∈q.2,∀c∈r,cOK i c:=by intro p _;exact oe _ _
noncomputable def QT {X:Ctx} {w0:World} (h:ZN) (hG:BB X w0 T0 B0):Sy.Spec Tryz.prog X w0:=Gd 46 Tryz.call46 T0 B0 (Ip) (fun p:(Bd)×(List (List UInt8))×Unit=>NC p.1 p.2.1) (fun p:(Bd)×(List (List UInt8))×Unit=>ND p.1 p.2.1) (fun p:(Bd)×(List (List UInt8))×Unit=>Io p.1 p.2.1) (pz) (qA) (qB) h hG
attribute [local go_sem] adC Kf Kg MF inK MC Jk Jm Hh Hi Jj Jl MB UA Hn BU
set_option maxRecDepth 20000 in set_option maxHeartbeats 4000000 in
theorem wk:ZN:=by
 rintro ⟨b,l,_u⟩ w M I lab fz xs hT hBk hc hA hl hx
 refine Eb 2 Tryz.func46 rfl _ rfl w M I lab fz [(Hn 111 1 (MU _ _) (BC _ _)),(BU 111 1 (CM _ _) (BC _ _))] [] _ _ _ xs hA hl hx ((Ip).an ⟨b,l,_u⟩) (jN rfl) (jN rfl) ?_
 clear hx hl hA xs
 simp only[Tryz.f46]
 obtain⟨hm,hd0,hd1,hl1,hlen⟩:=hc
 obtain⟨u,t,r⟩:=b
 dsimp only at hm hd0 hd1 hlen hl1
 obtain⟨d,rfl⟩:∃d:Int,r=[d]:=List.length_eq_one_iff.1 hm
 rw[BZ]at hd0 hd1 hlen
 obtain⟨n,rfl⟩:∃n:Nat,d=(n:Int):=⟨d.toNat,by omega⟩
 rw[Int.toNat_natCast]at hlen
 simp only[↓eB,seval,go_sem]
 refine AH (Y:=Nat×Bool) (fun y=>y.1≤n)
  (fun y=>⟨[(0,true,.one (.p 0 0 0)),(1,true,.one (.s 1)),(9,true,.one (.v (.int .i64 (n:Int)))),(10,true,.one (.v (.int .i64 (y.1:Int))))],[(0,.vec 0 (tgN 111 3) [[adC y.2,.ov zB8 ((Ho t y.1).map byK),.v (.int .i64 (n:Int))]]),(1,.vec 0 zSs (l.map sR1))]⟩)
  (fun y=>n-y.1) (0,u) (Nat.zero_le _) ?_ ?_
 ·cases u
  all_goals (refine A4 [] ?_;simp only[↓eB,seval,go_sem,wh])
 ·rintro ⟨i,u⟩ hi
  dsimp only at hi
  refine Ab [Hn 111 1 (MU _ _) (BC _ _),BU 111 1 (CM _ _) (BC _ _)] [] _ _ _ ?_
  by_cases hlt:i<n
  ·have h1:=Ah hlt
   have h2:=AM (n:=n) (Nat.le_of_lt hlt) (by omega)
   have h3:=wj t i
   have h4:=RI t i
   cases u<;>simp only[↓eB,seval,go_sem,h1,h2,h3]
   all_goals
    try simp only[A1,A2]
    repeat' first|exact ck|with_reducible apply And.intro|intro _
    all_goals try first|exact Wp|(rw[h4];omega)|(rename_i h;first|exact oI h|exact nah h)|(rename_i _ h _ g;exact sL h g)|decide|omega
    refine⟨(i+1,true),hlt,by omega,A4 [] ?_⟩
    simp only[↓eB,seval,go_sem]
  ·obtain rfl:i=n:=by omega
   have h1:=Ao (Nat.le_refl i)
   simp only[↓eB,seval,go_sem,h1]
   refine AH (Y:=Nat×Bool) (fun y=>y.1≤l.length)
    (fun y=>⟨[(0,true,.one (.p 0 0 0)),(17,true,.one (.s 1)),(18,true,.one (.v (.int .i64 (l.length:Int)))),(19,true,.one (.v (.int .i64 (y.1:Int))))],[(0,.vec 0 (tgN 111 3) [[adC y.2,.ov zB8 ((ptT (Ho t i) l y.1).map byK),.v (.int .i64 (i:Int))]]),(1,.vec 0 zSs (l.map sR1))]⟩)
    (fun y=>l.length-y.1) (0,u) (Nat.zero_le _) ?_ ?_
   ·cases u
    all_goals (refine A4 [] ?_;simp only[↓eB,seval,go_sem,A2f])
   ·rintro ⟨j,u⟩ hj
    dsimp only at hj
    refine Ab [Hn 111 1 (MU _ _) (BC _ _),BU 111 1 (CM _ _) (BC _ _)] [] _ _ _ ?_
    cases hx:l[j]? with
    |none=>
     have hj2:l.length≤j:=List.getElem?_eq_none_iff.1 hx
     have h1:=Ao hj2
     have h3:=ju t i l hj2
     have h4:(ptT (Ho t i) l j).length=t.length+i+l.flatten.length:=by rw[ZM hj2];simp[RI]
     cases u<;>simp only[↓eB,seval,go_sem,h1,h3]
     all_goals
      try simp only[A1,A2]
      repeat' first|exact ck|with_reducible apply And.intro|intro _
      all_goals first|exact Wp|(rw[h4];omega)|(rename_i h;first|exact oI h|exact nah h)|(rename_i _ h _ g;exact sL h g)|decide|omega|(refine A0 [] ?_;simp only[↓eB,seval,go_sem,bne,ND,Io,BZ])
    |some x=>
     have hlt:j<l.length:=(List.getElem?_eq_some_iff.1 hx).1
     have h1:=Ah hlt
     have h2:=AX hlt
     have h2':=AM (n:=l.length) (Nat.le_of_lt hlt) (by omega)
     have h3:=A7k hx
     have h4:=nB hx (Ho t i)
     have h5:=py hx (Ho t i)
     rw[RI]at h5
     cases u<;>simp only[↓eB,seval,go_sem,h1,h2,h2',h3,h4]
     all_goals
      try simp only[A1,A2]
      repeat' first|exact ck|with_reducible apply And.intro|intro _
      all_goals try first|exact Wp|exact hlt|(dsimp only;omega)|(rename_i h;first|exact oI h|exact nah h)|(rename_i _ h _ g;exact sL h g)|decide|omega
      refine⟨(j+1,true),hlt,by dsimp only;omega,A4 [] ?_⟩
      simp only[↓eB,seval,go_sem]
noncomputable def G5 {X:Ctx} {w0:World} (hG:BB X w0 T0 B0):Sy.Spec Tryz.prog X w0:=QT wk hG
end Go.Proofs.YtbiepiggmagfcaaGreatDoor
namespace Go.Proofs
open Go.Shelf
 shelf_lay LaysM.n173 Nm 173 at Tryz as Tryz.laysM173
 shelf_lay LaysM.n171 Nm 171 at Tryz as Tryz.laysM171
end Go.Proofs
namespace Go.Proofs.YtbiepiggmagfcaaGreatDoor
open Go Go.Sy Go.Shelf Go.RowKit
def AY (w:World):Prop:=Lib.TabIs Tryz.prog w "internal/strconv.uint64pow10" .u64 Lib.pow10Tab
def CX (b:Nat):Prop:=Tryz.prog.globalNamed "internal/strconv.uint64pow10" = some b
theorem Br (w w':World) (h:AY w) (hk:∀b,CX b→hp w' b=hp w b):AY w':=by
 unfold AY Lib.TabIs World.var? at*
 obtain⟨g,hg,h⟩:=Option.bind_eq_some_iff.1 h
 rw[hg,Option.bind_some]
 have:=hk g hg
 rw[show w'.heap[g]?=w.heap[g]? from this]
 exact h
theorem DA (w:World) (b:Nat) (h:AY w) (hb:CX b):b<w.heap.size:=by
 unfold AY Lib.TabIs World.var? at h
 rw[hb,Option.bind_some]at h
 cases e:w.heap[b]? with
 |none=>rw[e]at h;cases h
 |some o=>exact(Array.getElem?_eq_some_iff.1 e).1
abbrev w64 (n:Int):Prop := -9223372036854775808≤n∧n≤9223372036854775807
theorem SU (w:World) (q:Nat) (os:Array Obj):Below w.heap.size w (Sort.grow (w.drewN q) os):=
 ⟨rfl,rfl,rfl,by first|(simp[Sort.grow];done)|(simp[Sort.grow];omega),fun i hi=>by
  show ((w.drewN q).heap++os)[i]?=_
  rw[Array.getElem?_append_left (by show i<w.heap.size;omega)]
  rfl⟩
def itT (n:Int):List UInt8:=Lib.itoa n
theorem Ye (n:Int) (h:w64 n) (w:World) (ht:AY w):Calls Tryz.prog 60 #[.int .i64 n,.int .i64 10] w fun e w'=>e= .returned (.string (bs (itT n)))∧Below w.heap.size w w':=
 (Any.strconv_FormatInt_10 Tryz.laysM173 n h.1 h.2 w ht).mono fun e w' ⟨h1,k,os,h2⟩=>⟨h1,by subst h2;exact SU w k os⟩
theorem Yf (p:Int×Int×Unit) (w:World) (ht:AY w) (hc:w64 p.1∧p.2.1=10):Calls Tryz.prog 60 #[.int .i64 p.1,.int .i64 p.2.1] w fun e w'=>e= .returned (.string (bs (itT p.1)))∧Below w.heap.size w w':=by
 obtain⟨n,b,u⟩:=p
 obtain⟨h1,h2⟩:=hc
 dsimp only at h1 h2 ⊢
 subst h2
 exact Ye n h1 w ht
abbrev PI (n:Int) (b:Int):Prop:=w64 n∧b=10
abbrev Hq (n:Int) (b:Int):SV:=SV.one (.v (.string (bs (itT n))))
theorem Yg:Cn Tryz.prog 60 AY (acS (cInt .i64) (acS (cInt .i64) ac0)) (fun p:(Int×(Int×Unit))=>PI p.1 p.2.1) (fun p:(Int×(Int×Unit))=>Hq p.1 p.2.1):=Vk _ _ _ _ (fun p=>[.int .i64 p.1,.int .i64 p.2.1]) (fun p=>.string (bs (itT p.1))) (fun _=>rfl) (fun _=>rfl) (fun _=>rfl) Yf
theorem Wq:∀p:(Int×(Int×Unit)),((fun p:(Int×(Int×Unit))=>Hq p.1 p.2.1) p).names=[]:=by intro p;first|rfl|simp[SV.names,C.names]
noncomputable def Hr {X:Ctx} {w0:World} (hG:BB X w0 AY CX):Sy.Spec Tryz.prog X w0:=FK 60 Tryz.call60 AY (acS (cInt .i64) (acS (cInt .i64) ac0)) (fun p:(Int×(Int×Unit))=>PI p.1 p.2.1) (fun p:(Int×(Int×Unit))=>Hq p.1 p.2.1) Wq Yg hG.stays
theorem wl (p:Int×Unit) (w:World) (ht:AY w) (hc:w64 p.1):Calls Tryz.prog 50 #[.int .i64 p.1] w fun e w'=>e= .returned (.string (bs (itT p.1)))∧Below w.heap.size w w':=
 (Any.strconv_Itoa Tryz.laysM171 p.1 hc.1 hc.2 w ht).mono fun e w' ⟨h1,k,os,h2⟩=>⟨h1,by subst h2;exact SU w k os⟩
abbrev ZO (n:Int):Prop:=w64 n
abbrev QU (n:Int):SV:=SV.one (.v (.string (bs (itT n))))
theorem wm:Cn Tryz.prog 50 AY (acS (cInt .i64) ac0) (fun p:(Int×Unit)=>ZO p.1) (fun p:(Int×Unit)=>QU p.1):=Vk _ _ _ _ (fun p=>[.int .i64 p.1]) (fun p=>.string (bs (itT p.1))) (fun _=>rfl) (fun _=>rfl) (fun _=>rfl) wl
theorem qC:∀p:(Int×Unit),((fun p:(Int×Unit)=>QU p.1) p).names=[]:=by intro p;first|rfl|simp[SV.names,C.names]
noncomputable def UB {X:Ctx} {w0:World} (hG:BB X w0 AY CX):Sy.Spec Tryz.prog X w0:=FK 50 Tryz.call50 AY (acS (cInt .i64) ac0) (fun p:(Int×Unit)=>ZO p.1) (fun p:(Int×Unit)=>QU p.1) qC wm hG.stays
end Go.Proofs.YtbiepiggmagfcaaGreatDoor
namespace Go.Proofs.YtbiepiggmagfcaaGreatDoor
open Go Go.Sy Go.RowKit
theorem Jb {c:C} {z z':List D} {es es':List (List D)} (h:leC c (.d (.sl z es))) (h':leC c (.d (.sl z' es'))):es=es':=by
 rcases h with rfl|⟨h1,h2⟩
 ·rcases h' with h|⟨h3,h4⟩
  ·simp only[C.d.injEq,D.sl.injEq]at h;exact h.2
  ·cases h3
 ·obtain rfl:=Qo h1
  rcases h' with h|⟨h3,h4⟩
  ·cases h
  ·obtain⟨_,he⟩:=KA h2
   obtain⟨_,he'⟩:=KA h4
   simp only[C.d.injEq,D.sl.injEq]at he he'
   rw[he.2,he'.2]
theorem MG {c:C} {x y:Value} (h:leC c (.v x)) (h':leC c (.v y)):x=y:=by
 rcases h with rfl|⟨_,h2⟩
 ·rcases h' with h|⟨_,h4⟩
  ·simpa using h
  ·cases h4
 ·cases h2
theorem SW {c:C} {d d':D} (hd:∀z,oD d≠.d (.sl z [])) (hd':∀z,oD d'≠.d (.sl z [])) (h:leC c (oD d)) (h':leC c (oD d')):oD d=oD d':=by
 rcases h with rfl|⟨_,h2⟩
 ·rcases h' with h|⟨_,h4⟩
  ·exact h
  ·obtain⟨z,h⟩:=KA h4;exact absurd h (hd' z)
 ·obtain⟨z,h⟩:=KA h2;exact absurd h (hd z)
theorem fK {a b:D} (h:oD a=oD b):a=b:=by cases a<;>cases b<;>simp_all [oD]
theorem UC {a b:Ex} (h:exC a=exC b):a=b:=HH (fK h)
theorem ZP {a b:Cd} (h:cdC a=cdC b):a=b:=QG (fK h)
theorem NE (e:Ex):∀z,oD e.d≠.d (.sl z []):=by intro z;cases e<;>simp[Ex.d,oD]
theorem SX (e:Cd):∀z,oD e.d≠.d (.sl z []):=by intro z;cases e<;>simp[Cd.d,oD]
noncomputable def cEx:Cod Ex:=IF (fun e=>.one (exC e)) (fun v a b h h'=>by
 cases v with
 |one c=>exact UC (SW (NE a) (NE b) h h')
 |agg l=>exact h.elim
 |tup l=>exact h.elim) (fun e=>B8 e)
theorem KT (e:Ex):cEx.e e= .one (exC e):=rfl
theorem Hs (e:Ex):cEx.d (.one (exC e))=some e:=Df (e:=fun e=>.one (exC e)) (ED _)
theorem KU:cEx.d (.one (.v (.pointer none)))=some .nil:=Hs .nil
noncomputable def cCd:Cod Cd:=IF (fun e=>.one (cdC e)) (fun v a b h h'=>by
 cases v with
 |one c=>exact ZP (SW (SX a) (SX b) h h')
 |agg l=>exact h.elim
 |tup l=>exact h.elim) (fun e=>BN e)
theorem QV (e:Cd):cCd.e e= .one (cdC e):=rfl
theorem MH (e:Cd):cCd.d (.one (cdC e))=some e:=Df (e:=fun e=>.one (cdC e)) (ED _)
theorem QW:cCd.d (.one (.v (.pointer none)))=some .nil:=MH .nil
theorem A2g (v:SV) (a b:Fn) (h:leV v (.agg a.c)) (h':leV v (.agg b.c)):a=b:=by
 cases v with
 |one c=>exact h.elim
 |tup l=>exact h.elim
 |agg l=>
  obtain⟨n,ps,ls,bd⟩:=a
  obtain⟨n',ps',ls',bd'⟩:=b
  match l,h,h' with
  |[c0,c1,c2,c3],⟨h0,h1,h2,h3,_⟩,⟨g0,g1,g2,g3,_⟩=>
   have e0:=MG h0 g0
   simp only[Value.string.injEq]at e0
   have k0:=bs_inj e0
   have k1:=Bh eV (Jb h1 g1)
   have k2:=Bh eV (Jb h2 g2)
   have k3:=Bh Oy (Jb h3 g3)
   simp only at k0 k1 k2 k3
   subst k0;subst k1;subst k2;subst k3;rfl
noncomputable def cFn:Cod Fn:=IF (fun f=>.agg f.c) A2g (fun f=>rfl)
theorem Jc (f:Fn):cFn.e f= .agg f.c:=rfl
theorem Ht (n:List UInt8) (ps ls:List Vr) (bd:List Sm):cFn.d (.agg [.v (.string (bs n)),.d (.sl zVr (ps.map Vr.r)),.d (.sl zVr (ls.map Vr.r)),.d (.sl zSm (bd.map Sm.r))])=some ⟨n,ps,ls,bd⟩:=Df (e:=fun f:Fn=>.agg f.c) (a:=⟨n,ps,ls,bd⟩) (ED _)
theorem GU (f:Fn):(⟨f.name,f.ps,f.ls,f.body⟩:Fn)=f:=rfl
theorem fL (l:List Vr):(l.map Vr.r).map (fun r=>r.map oD)=l.map Vr.c:=by rw[List.map_map];rfl
theorem bg {l:List Vr} {i:Nat} {x:Vr} (h:l[i]?=some x):(l.map Vr.c).getD i [.v (.string (bs [])),.v (.bool false)]=x.c:=by simp[List.getD,h]
theorem ZQ (a:Vr):∀c∈a.c,C.stor c=true:=by
 intro c hc;simp only[Vr.c,List.mem_cons,List.not_mem_nil,or_false]at hc;rcases hc with rfl|rfl<;>rfl
theorem Dl {A B:Type} (x:Option A):Qw x (none:Option B)=none:=by cases x<;>rfl
theorem Dm {A B:Type} (x:Option B):Qw (none:Option A) x=none:=rfl
theorem Ev {A:Type} (Cd:A→Prop) (F:A→SV):Mo (none:Option A) Cd F=none:=rfl
def Ex.dp:Ex→Nat
 | .nil=>0
 | .mk _ _ _ a b=>max a.dp b.dp+1
def Cd.dp:Cd→Nat
 | .nil=>0
 | .mk _ a b p q _=>max (max a.dp b.dp) (max p.dp q.dp)+1
theorem A2h (v:SV) (a b:Sm) (h:leV v (.agg a.c)) (h':leV v (.agg b.c)):a=b:=by
 cases v with
 |one c=>exact h.elim
 |tup l=>exact h.elim
 |agg l=>
  obtain⟨k,x,y,e,f,cd,ar,th,el,no⟩:=a
  obtain⟨k',x',y',e',f',cd',ar',th',el',no'⟩:=b
  match l,h,h' with
  |[c0,c1,c2,c3,c4,c5,c6,c7,c8,c9],⟨h0,h1,h2,h3,h4,h5,h6,h7,h8,h9,_⟩,⟨g0,g1,g2,g3,g4,g5,g6,g7,g8,g9,_⟩=>
   have e0:=MG h0 g0
   have e1:=MG h1 g1
   have e2:=MG h2 g2
   have e9:=MG h9 g9
   simp only[Value.string.injEq,Value.int.injEq,true_and]at e0 e1 e2 e9
   have k1:=bs_inj e1
   have k2:=bs_inj e2
   have k3:=UC (SW (NE _) (NE _) h3 g3)
   have k4:=UC (SW (NE _) (NE _) h4 g4)
   have k5:=ZP (SW (SX _) (SX _) h5 g5)
   have k6:=Bh eU (Jb h6 g6)
   have k7:=Bh Oy (Jb h7 g7)
   have k8:=Bh Oy (Jb h8 g8)
   simp only[Sm.k,Sm.x,Sm.y,Sm.e,Sm.f,Sm.cd,Sm.ar,Sm.th,Sm.el,Sm.no]at e0 k1 k2 k3 k4 k5 k6 k7 k8 e9
   subst e0;subst k1;subst k2;subst k3;subst k4;subst k5;subst k6;subst k7;subst k8;subst e9;rfl
noncomputable def cSm:Cod Sm:=IF (fun s=>.agg s.c) A2h (fun s=>List.flatMap_eq_nil_iff.2 (EH.nm s))
theorem QX (s:Sm):cSm.e s= .agg s.c:=rfl
theorem wn (s:Sm):cSm.d (.agg s.c)=some s:=Df (e:=fun s:Sm=>.agg s.c) (ED _)
theorem QY (k no:Int) (x y:List UInt8) (e f:Ex) (cd:Cd) (ar:List Ar) (th el:List Sm):cSm.d (.agg [.v (.int .i64 k),.v (.string (bs x)),.v (.string (bs y)),exC e,exC f,cdC cd,.d (.sl zAr (ar.map Ar.r)),.d (.sl zSm (th.map Sm.r)),.d (.sl zSm (el.map Sm.r)),.v (.int .i64 no)])=some (.mk k x y e f cd ar th el no):=wn (.mk k x y e f cd ar th el no)
theorem Jr (k n:Int) (s:List UInt8) (a b:Ex):cEx.d (.one (.d (.pt (some [.v (.int .i64 k),.v (.int .i64 n),.v (.string (bs s)),a.d,b.d]))))=some (.mk k n s a b):=Hs (.mk k n s a b)
theorem wo (s:Sm) (b:Bool):(SV.tup [.inr s.c,.inl (.v (.bool b))]).names=[]:=by
 have h:pNames (.inr s.c)=[]:=List.flatMap_eq_nil_iff.2 (EH.nm s)
 simp only[SV.names,List.flatMap_cons,List.flatMap_nil,h];rfl
theorem fM (l:List Ar):(l.map Ar.r).map (fun r=>r.map oD)=l.map Ar.c:=by rw[List.map_map];rfl
theorem nC {l:List Ar} {i:Nat} {x:Ar} (h:l[i]?=some x):(l.map Ar.c).getD i [.v (.bool false),.v (.string (bs [])),.v (.pointer none)]=x.c:=by simp[List.getD,h]
def fl4:List C:=[.v (.bool false),.v (.bool false),.v (.bool false),.v (.bool false)]
def jv:List C:=[.v (.bool false),.v (.bool false),.v (.bool false),.v (.bool false),.v (.bool false),.v (.bool false),.v (.bool false),.v (.bool false),.v (.bool false),.v (.bool false)]
structure OkS (n:Nat) (s:Sm):Prop where
 e:s.e.dp<n
 f:s.f.dp<n
 c:s.cd.dp<n
 a:∀a∈s.ar,a.e.dp<n
 l:s.ar.length≤5000
noncomputable def cSs:Cod (List Sm):=IF (fun l=>.one (.d (.sl zSm (l.map Sm.r)))) (fun v a b h h'=>by
 cases v with
 |one c=>exact Bh Oy (Jb h h')
 |agg l=>exact h.elim
 |tup l=>exact h.elim) (fun l=>rfl)
theorem KV (l:List Sm):cSs.e l= .one (.d (.sl zSm (l.map Sm.r))):=rfl
theorem KW (l:List Sm):cSs.d (.one (.d (.sl zSm (l.map Sm.r))))=some l:=Df (e:=fun l:List Sm=>.one (.d (.sl zSm (l.map Sm.r)))) (ED _)
def okB (n:Nat):Nat→List Sm→Prop
 |0,_=>False
 |m+1,l=>l.length≤5000∧∀s∈l,OkS n s∧okB n m s.th∧okB n m s.el
theorem QZ {n m:Nat} {l:List Sm} (h:okB n m l):okB n m []:=by
 cases m with
 |zero=>exact h.elim
 |succ m=>exact⟨Nat.zero_le _,fun s hs=>by cases hs⟩
end Go.Proofs.YtbiepiggmagfcaaGreatDoor
