/- strings.Join; the arguments of a call as text. Conditions: the text is shorter than 10^9 bytes; the table of powers of ten is laid. -/
import Derived.Test.YtbiepiggmagfcaaGreatDoorPx2
import Derived.Shelf.Strings.Split
set_option linter.unusedVariables false
set_option linter.unusedSimpArgs false
namespace Go.Proofs.YtbiepiggmagfcaaGreatDoor
open Go Go.Sy Go.Shelf Go.RowKit
def sD1 (s:List UInt8):List D:=[dS s]
theorem sD1_inj (a b:List UInt8) (h:sD1 a=sD1 b):a=b:=by
 simp only[sD1,List.cons.injEq,D.v.injEq,Value.string.injEq,and_true]at h
 exact bs_inj h
def zSD:List D:=[dS []]
noncomputable def rSs:RowC (List UInt8):=rowOf zSD sD1 sD1_inj fun _=>rfl
theorem rSs_z:rSs.z=zSD:=rfl
theorem rSs_e:rSs.e=sD1:=rfl
theorem rSs_d (s:List UInt8):rSs.d (sD1 s)=some s:=rSs.i s
theorem zSD_ln:zSD.length=1:=rfl
theorem decL_ss (l:List (List UInt8)):decL rSs.d (l.map sD1)=some l:=decL_map rSs l
theorem rowsS1:RowsD sR1 sD1 1:=by
 refine⟨fun a c hc=>?_,fun a c hc=>?_,fun a=>rfl,fun a=>rfl⟩
 ·simp only[sR1,List.mem_singleton]at hc;subst hc;rfl
 ·simp only[sR1,List.mem_singleton]at hc;subst hc;rfl
def jnT (l:List (List UInt8)):List UInt8:=Lib.join l [44,32]
theorem c_Join (l:List (List UInt8)) (ad:Option Addr) (n c:Nat) (w:World) (fz:Nat→Prop) (hfz:∀b,fz b→b<w.heap.size) (hl:l.length≤1000000) (ht:(jnT l).length≤1000000000) {x:Value} (h:Rd (hp w) fz (.sl zSD (l.map sD1)) x) :
  Calls Tryz.prog 47 #[x,.string (bs [44,32])] w fun e w'=>e= .returned (.string (bs (jnT l)))∧Below w.heap.size w w':=by
 have hbs:∀s:List UInt8,(bs s).data.toList=s:=fun s=>by simp[bs]
 have h5:List.map (fun b:ByteArray=>b.data.toList) (l.map bs)=l:=by
  rw[List.map_map]
  have:((fun b:ByteArray=>b.data.toList)∘bs)=id:=by funext s;exact hbs s
  rw[this,List.map_id]
 generalize hD:l.map sD1=es at h
 cases h with
 |nil _ a cap h0=>
  obtain rfl:l=[]:=by simpa using hD
  exact(Any.strings_Join_none Tryz.lays156 x5 a cap (bs [44,32]) w).mono fun e w' ⟨he,hw⟩=>⟨he,hw▸Below.refl _ _⟩
 |sl _ _ b off cap arr T m val hz hb hcap hl' hc hr=>
  subst hD
  have hbw:w.heap[b]?=some (.cells arr T m):=hb
  have:=Any.strings_Join Tryz.lays156 x5 b off cap (l.map bs) (bs [44,32]) w (fun j x hj=>by
    simp only[List.getElem?_map,Option.map_eq_some_iff]at hj
    obtain⟨s,hs,rfl⟩:=hj
    have h1:(l.map sD1)[j]?=some (sD1 s):=by simp[hs]
    have h2:=hc j 0 _ (dS s) h1 rfl
    have h3:=hr j 0 _ (dS s) h1 rfl
    generalize val j 0=y at h2 h3
    cases h3
    simp only[World.cell?,hbw,Option.isSome_none,Bool.false_eq_true,if_false]
    rw[← h2];congr 1;simp[zSD])
   (hfz b hz) (by rw[List.length_map];omega) (by rw[List.length_map];rw[List.length_map]at hcap;exact hcap) (by
    rw[h5,hbs]
    show (jnT l).length≤_
    omega)
  rw[h5,hbs]at this
  rw[List.length_map]at this ⊢
  exact this
abbrev yc_Join (l:List (List UInt8)) (s:List UInt8):Prop:=s=[44,32]∧l.length≤1000000∧(jnT l).length≤1000000000
abbrev yr_Join (l:List (List UInt8)) (_:List UInt8):Value:=.string (bs (jnT l))
theorem y_Join:CallsR Tryz.prog 47 (ahS (cSl rSs) (ahS cStr.H ah0)) (fun p=>yc_Join p.1 p.2.1) (fun p=>ofV (yr_Join p.1 p.2.1)):=by
 rintro ⟨l,s,_u⟩ w fz xs ⟨hs,hl1,hl2⟩ hfz hl hx
 dsimp only at hs hl1 hl2
 subst hs
 obtain⟨x,y,rfl⟩:∃x y,xs=[x,y]:=by
  match xs,hl with
  |[x,y],_=>exact⟨x,y,rfl⟩
 have hy:=hx 1 _ y rfl rfl
 have hxx:=hx 0 _ x rfl rfl
 obtain rfl:=sd_clos hy rfl
 have hr:Rd (hp w) fz (.sl zSD (l.map sD1)) x:=by
  have:=hxx.2
  cases this
  assumption
 refine(c_Join l none 0 0 w fz hfz hl1 hl2 hr).mono ?_
 rintro e w' ⟨rfl,hb⟩
 exact⟨_,_,fz,rfl,rfl,rfl,fun _ h=>h,fun _ h=>.inl h,fun b h=>Nat.lt_of_lt_of_le (hfz b h) hb.size,sd_ofV (w:=w') rfl,hb⟩
theorem yh_Join:∀p:(List (List UInt8))×(List UInt8)×Unit,okV ((fun p:(List (List UInt8))×(List UInt8)×Unit=>yr_Join p.1 p.2.1) p)=true:=by intro p;rfl
noncomputable def yp_Join {X:Ctx} {w0:World}:Sy.Spec Tryz.prog X w0:=specR 47 Tryz.call47 (ahS (cSl rSs) (ahS cStr.H ah0)) (fun p=>yc_Join p.1 p.2.1) (fun p=>yr_Join p.1 p.2.1) yh_Join y_Join
end Go.Proofs.YtbiepiggmagfcaaGreatDoor
namespace Go.Proofs
open Go.Shelf
 shelf_lay LaysM.n221 Nm 221 at Tryz as Tryz.laysM221
end Go.Proofs
namespace Go.Proofs.YtbiepiggmagfcaaGreatDoor
open Go Go.Sy Go.Shelf Go.RowKit
def splT (l:List UInt8):List (List UInt8):=Lib.splitK [10] 0 (Lib.count l [10]) l
theorem bs_data (l:List UInt8):(bs l).data.toList=l:=by simp[bs]
theorem c_genSplit (l:List UInt8) (w:World) (hs:l.length<4294967281) :
  Calls Tryz.prog 86 #[.string (bs l),.string (bs [10]),.int .i64 0,.int .i64 (-1)] w fun e w'=>∃(N:Nat) (arr:Array Value),e= .returned (.slice (some ⟨w.heap.size,0,none⟩) (splT l).length N)∧w'=w.alloc (.cells arr 9)∧
   (splT l).length≤N∧N≤arr.size∧∀(i:Nat) (x:List UInt8),(splT l)[i]?=some x→arr[i]?=some (.string (bs x)):=by
 have L:=Tryz.laysM221
 have hsz:(bs l).size=l.length:=by rw[Lib.size_eq,bs_data]
 have hc:Lib.countB (bs l) (bs [10])=Lib.count l [10]:=by unfold Lib.countB;rw[bs_data,bs_data]
 have hle:Lib.count l [10]≤l.length:=by
  have:=Lib.countB_le (bs [10]) (Nat.le_refl _) (bs l).size (bs l) (Nat.le_refl _)
  rw[hc,hsz]at this;exact this
 have c:=Any.strings_genSplit_core { L with } L.i9 (bs l) (bs [10]) 0 (-1) (Lib.count l [10]+1) w (by rw[hsz];exact hs) (Nat.le_refl _) (Nat.zero_le _)
  (fun x cs hx=>(Any.strings_Index_one { L with } x 10 _).mono fun e w' h=>⟨by rw[h.1];show _=Ending.returned (.int .i64 (Lib.index x.data.toList [10]));rw[Lib.index_one],h.2⟩)
  ((Any.strings_Count_one { L with } (bs l) 10 w).mono fun e w' h=>⟨by rw[h.1,hc];show Ending.returned (.int .i64 ((Lib.countByte (bs l).data.toList 10:Nat):Int))=_;rw[bs_data,Lib.count_one];rfl,h.2⟩)
  (by decide) (by decide) (by rw[if_pos (by decide),hc,hsz];omega)
 rw[Nat.add_sub_cancel]at c
 have hd:=Lib.splitB_data (bs [10]) 0 (Lib.count l [10]) (bs l)
 rw[bs_data,bs_data]at hd
 have hlen:(Lib.splitB (bs [10]) 0 (Lib.count l [10]) (bs l)).length=(splT l).length:=by
  have:=congrArg List.length hd
  rwa [List.length_map]at this
 have hle2:=Lib.splitB_length_le (bs [10]) 0 (Lib.count l [10]) (bs l)
 refine c.mono ?_
 rintro e w' ⟨rfl,rfl⟩
 refine⟨_,_,by rw[hlen],rfl,by omega,by rw[Lib.cellsOf_size hle2];exact Nat.le_refl _,fun i x hx=>?_⟩
 have h1:(Lib.splitB (bs [10]) 0 (Lib.count l [10]) (bs l))[i]?=some (bs x):=by
  have e1:((Lib.splitB (bs [10]) 0 (Lib.count l [10]) (bs l)).map (·.data.toList))[i]?=some x:=by rw[hd];exact hx
  rw[List.getElem?_map]at e1
  obtain⟨y,hy,e2⟩:=Option.map_eq_some_iff.1 e1
  rw[hy,← e2]
  simp[bs]
 unfold Lib.cellsOf
 rw[List.getElem?_toArray,List.getElem?_append_left (by rw[List.length_map];exact(List.getElem?_eq_some_iff.1 h1).1),List.getElem?_map,h1];rfl
def gsFn (t:Nat):List SV→Res
 |[.one (.v (.string s)),.one (.v (.string p)),.one (.v (.int .i64 a)),.one (.v (.int .i64 b))]=>
  some (p=bs [10]∧s.toList.length<4294967281∧a=0∧b = -1,⟨.one (.s t),[(t,.vec 0 zSs ((splT s.toList).map sR1))]⟩,[t])
 |_=>none
theorem gsFn_some {t:Nat} {args:List SV} {c:Prop} {e:Eff} {fp:List Nat} (h:gsFn t args=some (c,e,fp)) (hc:c) :
  ∃l:List UInt8,args=[.one (.v (.string (bs l))),.one (.v (.string (bs [10]))),.one (.v (.int .i64 0)),.one (.v (.int .i64 (-1)))]∧l.length<4294967281∧e=⟨.one (.s t),[(t,.vec 0 zSs ((splT l).map sR1))]⟩∧fp=[t]:=by
 unfold gsFn at h
 split at h
 ·rename_i s p a b
  simp only[Option.some.injEq,Prod.mk.injEq]at h
  obtain⟨rfl,rfl,rfl⟩:=h
  obtain⟨rfl,h2,rfl,rfl⟩:=hc
  exact⟨s.toList,by rw[bs_of],h2,rfl,rfl⟩
 ·cases h
def yp_genSplit {X:Ctx} {w0:World}:Sy.Spec Tryz.prog X w0 where
 f:=86
 call:=Tryz.call86
 fn t args _:=gsFn t args
 ok w I lab fz H t args xs c e fp hA ht h hc hd hl hx:=by
  obtain⟨l,rfl,hl2,rfl,rfl⟩:=gsFn_some h hc
  obtain⟨x0,x1,x2,x3,rfl⟩:∃x0 x1 x2 x3,xs=[x0,x1,x2,x3]:=by
   match xs,hl with
   |[a,b,c,d],_=>exact⟨a,b,c,d,rfl⟩
  obtain rfl:=sd_clos (hx 0 _ x0 rfl rfl) rfl
  obtain rfl:=sd_clos (hx 1 _ x1 rfl rfl) rfl
  obtain rfl:=sd_clos (hx 2 _ x2 rfl rfl) rfl
  obtain rfl:=sd_clos (hx 3 _ x3 rfl rfl) rfl
  refine(c_genSplit l w hl2).mono ?_
  rintro en w' ⟨N,arr,rfl,rfl,h1,h2,h3⟩
  refine⟨_,rfl,post_new0 hA w rfl rfl rfl rfl t ht zSs ((splT l).map sR1) arr 9 N (by rw[List.length_map];exact h1) (by show N*1≤_;omega) (zOK_none rfl) ?_ _ _ (.inr ⟨rfl,?_⟩)⟩
  ·intro i cs hi
   rw[List.getElem?_map]at hi
   obtain⟨x,hx,rfl⟩:=Option.map_eq_some_iff.1 hi
   refine⟨rfl,fun j c hj=>?_⟩
   cases j with
   |zero=>
    obtain rfl:C.v (.string (bs x))=c:=Option.some.inj hj
    exact⟨rfl,(fun k hk=>by cases hk),_,by show arr[i*1+0]?=_;rw[Nat.mul_one,Nat.add_zero];exact h3 i x hx,.v _ _ rfl⟩
   |succ j=>cases hj
  ·simp[slV]
 dom t args H c e fp ht hc h hd:=by
  obtain⟨l,rfl,hl2,rfl,rfl⟩:=gsFn_some h hc
  exact⟨by intro k hk;simp only[SV.names,C.names,List.mem_singleton]at hk;subst hk;simp[updH,upd],by simp⟩
 loc t args H H' c e fp h _:=h
theorem gS_f {X:Ctx} {w0:World}:(yp_genSplit (X:=X) (w0:=w0)).f=86:=rfl
theorem gS_fn {X:Ctx} {w0:World} (t:Nat) (args:List SV) (H:Hp):(yp_genSplit (X:=X) (w0:=w0)).fn t args H=gsFn t args:=rfl
end Go.Proofs.YtbiepiggmagfcaaGreatDoor
