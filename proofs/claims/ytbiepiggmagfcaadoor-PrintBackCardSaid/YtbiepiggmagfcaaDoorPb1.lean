/- strings.Builder that lies at the head of another variable: what copyCheck and String come to. Conditions: the block's type has a Builder at its head; the bytes are what the cells hold. -/
import Derived.Test.YtbiepiggmagfcaaDoorSy30
import Derived.Test.YtbiepiggmagfcaaDoorGs
import Derived.Test.YtbiepiggmagfcaaDoorTie
import Derived.Shelf.Strings.OnBuilder
import Derived.Shelf.Lay
import Derived.Shelf.LaysM
import Derived.Test.YtbiepiggmagfcaaDoorAt
set_option linter.unusedVariables false
set_option linter.unusedSimpArgs false
namespace Go.Proofs
open Go.Shelf
 shelf_lay Lays.n156 Nm 156 at Tryd as Tryd.lays156
end Go.Proofs
namespace Go.Proofs.YtbiepiggmagfcaaDoor
open Go Go.Sy Go.Shelf Go.RowKit
section
variable {P:Program} {ρ:Ren}
set_option maxHeartbeats 1000000 in
set_option maxRecDepth 100000 in
theorem cc_fresh (L:Lays.n240 P ρ) (X:Builder.X72 P ρ) (b:Nat) (w:World) (T:TypeId) (n:Nat) (h0:w.cell? ⟨b,0,none⟩=some (.pointer none)) (hsh:w.shape? b=some (T,n)) (hn:0<n) (hlies:liesAt P P.depth T (n / P.cellsOf T) 0 (ρ.t 72) 1=true) (hfz:w.frozen? ⟨b,0,none⟩=false) :
  Calls P (ρ.f 240) #[.pointer (some ⟨b,0,none⟩)] w fun e w'=>e= .returned (.tuple #[])∧w'=w.setCell ⟨b,0,none⟩ (.pointer (some ⟨b,0,none⟩)):=by
 obtain⟨j,hj,hjs⟩:=Option.map_eq_some_iff.1 X.sizeBuilder
 have mixed:=L.mixed
 have t72:=L.t72;have a72:=L.a72;have z72:=L.z72;have v72:=L.v72;have u72:=run_underlying L.t72
 have t70:=L.t70;have a70:=L.a70;have z70:=L.z70;have v70:=L.v70;have u70:=run_underlying L.t70
 have t9:=L.t9;have a9:=L.a9;have z9:=L.z9;have v9:=L.v9;have u9:=run_underlying L.t9
 have t4:=L.t4;have a4:=L.a4;have z4:=L.z4;have v4:=L.v4;have u4:=run_underlying L.t4
 have t164:=L.t164;have a164:=L.a164;have z164:=L.z164;have v164:=L.v164;have u164:=run_underlying L.t164
 go_enter L.f240,Body.n240_ntmps ρ
 go_wp2
 rw[Lib.run_to_unsafe w ⟨b,0,none⟩ L.t70 L.t164 hj (by rw[hjs];decide) hsh hn]
 simp only[Result.andThen]
 rw[Oper.upon_value]
 go_wp2
 rw[run_callFunc_extern L.f276 (by kernel_rfl) (by kernel_rfl) (by kernel_rfl) (e:=Extern.AbiNoEscape.same) (by kernel_rfl),Lib.run_noEscape]
 simp only[Result.andThen]
 rw[Oper.upon_value]
 go_wp2
 rw[Lib.run_from_unsafe w ⟨b,0,none⟩ L.t164 L.t70 hj hsh hlies]
 simp only[Result.andThen]
 rw[Oper.upon_value]
 go_wp2
 go_end0
 exact⟨rfl,rfl⟩
set_option maxHeartbeats 2000000 in
set_option maxRecDepth 100000 in
theorem sb_plain (L:Lays.n169 P ρ) (X:Builder.Extra P ρ) (b:Nat) (w w2:World) (ad:Option Addr) (n c:Nat) (q:Value) (r:ByteArray) (c1:w.drew.cell? ⟨b,1,none⟩=some (.slice ad n c))
  (hSD:(Builtin.unsafeSliceData_ #[(ρ.t 37)] (ρ.t 127) #[.slice ad n c]).run P w.drew= .ok q w.drew) (hUS:(Builtin.unsafeString_ #[(ρ.t 127),(ρ.t 3)] (ρ.t 9) #[q,.int .i64 n]).run P w.drew= .ok (.string r) w2) :
  Calls P (ρ.f 169) #[.pointer (some ⟨b,0,none⟩)] w fun e w'=>e= .returned (.string r)∧w'=w2:=by
 have mixed:=L.mixed
 have t72:=L.t72;have a72:=L.a72;have z72:=L.z72;have v72:=L.v72;have u72:=run_underlying L.t72
 have t70:=L.t70;have a70:=L.a70;have z70:=L.z70;have v70:=L.v70;have u70:=run_underlying L.t70
 have t37:=L.t37;have a37:=L.a37;have z37:=L.z37;have v37:=L.v37;have u37:=run_underlying L.t37
 have t127:=L.t127;have a127:=L.a127;have z127:=L.z127;have v127:=L.v127;have u127:=run_underlying L.t127
 have t3:=L.t3;have a3:=L.a3;have z3:=L.z3;have v3:=L.v3;have u3:=run_underlying L.t3
 have t9:=L.t9;have a9:=L.a9;have z9:=L.z9;have v9:=L.v9;have u9:=run_underlying L.t9
 have t5:=X.t5;have a5:=X.a5;have z5:=X.z5;have v5:=X.v5;have u5:=run_underlying X.t5
 go_enter L.f169,Body.n169_ntmps ρ
 go_wp2
 go_region_o
 all_goals (go_wp2;go_ret;exact⟨rfl,rfl⟩)
set_option maxHeartbeats 2000000 in
set_option maxRecDepth 100000 in
theorem sb_zero (L:Lays.n169 P ρ) (X:Builder.Extra P ρ) (b g:Nat) (w:World) (T:TypeId) (k:Nat) (hb:b<w.heap.size) (c0:w.cell? ⟨b,1,none⟩=some (.slice (some ⟨g,0,none⟩) 0 0)) (hg:w.shape? g=some (T,k)) :
  Calls P (ρ.f 169) #[.pointer (some ⟨b,0,none⟩)] w fun e w'=>e= .returned (.string ⟨#[]⟩)∧w'=w.drew.alloc (.view ⟨g,0,none⟩ (ρ.t 5)):=by
 have hUS:=Any.unsafeString_none L X
 have c1:w.drew.cell? ⟨b,1,none⟩=some (.slice (some ⟨g,0,none⟩) 0 0):=c0
 have hSD:(Builtin.unsafeSliceData_ #[(ρ.t 37)] (ρ.t 127) #[.slice (some ⟨g,0,none⟩) 0 0]).run P w.drew= .ok (.pointer (some ⟨w.drew.heap.size,0,none⟩)) (w.drew.alloc (.view ⟨g,0,none⟩ (ρ.t 5))):=
  Lib.run_unsafeSliceData_zero w.drew _ _ (ρ.t 5) L.t127 ⟨g,0,none⟩ 0 (T,k) hg
 have c2:(w.drew.alloc (.view ⟨g,0,none⟩ (ρ.t 5))).cell? ⟨b,1,none⟩=some (.slice (some ⟨g,0,none⟩) 0 0):=by
  rw[← c1]
  have:(w.drew.alloc (.view ⟨g,0,none⟩ (ρ.t 5))).heap[b]?=w.drew.heap[b]?:=Lib.alloc_old w.drew _ b hb
  simp only[World.cell?,this]
 have c3:(w.alloc (.view ⟨g,0,none⟩ (ρ.t 5))).drew.cell? ⟨b,1,none⟩=some (.slice (some ⟨g,0,none⟩) 0 0):=c2
 have mixed:=L.mixed
 have t72:=L.t72;have a72:=L.a72;have z72:=L.z72;have v72:=L.v72;have u72:=run_underlying L.t72
 have t70:=L.t70;have a70:=L.a70;have z70:=L.z70;have v70:=L.v70;have u70:=run_underlying L.t70
 have t37:=L.t37;have a37:=L.a37;have z37:=L.z37;have v37:=L.v37;have u37:=run_underlying L.t37
 have t127:=L.t127;have a127:=L.a127;have z127:=L.z127;have v127:=L.v127;have u127:=run_underlying L.t127
 have t3:=L.t3;have a3:=L.a3;have z3:=L.z3;have v3:=L.v3;have u3:=run_underlying L.t3
 have t9:=L.t9;have a9:=L.a9;have z9:=L.z9;have v9:=L.v9;have u9:=run_underlying L.t9
 have t5:=X.t5;have a5:=X.a5;have z5:=X.z5;have v5:=X.v5;have u5:=run_underlying X.t5
 go_enter L.f169,Body.n169_ntmps ρ
 go_wp2
 go_region_o
 all_goals (go_wp2;go_ret;exact⟨rfl,rfl⟩)
end
end Go.Proofs.YtbiepiggmagfcaaDoor
namespace Go.Proofs.YtbiepiggmagfcaaDoor
open Go Go.Sy Go.RowKit
theorem sC_any (k:Nat):sC k .any= .any:=rfl
theorem sC_v (k:Nat) (x:Value):sC k (.v x)= .v x:=rfl
theorem sC_p (k a x y:Nat):sC k (.p a x y)= .p k x y:=rfl
theorem sC_d (k:Nat) (x:D):sC k (.d x)= .d x:=rfl
theorem sC_ov (k:Nat) (z:List C) (es:List (List C)):sC k (.ov z es)= .ov z es:=rfl
theorem sR_1 (k:Nat) (r:List C):sR k [r]=[r.map (sC k)]:=rfl
attribute [go_sem] sC_any sC_v sC_p sC_d sC_ov sR_1 selfM specN_f specN_fn spN_some amB_d ptrB amB_a amB_m
structure Bd where
 u:Bool
 t:List UInt8
 r:List Int
def adC:Bool→C
 |true=>.p 0 0 0
 |false=>.v (.pointer none)
def byK (x:UInt8):List C:=[.v (.int .u8 x.toNat)]
def inK (n:Int):C:=.v (.int .i64 n)
def zB8:List C:=[.d (.v (.pointer (some ⟨5,0,none⟩)))]
def Bd.c (b:Bd):List C:=adC b.u::.ov zB8 (b.t.map byK)::b.r.map inK
theorem byK_inj (a b:UInt8) (h:byK a=byK b):a=b:=by
 simp only[byK,List.cons.injEq,C.v.injEq,Value.int.injEq,and_true,true_and]at h
 exact UInt8.toNat_inj.1 (by omega)
theorem bd_uq (k:Nat) (a b:Bd) (h:a.c.map (sC k)=b.c.map (sC k)):a=b:=by
 obtain⟨u,t,r⟩:=a
 obtain⟨u',t',r'⟩:=b
 simp only[Bd.c,List.map_cons,List.cons.injEq,sC_ov,C.ov.injEq,true_and,List.map_map]at h
 obtain⟨h1,h2,h3⟩:=h
 have hr:r=r':=map_inj (f:=sC k∘inK) (fun a b h=>by simpa [inK,sC] using h) h3
 rw[map_inj byK_inj h2,hr]
 cases u<;>cases u'<;>simp[adC,sC]at h1<;>rfl
theorem bdc_ok (b:Bd):∀c∈b.c,cOK 0 c:=by
 obtain⟨u,t,r⟩:=b
 intro c hc
 rcases List.mem_cons.1 hc with rfl|hc
 ·cases u
  ·exact .inl rfl
  ·exact .inr ⟨rfl,0,0,rfl⟩
 rcases List.mem_cons.1 hc with rfl|hc
 ·exact .inl rfl
 ·obtain⟨n,_,rfl⟩:=List.mem_map.1 hc
  exact .inl rfl
open Classical in
noncomputable def rBd (T:TypeId) (m:Nat):RowB Bd where
 z:=tgN T (m+2)
 d k r:=if h:∃b:Bd,b.r.length=m∧r=b.c.map (sC k) then some h.choose else none
 e:=Bd.c
 h k r b hd:=by
  split at hd
  ·rename_i h
   simp only[Option.some.injEq]at hd
   subst hd
   exact h.choose_spec.2
  ·cases hd
 n:=bdc_ok
theorem rBd_z (T:TypeId) (m:Nat):(rBd T m).z=tgN T (m+2):=rfl
theorem rBd_e (T:TypeId) (m:Nat):(rBd T m).e=Bd.c:=rfl
open Classical in
theorem rBd_d (T:TypeId) (m k:Nat) (b:Bd) (h:b.r.length=m):(rBd T m).d k (b.c.map (sC k))=some b:=by
 have hex:∃a:Bd,a.r.length=m∧b.c.map (sC k)=a.c.map (sC k):=⟨b,h,rfl⟩
 unfold rBd
 simp only[dif_pos hex]
 exact congrArg some (bd_uq k _ _ hex.choose_spec.2.symm)
theorem rBd_u0 (T:TypeId) (k:Nat) (t:List UInt8):(rBd T 0).d k [.p k 0 0,.ov zB8 (t.map byK)]=some ⟨true,t,[]⟩:=rBd_d T 0 k ⟨true,t,[]⟩ rfl
theorem rBd_n0 (T:TypeId) (k:Nat) (t:List UInt8):(rBd T 0).d k [.v (.pointer none),.ov zB8 (t.map byK)]=some ⟨false,t,[]⟩:=rBd_d T 0 k ⟨false,t,[]⟩ rfl
theorem rBd_f0 (T:TypeId) (k:Nat):(rBd T 0).d k [.v (.pointer none),.ov zB8 []]=some ⟨false,[],[]⟩:=rBd_n0 T k []
theorem rBd_u1 (T:TypeId) (k:Nat) (t:List UInt8) (n:Int):(rBd T 1).d k [.p k 0 0,.ov zB8 (t.map byK),.v (.int .i64 n)]=some ⟨true,t,[n]⟩:=rBd_d T 1 k ⟨true,t,[n]⟩ rfl
theorem rBd_n1 (T:TypeId) (k:Nat) (t:List UInt8) (n:Int):(rBd T 1).d k [.v (.pointer none),.ov zB8 (t.map byK),.v (.int .i64 n)]=some ⟨false,t,[n]⟩:=rBd_d T 1 k ⟨false,t,[n]⟩ rfl
theorem rBd_f1 (T:TypeId) (k:Nat) (n:Int):(rBd T 1).d k [.v (.pointer none),.ov zB8 [],.v (.int .i64 n)]=some ⟨false,[],[n]⟩:=rBd_n1 T k [] n
theorem bd_cOK (z:List C) (b:Bd) (l:List (Option MV)):∀(i:Nat) q,(some (z,[b.c])::l.map fun _=>(none:Option MV))[i]?=some (some q)→∀r∈q.2,∀c∈r,cOK i c:=by
 intro i q hq r hr c hc
 cases i with
 |zero=>
  simp only[List.getElem?_cons_zero,Option.some.injEq]at hq
  subst hq
  simp only[List.mem_singleton]at hr
  subst hr
  exact bdc_ok b c hc
 |succ i=>simp at hq
theorem bd_cOK1 (z:List C) (b:Bd):∀(i:Nat) q,([some (z,[b.c])]:List (Option MV))[i]?=some (some q)→∀r∈q.2,∀c∈r,cOK i c:=bd_cOK z b []
theorem bd_cOK2 (z:List C) (b:Bd):∀(i:Nat) q,([some (z,[b.c]),none]:List (Option MV))[i]?=some (some q)→∀r∈q.2,∀c∈r,cOK i c:=bd_cOK z b [none]
theorem no_cOK1:∀(i:Nat) q,([none]:List (Option MV))[i]?=some (some q)→∀r∈q.2,∀c∈r,cOK i c:=by
 intro i q hq
 cases i<;>simp at hq
theorem rowsY:RowsD byK (fun x=>[.v (.int .u8 x.toNat)]) 1:=by
 refine⟨fun a c hc=>?_,fun a c hc=>?_,fun a=>rfl,fun a=>rfl⟩
 ·simp only[byK,List.mem_singleton]at hc;subst hc;rfl
 ·simp only[byK,List.mem_singleton]at hc;subst hc;rfl
structure lieB (T:TypeId) (m:Nat):Prop where
 h:∀n,m+2≤n→liesAt Tryd.prog Tryd.prog.depth T (n / Tryd.prog.cellsOf T) 0 83 1=true
theorem x72:Builder.X72 Tryd.prog Tryd.lays156_ren:=⟨by kernel_rfl,by kernel_rfl⟩
end Go.Proofs.YtbiepiggmagfcaaDoor
