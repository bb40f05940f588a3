/- The rules of the walks, in one set. No conditions but those in each statement. -/
import Derived.Test.YtbiepiggmagfcaaGreatDoorSy28
import Derived.Test.YtbiepiggmagfcaaGreatDoorTy2
import Derived.Test.YtbiepiggmagfcaaGreatDoorSy30
import Derived.Test.YtbiepiggmagfcaaGreatDoorTie
import Derived.Shelf.Strings.OnBuilder
import Derived.Shelf.Lay
import Derived.Shelf.LaysM
set_option linter.unusedVariables false
set_option linter.unusedSimpArgs false
set_option maxRecDepth 100000
set_option maxHeartbeats 2000000
open List (mem_singleton)
namespace Go.Proofs.YtbiepiggmagfcaaGreatDoor
open Go Go.Sy Go.RowKit
set_option linter.defProp false in
def eB:=And.intro @e_nil (And.intro @e_cons (And.intro @e_text (And.intro @e_draw (And.intro @e_seq (And.intro @e_block (And.intro @e_then1 (And.intro @e_then2 (And.intro @e_then3 (And.intro @e_in1 (And.intro @e_in2 (And.intro @e_in3 (And.intro @e_nrmK (And.intro @e_drawK (And.intro @e_seqK (And.intro @e_ret (And.intro @e_skip (And.intro @e_label (And.intro @e_exit (And.intro @e_cond (And.intro @e_loop (And.intro @e_impBt (And.intro @e_impBf (And.intro @e_impNt @e_impNf)))))))))))))))))))))))
theorem vg {r0:List C} (h:r0.all C.stor=true):∀r∈[r0],∀c∈r,C.stor c=true:=by
 intro r h1 c h2
 rw[mem_singleton]at h1
 subst h1
 exact List.all_eq_true.1 h c h2
attribute [go_sem] zB A8y tB tC tD A8z mD zD Uu tE FI HE opG guarded slotOf WO guardOf opS fresh rV IJ Nk Nl Qp L9 EX F6 IK GI Pq ptrA D6 LA D7 LB boI GJ HX HY GK Qr Ck inP EE A8e A8f A3v A8g A3w A3x A8h yS Ps Qq unV Uj dK Kh Rt GS H9 Et E2 F0 GL dM dL Qt reads IH EJ DC Es E1 EK setAll KI M3 EW tgN A45 A46 A47 A8n A8o A8p A48 A49 A4A A8q A8r A8s A4B A4C A4D yZ yc A8t A8u A8v yd ye A4E A4F A4G A4H A4I ldc ldV yT A8i A8j A8k A8l A3y A3z A40 A41 A8m A42 clL II A8d A3t A3u Ui eqL eqC lQ arI dJ rdv rdg okV lkp St.app addL lj ofV SV.tupB SV.cells yN A8G A8H A8I A8J A3U A3V A3W A3X st_q A3Y C.flat ET IR Q8 DS Km toP updH capN List.getElem?_nil A44 KD zH zI dv tJ mH mG A4W A4X A4Y A4Z dt du Uw Ux QB ndB CY bumpC S4 yP A8O A8P A8Q A8R A3e A3f A3g A3h A8S A3i nmM chO D3 memO A4a A4b A4c A4d A4e A4f A4g A4h mJ take_len A4i A4j A4k A4l Nat.sub_zero Jf Jg tA mA tK mL tH mE dr A4T A4S A4V A4U dn zE zF A4Q A4R slR slD Oo S2 toD D2 D9 List.length_map Int.toNat_natCast Int.natCast_nonneg A4M A4L A4O A4N dm ix sy lw sz lz dl WP iP dH Option.map_some Option.getD_some Option.getD_none Option.map_none Option.bind_some List.all_cons List.all_nil Bool.and_true Bool.true_and Bool.and_self Bool.not_not true_and and_true and_self true_or or_true forall_const true_implies imp_self implies_true List.getElem?_cons_zero List.getElem?_cons_succ List.getElem?_toArray List.length_cons List.length_nil List.map_cons List.map_nil List.set_cons_zero List.set_cons_succ List.length_set List.drop_zero List.drop_succ_cons List.take_succ_cons List.take_zero List.getD_cons_zero List.getD_cons_succ ne_eq not_false_eq_true Nat.le_refl Int.toNat_zero Nat.zero_mul Nat.zero_add Nat.add_zero Nat.one_mul jB Bool.not_false Bool.not_true Bool.or_false Bool.false_or Bool.or_true Bool.true_or Bool.and_false Bool.false_and Bool.not_eq_false' Bool.not_eq_true' Bool.or_self wrap_i64 wrap_u64 wrap_u8 Int.natCast_zero Int.natCast_one Int.cast_ofNat_Int Int.lt_irrefl decide_false decide_true Nat.lt_irrefl Nat.lt_add_one Int.toNat_one List.take_nil List.drop_nil List.flatMap_cons List.flatMap_nil List.append_nil List.nil_append List.cons_append List.append_eq List.any_nil List.any_cons List.contains_cons List.contains_nil yO A8K A8L A8M A8N A3Z A3a A3b A3c nm_q A3d SV.names pNames List.mem_cons List.not_mem_nil or_false forall_eq forall_eq_or_imp and_imp false_implies mem_singleton not_true_eq_false if_true if_false yL sN leV leL leT leP De ES Tn iv Q5 chNames YY yM A8B A8C A8D A8E A3P A3Q A3R A3S A8F A3T Cmd.run di de nilC' dj lk Qv fzS yQ A8T A8U A8V A8W A3j A3k A3l A3m A8X A3n yR A8Y A8Z A8a A8b A3o A3p A3q A3r A8c A3s YW Ok Us Kk To1 Uv Sy.Sub zC A4P
attribute [go_sem] ya2 A9D zX B03 zq B0l B15 A0c B1f B22 A61 A6P A6m A72 A7D
theorem ck {o:Array Oper} {t:Sy.Trace} (h:Q6 o t=true:=by kernel_rfl):Q6 o t=true:=h
theorem sL {r0 r:List C} {c:C} (h1:r∈[r0]) (h2:c∈r) (h:r0.all C.stor=true:=by simp only[go_sem]):C.stor c=true:=vg h r h1 c h2
theorem oI {A:Type} {a b:A} (h:some a=some b):b=a:=(Option.some.inj h).symm
theorem nah {p q:Prop} (h:p) (k:¬p:=by decide):q:=absurd h k
end Go.Proofs.YtbiepiggmagfcaaGreatDoor
namespace Go.Proofs
open Go.Shelf
 shelf_lay Lays.n156 Nm 156 at Tryz as Tryz.lays156
end Go.Proofs
namespace Go.Proofs.YtbiepiggmagfcaaGreatDoor
open Go Go.Sy Go.Shelf Go.RowKit
section
variable {P:Program} {ρ:Ren}
theorem jQ (L:Lays.n240 P ρ) (X:Builder.X72 P ρ) (b:Nat) (w:World) (T:TypeId) (n:Nat) (h0:w.cell? ⟨b,0,none⟩=some (.pointer none)) (hsh:w.shape? b=some (T,n)) (hn:0<n) (hlies:liesAt P P.depth T (n / P.cellsOf T) 0 (ρ.t 72) 1=true) (hfz:w.frozen? ⟨b,0,none⟩=false) :
  Calls P (ρ.f 240) #[.pointer (some ⟨b,0,none⟩)] w fun e w'=>e= .returned (.tuple #[])∧w'=w.setCell ⟨b,0,none⟩ (.pointer (some ⟨b,0,none⟩)):=by
 obtain⟨j,hj,hjs⟩:=Option.map_eq_some_iff.1 X.sizeBuilder
 have mixed:=L.mixed
 have t72:=L.t72;have a72:=L.a72;have z72:=L.z72;have v72:=L.v72;have u72:=run_underlying L.t72
 have t70:=L.t70;have a70:=L.a70;have z70:=L.z70;have v70:=L.v70;have u70:=run_underlying L.t70
 have t9:=L.t9;have a9:=L.a9;have z9:=L.z9;have v9:=L.v9;have u9:=run_underlying L.t9
 have t4:=L.t4;have a4:=L.a4;have z4:=L.z4;have v4:=L.v4;have u4:=run_underlying L.t4
 have t164:=L.t164;have a164:=L.a164;have z164:=L.z164;have v164:=L.v164;have u164:=run_underlying L.t164
 go_enter L.f240,Body.n240_ntmps ρ
 go_wp2
 rw[Lib.run_to_unsafe w ⟨b,0,none⟩ L.t70 L.t164 hj (by rw[hjs];decide) hsh hn]
 simp only[Result.andThen]
 rw[Oper.upon_value]
 go_wp2
 rw[run_callFunc_extern L.f276 (by kernel_rfl) (by kernel_rfl) (by kernel_rfl) (e:=Extern.AbiNoEscape.same) (by kernel_rfl),Lib.run_noEscape]
 simp only[Result.andThen]
 rw[Oper.upon_value]
 go_wp2
 rw[Lib.run_from_unsafe w ⟨b,0,none⟩ L.t164 L.t70 hj hsh hlies]
 simp only[Result.andThen]
 rw[Oper.upon_value]
 go_wp2
 go_end0
 exact⟨rfl,rfl⟩
theorem RE (L:Lays.n169 P ρ) (X:Builder.Extra P ρ) (b:Nat) (w w2:World) (ad:Option Addr) (n c:Nat) (q:Value) (r:ByteArray) (c1:w.drew.cell? ⟨b,1,none⟩=some (.slice ad n c))
  (hSD:(Builtin.unsafeSliceData_ #[(ρ.t 37)] (ρ.t 127) #[.slice ad n c]).run P w.drew= .ok q w.drew) (hUS:(Builtin.unsafeString_ #[(ρ.t 127),(ρ.t 3)] (ρ.t 9) #[q,.int .i64 n]).run P w.drew= .ok (.string r) w2) :
  Calls P (ρ.f 169) #[.pointer (some ⟨b,0,none⟩)] w fun e w'=>e= .returned (.string r)∧w'=w2:=by
 have mixed:=L.mixed
 have t72:=L.t72;have a72:=L.a72;have z72:=L.z72;have v72:=L.v72;have u72:=run_underlying L.t72
 have t70:=L.t70;have a70:=L.a70;have z70:=L.z70;have v70:=L.v70;have u70:=run_underlying L.t70
 have t37:=L.t37;have a37:=L.a37;have z37:=L.z37;have v37:=L.v37;have u37:=run_underlying L.t37
 have t127:=L.t127;have a127:=L.a127;have z127:=L.z127;have v127:=L.v127;have u127:=run_underlying L.t127
 have t3:=L.t3;have a3:=L.a3;have z3:=L.z3;have v3:=L.v3;have u3:=run_underlying L.t3
 have t9:=L.t9;have a9:=L.a9;have z9:=L.z9;have v9:=L.v9;have u9:=run_underlying L.t9
 have t5:=X.t5;have a5:=X.a5;have z5:=X.z5;have v5:=X.v5;have u5:=run_underlying X.t5
 go_enter L.f169,Body.n169_ntmps ρ
 go_wp2
 go_region_o
 all_goals (go_wp2;go_ret;exact⟨rfl,rfl⟩)
theorem oR (L:Lays.n169 P ρ) (X:Builder.Extra P ρ) (b g:Nat) (w:World) (T:TypeId) (k:Nat) (hb:b<w.heap.size) (c0:w.cell? ⟨b,1,none⟩=some (.slice (some ⟨g,0,none⟩) 0 0)) (hg:w.shape? g=some (T,k)) :
  Calls P (ρ.f 169) #[.pointer (some ⟨b,0,none⟩)] w fun e w'=>e= .returned (.string ⟨#[]⟩)∧w'=w.drew.alloc (.view ⟨g,0,none⟩ (ρ.t 5)):=by
 have hUS:=Any.unsafeString_none L X
 have c1:w.drew.cell? ⟨b,1,none⟩=some (.slice (some ⟨g,0,none⟩) 0 0):=c0
 have hSD:(Builtin.unsafeSliceData_ #[(ρ.t 37)] (ρ.t 127) #[.slice (some ⟨g,0,none⟩) 0 0]).run P w.drew= .ok (.pointer (some ⟨w.drew.heap.size,0,none⟩)) (w.drew.alloc (.view ⟨g,0,none⟩ (ρ.t 5))):=
  Lib.run_unsafeSliceData_zero w.drew _ _ (ρ.t 5) L.t127 ⟨g,0,none⟩ 0 (T,k) hg
 have c2:(w.drew.alloc (.view ⟨g,0,none⟩ (ρ.t 5))).cell? ⟨b,1,none⟩=some (.slice (some ⟨g,0,none⟩) 0 0):=by
  rw[← c1]
  have:(w.drew.alloc (.view ⟨g,0,none⟩ (ρ.t 5))).heap[b]?=w.drew.heap[b]?:=Lib.alloc_old w.drew _ b hb
  simp only[World.cell?,this]
 have c3:(w.alloc (.view ⟨g,0,none⟩ (ρ.t 5))).drew.cell? ⟨b,1,none⟩=some (.slice (some ⟨g,0,none⟩) 0 0):=c2
 have mixed:=L.mixed
 have t72:=L.t72;have a72:=L.a72;have z72:=L.z72;have v72:=L.v72;have u72:=run_underlying L.t72
 have t70:=L.t70;have a70:=L.a70;have z70:=L.z70;have v70:=L.v70;have u70:=run_underlying L.t70
 have t37:=L.t37;have a37:=L.a37;have z37:=L.z37;have v37:=L.v37;have u37:=run_underlying L.t37
 have t127:=L.t127;have a127:=L.a127;have z127:=L.z127;have v127:=L.v127;have u127:=run_underlying L.t127
 have t3:=L.t3;have a3:=L.a3;have z3:=L.z3;have v3:=L.v3;have u3:=run_underlying L.t3
 have t9:=L.t9;have a9:=L.a9;have z9:=L.z9;have v9:=L.v9;have u9:=run_underlying L.t9
 have t5:=X.t5;have a5:=X.a5;have z5:=X.z5;have v5:=X.v5;have u5:=run_underlying X.t5
 go_enter L.f169,Body.n169_ntmps ρ
 go_wp2
 go_region_o
 all_goals (go_wp2;go_ret;exact⟨rfl,rfl⟩)
end
end Go.Proofs.YtbiepiggmagfcaaGreatDoor
namespace Go.Proofs.YtbiepiggmagfcaaGreatDoor
open Go Go.Sy Go.RowKit
inductive Ex where
 |nil
 |mk (k n:Int) (s:List UInt8) (a b:Ex)
inductive Cd where
 |nil
 |mk (k:Int) (a b:Ex) (p q:Cd) (s:List UInt8)
structure Ar where
 p:Bool
 s:List UInt8
 e:Ex
inductive Sm where
 |mk (k:Int) (x y:List UInt8) (e f:Ex) (c:Cd) (args:List Ar) (th el:List Sm) (no:Int)
structure Vr where
 s:List UInt8
 p:Bool
structure Fn where
 name:List UInt8
 ps:List Vr
 ls:List Vr
 body:List Sm
structure Tok where
 k:Int
 t:List UInt8
 p:Int
abbrev dN:D:=.v (.pointer none)
abbrev dI (n:Int):D:=.v (.int .i64 n)
abbrev dS (s:List UInt8):D:=.v (.string (bs s))
abbrev dL0:D:=.v (.slice none 0 0)
def Ex.d:Ex→D
 | .nil=>dN
 | .mk k n s a b=>.pt (some [dI k,dI n,dS s,a.d,b.d])
def Cd.d:Cd→D
 | .nil=>dN
 | .mk k a b p q s=>.pt (some [dI k,a.d,b.d,p.d,q.d,dS s])
def Ar.r (a:Ar):List D:=[.v (.bool a.p),dS a.s,a.e.d]
def zAr:List D:=[.v (.bool false),dS [],dN]
def zSm:List D:=[dI 0,dS [],dS [],dN,dN,dN,dL0,dL0,dL0,dI 0]
mutual
def Sm.r:Sm→List D
 | .mk k x y e f c args th el no=>[dI k,dS x,dS y,e.d,f.d,c.d,.sl zAr (args.map Ar.r),.sl zSm (Sm.rs th),.sl zSm (Sm.rs el),dI no]
def Sm.rs:List Sm→List (List D)
 |[]=>[]
 |s::l=>s.r::Sm.rs l
end
theorem eT:∀l:List Sm,Sm.rs l=l.map Sm.r
 |[]=>by simp[Sm.rs]
 |s::l=>by simp only[Sm.rs,List.map_cons,eT l]
def Vr.r (v:Vr):List D:=[dS v.s,.v (.bool v.p)]
def zVr:List D:=[dS [],.v (.bool false)]
def Fn.r (f:Fn):List D:=[dS f.name,.sl zVr (f.ps.map Vr.r),.sl zVr (f.ls.map Vr.r),.sl zSm (f.body.map Sm.r)]
def zFn:List D:=[dS [],dL0,dL0,dL0]
def Tok.r (x:Tok):List D:=[dI x.k,dS x.t,dI x.p]
def zTk:List D:=[dI 0,dS [],dI 0]
theorem jR:ByteArray.empty=bs []:=rfl
theorem bs_inj {a b:List UInt8} (h:bs a=bs b):a=b:=by rw[← KD a,← KD b,h]
theorem HH:∀{a b:Ex},a.d=b.d→a=b
 | .nil,.nil,_=>rfl
 | .nil,.mk ..,h=>by simp[Ex.d]at h
 | .mk ..,.nil,h=>by simp[Ex.d]at h
 | .mk k n s a b,.mk k' n' s' a' b',h=>by
  simp only[Ex.d,D.pt.injEq,jS,List.cons.injEq,D.v.injEq,Value.int.injEq,Value.string.injEq,true_and,and_true]at h
  obtain⟨rfl,rfl,h1,h2,h3⟩:=h
  rw[bs_inj h1,HH h2,HH h3]
theorem QG:∀{a b:Cd},a.d=b.d→a=b
 | .nil,.nil,_=>rfl
 | .nil,.mk ..,h=>by simp[Cd.d]at h
 | .mk ..,.nil,h=>by simp[Cd.d]at h
 | .mk k a b p q s,.mk k' a' b' p' q' s',h=>by
  simp only[Cd.d,D.pt.injEq,jS,List.cons.injEq,D.v.injEq,Value.int.injEq,Value.string.injEq,true_and,and_true]at h
  obtain⟨rfl,h1,h2,h3,h4,h5⟩:=h
  rw[bs_inj h5,HH h1,HH h2,QG h3,QG h4]
theorem Bh {A B:Type} {f:A→B} (hf:∀a b,f a=f b→a=b):∀{l m:List A},l.map f=m.map f→l=m
 |[],[],_=>rfl
 |[],_::_,h=>by simp at h
 |_::_,[],h=>by simp at h
 |a::l,b::m,h=>by
  simp only[List.map_cons,List.cons.injEq]at h
  rw[hf _ _ h.1,Bh hf h.2]
theorem eU (a b:Ar) (h:a.r=b.r):a=b:=by
 obtain⟨p,s,e⟩:=a
 obtain⟨p',s',e'⟩:=b
 simp only[Ar.r,List.cons.injEq,D.v.injEq,Value.bool.injEq,Value.string.injEq,and_true]at h
 obtain⟨rfl,h1,h2⟩:=h
 rw[bs_inj h1,HH h2]
mutual
theorem Oy:∀(a b:Sm),a.r=b.r→a=b
 | .mk k x y e f c args th el no,.mk k' x' y' e' f' c' args' th' el' no',h=>by
  simp only[Sm.r,List.cons.injEq,D.v.injEq,D.sl.injEq,Value.int.injEq,Value.string.injEq,true_and,and_true]at h
  obtain⟨rfl,h1,h2,h3,h4,h5,h6,h7,h8,rfl⟩:=h
  rw[bs_inj h1,bs_inj h2,HH h3,HH h4,QG h5,Bh eU h6,Tv th th' h7,Tv el el' h8]
theorem Tv:∀(l m:List Sm),Sm.rs l=Sm.rs m→l=m
 |[],[],_=>rfl
 |[],_::_,h=>by simp[Sm.rs]at h
 |_::_,[],h=>by simp[Sm.rs]at h
 |a::l,b::m,h=>by
  simp only[Sm.rs,List.cons.injEq]at h
  rw[Oy a b h.1,Tv l m h.2]
end
theorem eV (a b:Vr) (h:a.r=b.r):a=b:=by
 obtain⟨s,p⟩:=a
 obtain⟨s',p'⟩:=b
 simp only[Vr.r,List.cons.injEq,D.v.injEq,Value.bool.injEq,Value.string.injEq,and_true]at h
 rw[bs_inj h.1,h.2]
theorem eW (a b:Tok) (h:a.r=b.r):a=b:=by
 obtain⟨s,p,q⟩:=a
 obtain⟨s',p',q'⟩:=b
 simp only[Tok.r,List.cons.injEq,D.v.injEq,Value.int.injEq,Value.string.injEq,and_true,true_and]at h
 rw[h.1,bs_inj h.2.1,h.2.2]
theorem WW (d:D):toD (oD d)=some d:=by cases d<;>rfl
theorem Yw (d:D):Cl (oD d)=true:=by cases d<;>rfl
theorem Yx (d:D):(oD d).flat=true:=by cases d<;>rfl
theorem eX (n:Nat) (d:D):Bn n (oD d)=true:=by cases d<;>rfl
theorem eY (f:Nat→Nat) (d:D):Dg f (oD d)=oD d:=by cases d<;>rfl
theorem mY (k t:Nat) (d:D):mvC k t (oD d)=oD d:=by cases d<;>rfl
theorem mZ (k:Nat) (z:List D) (es:List (List D)) (d:D):fzC k z es (oD d)=oD d:=by cases d<;>rfl
theorem eZ (k u:Nat) (p:List (Nat×Nat)) (i j:Nat) (d:D) (r:List C):ldc k u p i j (oD d::r)=oD d::ldc k u p i (j+1) r:=by cases d<;>rfl
def Ex.isNil:Ex→Bool
 | .nil=>true
 |_=>false
def Cd.isNil:Cd→Bool
 | .nil=>true
 |_=>false
def exC (e:Ex):C:=oD e.d
theorem A1j (e:Ex):oD e.d=exC e:=rfl
theorem WX (e:Ex):toD (exC e)=some e.d:=WW _
theorem oT (e:Ex):Cl (exC e)=true:=Yw _
theorem Tw (e:Ex):C.stor (exC e)=true:=LC _
theorem B8 (e:Ex):C.names (exC e)=[]:=Oe _
theorem oU (e:Ex):(exC e).flat=true:=Yx _
theorem AK (n:Nat) (e:Ex):Bn n (exC e)=true:=eX n _
theorem vh (f:Nat→Nat) (e:Ex):Dg f (exC e)=exC e:=eY f _
theorem A1k (k t:Nat) (e:Ex):mvC k t (exC e)=exC e:=mY k t _
theorem A1l (k:Nat) (z:List D) (es:List (List D)) (e:Ex):fzC k z es (exC e)=exC e:=mZ k z es _
theorem vi (k u:Nat) (p:List (Nat×Nat)) (i j:Nat) (e:Ex) (r:List C):ldc k u p i j (exC e::r)=exC e::ldc k u p i (j+1) r:=eZ ..
theorem oV (e:Ex):IL (exC e)=some e.isNil:=by cases e<;>rfl
theorem B3:exC .nil= .v (.pointer none):=rfl
def cdC (e:Cd):C:=oD e.d
theorem A1m (e:Cd):oD e.d=cdC e:=rfl
theorem ec (e:Cd):toD (cdC e)=some e.d:=WW _
theorem oW (e:Cd):Cl (cdC e)=true:=Yw _
theorem Yy (e:Cd):C.stor (cdC e)=true:=LC _
theorem BN (e:Cd):C.names (cdC e)=[]:=Oe _
theorem oX (e:Cd):(cdC e).flat=true:=Yx _
theorem AL (n:Nat) (e:Cd):Bn n (cdC e)=true:=eX n _
theorem vj (f:Nat→Nat) (e:Cd):Dg f (cdC e)=cdC e:=eY f _
theorem A1n (k t:Nat) (e:Cd):mvC k t (cdC e)=cdC e:=mY k t _
theorem A1o (k:Nat) (z:List D) (es:List (List D)) (e:Cd):fzC k z es (cdC e)=cdC e:=mZ k z es _
theorem vk (k u:Nat) (p:List (Nat×Nat)) (i j:Nat) (e:Cd) (r:List C):ldc k u p i j (cdC e::r)=cdC e::ldc k u p i (j+1) r:=eZ ..
theorem oY (e:Cd):IL (cdC e)=some e.isNil:=by cases e<;>rfl
theorem CG:cdC .nil= .v (.pointer none):=rfl
theorem Hg (k n:Int) (s:List UInt8) (a b:Ex):exC (.mk k n s a b)= .d (.pt (some [.v (.int .i64 k),.v (.int .i64 n),.v (.string (bs s)),a.d,b.d])):=rfl
theorem KM (k:Int) (a b:Ex) (p q:Cd) (s:List UInt8):cdC (.mk k a b p q s)= .d (.pt (some [.v (.int .i64 k),a.d,b.d,p.d,q.d,.v (.string (bs s))])):=rfl
theorem F2:Ex.d .nil= .v (.pointer none):=rfl
theorem IW:Cd.d .nil= .v (.pointer none):=rfl
structure Pr where
 l:List Tok
 i:Int
 en:Int
 e:Int
 at':Int
 deep:Int
 n:Int
theorem Ji (p:Pr):(⟨p.l,p.i,p.en,p.e,p.at',p.deep,p.n⟩:Pr)=p:=rfl
def Pr.r (p:Pr):List D:=[.sl zTk (p.l.map Tok.r),dI p.i,dI p.en,dI p.e,dI p.at',dI p.deep,dI p.n]
def Pr.c (p:Pr):List C:=[.d (.sl zTk (p.l.map Tok.r)),.v (.int .i64 p.i),.v (.int .i64 p.en),.v (.int .i64 p.e),.v (.int .i64 p.at'),.v (.int .i64 p.deep),.v (.int .i64 p.n)]
def vm:List D:=[dL0,dI 0,dI 0,dI 0,dI 0,dI 0,dI 0]
abbrev zPr:List C:=[.v (.int .i64 0),.v (.int .i64 0),.v (.int .i64 0),.v (.int .i64 0),.v (.int .i64 0),.v (.int .i64 0),.v (.int .i64 0)]
theorem oZ (a b:Pr) (h:a.r=b.r):a=b:=by
 obtain⟨l,i,en,e,at',deep,n⟩:=a
 obtain⟨l',i',en',e',at2,deep',n'⟩:=b
 simp only[Pr.r,List.cons.injEq,D.v.injEq,D.sl.injEq,Value.int.injEq,true_and,and_true]at h
 obtain⟨h1,rfl,rfl,rfl,rfl,rfl,rfl⟩:=h
 rw[Bh eW h1]
theorem oa (a b:Pr) (h:a.c=b.c):a=b:=by
 obtain⟨l,i,en,e,at',deep,n⟩:=a
 obtain⟨l',i',en',e',at2,deep',n'⟩:=b
 simp only[Pr.c,List.cons.injEq,C.v.injEq,C.d.injEq,D.sl.injEq,Value.int.injEq,true_and,and_true]at h
 obtain⟨h1,rfl,rfl,rfl,rfl,rfl,rfl⟩:=h
 rw[Bh eW h1]
noncomputable def rPr:RowC Pr:=rowOf vm Pr.r oZ fun _=>rfl
theorem S9 (p:Pr):∀c∈p.c,c.names=[]:=by
 intro c hc
 simp only[Pr.c,List.mem_cons,List.not_mem_nil,or_false]at hc
 rcases hc with rfl|rfl|rfl|rfl|rfl|rfl|rfl<;>rfl
noncomputable def mPr:RowM Pr:=KB zPr Pr.c S9
theorem A1p:rPr.z=vm:=rfl
theorem A1q:rPr.e=Pr.r:=rfl
theorem KN (l:List Tok) (i en e at' deep n:Int):rPr.d [.sl zTk (l.map Tok.r),dI i,dI en,dI e,dI at',dI deep,dI n]=some ⟨l,i,en,e,at',deep,n⟩:=rPr.i ⟨l,i,en,e,at',deep,n⟩
theorem KO:mPr.z=zPr:=rfl
theorem KP:mPr.e=Pr.c:=rfl
theorem KQ (l:List Tok) (i en e at' deep n:Int):mPr.d [.d (.sl zTk (l.map Tok.r)),.v (.int .i64 i),.v (.int .i64 en),.v (.int .i64 e),.v (.int .i64 at'),.v (.int .i64 deep),.v (.int .i64 n)]=some ⟨l,i,en,e,at',deep,n⟩:=Fs oa ⟨l,i,en,e,at',deep,n⟩
theorem DY (p:Pr):∀q,some q∈[some ((zPr,[p.c]):MV)]→∀r∈q.2,∀c∈r,c.names=[]:=by
 intro q hq r hr c hc
 simp only[mem_singleton,jS]at hq
 subst hq
 simp only[mem_singleton]at hr
 subst hr
 exact S9 p c hc
abbrev tk0:Tok:=⟨0,[],0⟩
theorem oc (l:List Tok) (i:Nat):(l.map Tok.r).getD i zTk=Tok.r (l.getD i tk0):=by
 simp only[List.getD,List.getElem?_map]
 cases l[i]?<;>rfl
attribute [go_sem] A1j WX oT Tw B8 oU vh A1k A1l vi oV A1m ec oW Yy BN oX vj A1n A1o vk oY dI dL0 dN dS jR WW
end Go.Proofs.YtbiepiggmagfcaaGreatDoor
namespace Go.Proofs.YtbiepiggmagfcaaGreatDoor
open Go Go.Sy Go.RowKit
def Ar.c (a:Ar):List C:=[.v (.bool a.p),.v (.string (bs a.s)),exC a.e]
def zAc:List C:=[.v (.bool false),.v (.string (bs [])),.v (.pointer none)]
theorem A1r:zT zAc=none:=rfl
attribute [go_sem] A1r
def Vr.c (v:Vr):List C:=[.v (.string (bs v.s)),.v (.bool v.p)]
def zVc:List C:=[.v (.string (bs [])),.v (.bool false)]
theorem A1s:zT zVc=none:=rfl
attribute [go_sem] A1s
def Sm.k:Sm→Int| .mk k _ _ _ _ _ _ _ _ _=>k
def Sm.x:Sm→List UInt8| .mk _ x _ _ _ _ _ _ _ _=>x
def Sm.y:Sm→List UInt8| .mk _ _ y _ _ _ _ _ _ _=>y
def Sm.e:Sm→Ex| .mk _ _ _ e _ _ _ _ _ _=>e
def Sm.f:Sm→Ex| .mk _ _ _ _ f _ _ _ _ _=>f
def Sm.cd:Sm→Cd| .mk _ _ _ _ _ c _ _ _ _=>c
def Sm.ar:Sm→List Ar| .mk _ _ _ _ _ _ a _ _ _=>a
def Sm.th:Sm→List Sm| .mk _ _ _ _ _ _ _ t _ _=>t
def Sm.el:Sm→List Sm| .mk _ _ _ _ _ _ _ _ e _=>e
def Sm.no:Sm→Int| .mk _ _ _ _ _ _ _ _ _ n=>n
theorem bG (s:Sm):s.r=[dI s.k,dS s.x,dS s.y,s.e.d,s.f.d,s.cd.d,.sl zAr (s.ar.map Ar.r),.sl zSm (s.th.map Sm.r),.sl zSm (s.el.map Sm.r),dI s.no]:=by
 cases s;simp only[Sm.r,eT,Sm.k,Sm.x,Sm.y,Sm.e,Sm.f,Sm.cd,Sm.ar,Sm.th,Sm.el,Sm.no]
def Sm.c (s:Sm):List C:=[.v (.int .i64 s.k),.v (.string (bs s.x)),.v (.string (bs s.y)),exC s.e,exC s.f,cdC s.cd,.d (.sl zAr (s.ar.map Ar.r)),.d (.sl zSm (s.th.map Sm.r)),.d (.sl zSm (s.el.map Sm.r)),.v (.int .i64 s.no)]
def zSc:List C:=[.v (.int .i64 0),.v (.string (bs [])),.v (.string (bs [])),.v (.pointer none),.v (.pointer none),.v (.pointer none),.v (.slice none 0 0),.v (.slice none 0 0),.v (.slice none 0 0),.v (.int .i64 0)]
theorem A1t:zT zSc=none:=rfl
attribute [go_sem] A1t
def Fn.c (f:Fn):List C:=[.v (.string (bs f.name)),.d (.sl zVr (f.ps.map Vr.r)),.d (.sl zVr (f.ls.map Vr.r)),.d (.sl zSm (f.body.map Sm.r))]
abbrev fn0:Fn:=⟨[],[],[],[]⟩
section
variable {A:Type} {l:List A}
structure RowsD (f:A→List C) (g:A→List D) (n:Nat):Prop where
 nm:∀a,∀c∈f a,C.names c=[]
 st:∀a,∀c∈f a,C.stor c=true
 td:∀a,D2 (f a)=some (g a)
 len:∀a,(f a).length=n
theorem A1u (k t:Nat) {c:C} (h:c.names=[]) (h2:C.stor c=true):mvC k t c=c:=by
 cases c<;>first|rfl|(simp[C.stor]at h2;done)|(simp[C.names]at h;done)|(rename_i f caps;simp only[C.names]at h;simp[mvC,h])
theorem A1v (k:Nat) (z:List D) (es:List (List D)) {c:C} (h:c.names=[]) (h2:C.stor c=true):fzC k z es c=c:=by
 cases c<;>first|rfl|(simp[C.stor]at h2;done)|(simp[C.names]at h;done)|(rename_i f caps;simp only[C.names]at h;simp[fzC,h])
theorem Yz {σ:C→C} {r:List C} (h:∀c∈r,σ c=c):r.map σ=r:=by
 induction r with
 |nil=>rfl
 |cons c r ih=>rw[List.map_cons,h c (List.mem_cons_self ..),ih fun c hc=>h c (List.mem_cons_of_mem _ hc)]
variable {f:A→List C} {g:A→List D} {n:Nat} (hR:RowsD f g n)
include hR
theorem RowsD.fn:List.flatMap (fun r=>List.flatMap C.names r) (l.map f)=[]:=zJ f hR.nm l
theorem RowsD.ds:D9 (l.map f)=some (l.map g):=S6 f hR.td l
theorem RowsD.ds1 (r:List C):D9 (l.map f++[r])=(D2 r).map fun d=>l.map g++[d]:=by
 induction l with
 |nil=>simp only[List.map_nil,List.nil_append,D9];cases D2 r<;>rfl
 |cons a l ih=>simp only[List.map_cons,List.cons_append,D9,hR.td a,ih];cases D2 r<;>rfl
theorem RowsD.mv (k t:Nat):(l.map f).map (fun r=>r.map (mvC k t))=l.map f:=Yd f (fun a=>Yz fun c hc=>A1u k t (hR.nm a c hc) (hR.st a c hc)) l
theorem RowsD.fz (k:Nat) (z:List D) (es:List (List D)):(l.map f).map (fun r=>r.map (fzC k z es))=l.map f:=Yd f (fun a=>Yz fun c hc=>A1v k z es (hR.nm a c hc) (hR.st a c hc)) l
theorem RowsD.stor:Bt (l.map f):=Uy f hR.st l
theorem RowsD.cl:Qv (l.map f)=true:=mK f hR.nm l
end
theorem Ec:RowsD Ar.c Ar.r 3:=by
 refine⟨fun a c hc=>?_,fun a c hc=>?_,fun a=>?_,fun a=>rfl⟩
 ·simp only[Ar.c,List.mem_cons,List.not_mem_nil,or_false]at hc;rcases hc with rfl|rfl|rfl<;>first|rfl|exact B8 _
 ·simp only[Ar.c,List.mem_cons,List.not_mem_nil,or_false]at hc;rcases hc with rfl|rfl|rfl<;>first|rfl|exact Tw _
 ·simp only[Ar.c,D2,toD,WX,Ar.r]
theorem BR:RowsD Vr.c Vr.r 2:=by
 refine⟨fun a c hc=>?_,fun a c hc=>?_,fun a=>?_,fun a=>rfl⟩
 ·simp only[Vr.c,List.mem_cons,List.not_mem_nil,or_false]at hc;rcases hc with rfl|rfl<;>rfl
 ·simp only[Vr.c,List.mem_cons,List.not_mem_nil,or_false]at hc;rcases hc with rfl|rfl<;>rfl
 ·simp only[Vr.c,D2,toD,Vr.r]
theorem EH:RowsD Sm.c Sm.r 10:=by
 refine⟨fun a c hc=>?_,fun a c hc=>?_,fun a=>?_,fun a=>rfl⟩
 ·simp only[Sm.c,List.mem_cons,List.not_mem_nil,or_false]at hc;rcases hc with rfl|rfl|rfl|rfl|rfl|rfl|rfl|rfl|rfl|rfl<;>first|rfl|exact B8 _|exact BN _
 ·simp only[Sm.c,List.mem_cons,List.not_mem_nil,or_false]at hc;rcases hc with rfl|rfl|rfl|rfl|rfl|rfl|rfl|rfl|rfl|rfl<;>first|rfl|exact Tw _|exact Yy _
 ·rw[bG];simp only[Sm.c,D2,toD,WX,ec]
end Go.Proofs.YtbiepiggmagfcaaGreatDoor
namespace Go.Proofs.YtbiepiggmagfcaaGreatDoor
open Go Go.Sy Go.RowKit
theorem vn (k:Nat):sC k .any= .any:=rfl
theorem A7O (k:Nat) (x:Value):sC k (.v x)= .v x:=rfl
theorem A7P (k a x y:Nat):sC k (.p a x y)= .p k x y:=rfl
theorem A7Q (k:Nat) (x:D):sC k (.d x)= .d x:=rfl
theorem ma (k:Nat) (z:List C) (es:List (List C)):sC k (.ov z es)= .ov z es:=rfl
theorem A7R (k:Nat) (r:List C):sR k [r]=[r.map (sC k)]:=rfl
attribute [go_sem] vn A7O A7P A7Q ma A7R E0 sQ lO B2I A43 Rr Kf Kg
structure Bd where
 u:Bool
 t:List UInt8
 r:List Int
def adC:Bool→C
 |true=>.p 0 0 0
 |false=>.v (.pointer none)
def byK (x:UInt8):List C:=[.v (.int .u8 x.toNat)]
def inK (n:Int):C:=.v (.int .i64 n)
def zB8:List C:=[.d (.v (.pointer (some ⟨5,0,none⟩)))]
def Bd.c (b:Bd):List C:=adC b.u::.ov zB8 (b.t.map byK)::b.r.map inK
theorem od (a b:UInt8) (h:byK a=byK b):a=b:=by
 simp only[byK,List.cons.injEq,C.v.injEq,Value.int.injEq,and_true,true_and]at h
 exact UInt8.toNat_inj.1 (by omega)
theorem A1w (k:Nat) (a b:Bd) (h:a.c.map (sC k)=b.c.map (sC k)):a=b:=by
 obtain⟨u,t,r⟩:=a
 obtain⟨u',t',r'⟩:=b
 simp only[Bd.c,List.map_cons,List.cons.injEq,ma,C.ov.injEq,true_and,List.map_map]at h
 obtain⟨h1,h2,h3⟩:=h
 have hr:r=r':=Bh (f:=sC k∘inK) (fun a b h=>by simpa [inK,sC] using h) h3
 rw[Bh od h2,hr]
 cases u<;>cases u'<;>simp[adC,sC]at h1<;>rfl
theorem SA (b:Bd):∀c∈b.c,cOK 0 c:=by
 obtain⟨u,t,r⟩:=b
 intro c hc
 rcases List.mem_cons.1 hc with rfl|hc
 ·cases u
  ·exact .inl rfl
  ·exact .inr ⟨rfl,0,0,rfl⟩
 rcases List.mem_cons.1 hc with rfl|hc
 ·exact .inl rfl
 ·obtain⟨n,_,rfl⟩:=List.mem_map.1 hc
  exact .inl rfl
open Classical in
noncomputable def rBd (T:TypeId) (m:Nat):RowB Bd where
 z:=tgN T (m+2)
 d k r:=if h:∃b:Bd,b.r.length=m∧r=b.c.map (sC k) then some h.choose else none
 e:=Bd.c
 h k r b hd:=by
  split at hd
  ·rename_i h
   simp only[jS]at hd
   subst hd
   exact h.choose_spec.2
  ·cases hd
 n:=SA
theorem MB (T:TypeId) (m:Nat):(rBd T m).z=tgN T (m+2):=rfl
theorem MC (T:TypeId) (m:Nat):(rBd T m).e=Bd.c:=rfl
open Classical in
theorem Vz (T:TypeId) (m k:Nat) (b:Bd) (h:b.r.length=m):(rBd T m).d k (b.c.map (sC k))=some b:=by
 have hex:∃a:Bd,a.r.length=m∧b.c.map (sC k)=a.c.map (sC k):=⟨b,h,rfl⟩
 unfold rBd
 simp only[dif_pos hex]
 exact congrArg some (A1w k _ _ hex.choose_spec.2.symm)
theorem Jj (T:TypeId) (k:Nat) (t:List UInt8):(rBd T 0).d k [.p k 0 0,.ov zB8 (t.map byK)]=some ⟨true,t,[]⟩:=Vz T 0 k ⟨true,t,[]⟩ rfl
theorem Hh (T:TypeId) (k:Nat) (t:List UInt8):(rBd T 0).d k [.v (.pointer none),.ov zB8 (t.map byK)]=some ⟨false,t,[]⟩:=Vz T 0 k ⟨false,t,[]⟩ rfl
theorem Jk (T:TypeId) (k:Nat):(rBd T 0).d k [.v (.pointer none),.ov zB8 []]=some ⟨false,[],[]⟩:=Hh T k []
theorem Jl (T:TypeId) (k:Nat) (t:List UInt8) (n:Int):(rBd T 1).d k [.p k 0 0,.ov zB8 (t.map byK),.v (.int .i64 n)]=some ⟨true,t,[n]⟩:=Vz T 1 k ⟨true,t,[n]⟩ rfl
theorem Hi (T:TypeId) (k:Nat) (t:List UInt8) (n:Int):(rBd T 1).d k [.v (.pointer none),.ov zB8 (t.map byK),.v (.int .i64 n)]=some ⟨false,t,[n]⟩:=Vz T 1 k ⟨false,t,[n]⟩ rfl
theorem Jm (T:TypeId) (k:Nat) (n:Int):(rBd T 1).d k [.v (.pointer none),.ov zB8 [],.v (.int .i64 n)]=some ⟨false,[],[n]⟩:=Hi T k [] n
theorem ed (z:List C) (b:Bd) (l:List (Option MV)):∀(i:Nat) q,(some (z,[b.c])::l.map fun _=>(none:Option MV))[i]?=some (some q)→∀r∈q.2,∀c∈r,cOK i c:=by
 intro i q hq r hr c hc
 cases i with
 |zero=>
  simp only[List.getElem?_cons_zero,jS]at hq
  subst hq
  simp only[mem_singleton]at hr
  subst hr
  exact SA b c hc
 |succ i=>simp at hq
theorem HI (z:List C) (b:Bd):∀(i:Nat) q,([some (z,[b.c])]:List (Option MV))[i]?=some (some q)→∀r∈q.2,∀c∈r,cOK i c:=ed z b []
theorem oe (z:List C) (b:Bd):∀(i:Nat) q,([some (z,[b.c]),none]:List (Option MV))[i]?=some (some q)→∀r∈q.2,∀c∈r,cOK i c:=ed z b [none]
theorem og:∀(i:Nat) q,([none]:List (Option MV))[i]?=some (some q)→∀r∈q.2,∀c∈r,cOK i c:=by
 intro i q hq
 cases i<;>simp at hq
theorem A1x:RowsD byK (fun x=>[.v (.int .u8 x.toNat)]) 1:=by
 refine⟨fun a c hc=>?_,fun a c hc=>?_,fun a=>rfl,fun a=>rfl⟩
 ·simp only[byK,mem_singleton]at hc;subst hc;rfl
 ·simp only[byK,mem_singleton]at hc;subst hc;rfl
structure lieB (T:TypeId) (m:Nat):Prop where
 h:∀n,m+2≤n→liesAt Tryz.prog Tryz.prog.depth T (n / Tryz.prog.cellsOf T) 0 107 1=true
theorem x72:Builder.X72 Tryz.prog Tryz.lays156_ren:=⟨by kernel_rfl,by kernel_rfl⟩
end Go.Proofs.YtbiepiggmagfcaaGreatDoor
