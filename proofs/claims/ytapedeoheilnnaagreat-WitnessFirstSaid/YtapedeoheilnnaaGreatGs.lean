/- The rules of the walks, in one set. No conditions but those in each statement. -/
import Derived.Test.YtapedeoheilnnaaGreatSy28
set_option linter.all false
open List (mem_singleton map_cons map_nil mem_cons not_mem_nil map_map)
namespace Go.Proofs.YtapedeoheilnnaaGreat
open Go Go.Sy Go.RowKit
theorem iK{P:Prop}(h:P:=by
 rcases h with rfl|⟨h1,h2⟩
 .rcases h' with h|⟨h3,h4⟩
  .simp only[C.d.injEq,D.sl.injEq]at h;exact h.2
  cases h3
 obtain rfl:=TB h1
 rcases h' with h|⟨h3,h4⟩
 .cases h
 obtain⟨_,he⟩:=MO h2
 obtain⟨_,he'⟩:=MO h4
 simp only[C.d.injEq,D.sl.injEq]at he he'
 rw[he.2,he'.2]):P:=h
def eB:=And.intro @e_nil (And.intro @e_cons (And.intro @e_text (And.intro @e_draw (And.intro @e_seq (And.intro @e_block (And.intro @e_then1 (And.intro @e_then2 (And.intro @e_then3 (And.intro @e_in1 (And.intro @e_in2 (And.intro @e_in3 (And.intro @e_nrmK (And.intro @e_textT (And.intro @e_drawK (And.intro @e_fac0 (And.intro @e_fac1 (And.intro @e_fac2 (And.intro @e_fac3 (And.intro @e_seqK (And.intro @e_ret (And.intro @e_skip (And.intro @e_label (And.intro @e_exit (And.intro @e_cond (And.intro @e_loop (And.intro @e_impBt (And.intro @e_impBf (And.intro @e_impNt @e_impNf))))))))))))))))))))))))))))
attribute[go_sem ↓] eB
theorem A1v{r0:List C}(h:r0.all C.stor=true):∀r∈[r0],∀c∈r,C.stor c=true:=by
 intro r h1 c h2
 rw[mem_singleton]at h1
 subst h1
 exact List.all_eq_true.1 h c h2
attribute [go_sem] A0q A0r A0t A86 w7 w8 w9 A87 pb A0v Y1 wA JE J7 opG guarded slotOf V4 ZV guardOf opS fresh rV LQ Qe Qg Tw Nn RV U1 bC flB JD I5 Ix LR Jv RQ ptrA Ft Np Fv Nq boI Jw Ky L0 Jx Ns Mb Ie lkV RR ZT ol Ee Jy PC Tz K1 om LV A55 pnN wkL wkR A0V Ty Et inP He A7T A7U A3p A7V A3q A3r A7W yh Sc Tx unV Xp gR N7 Uv Jf KC Ib LU HQ Im K0 fnSV U0 reads KO GN FS Ia HO HP setAll Kc Mv Uu tgN A4r A4s A4t A7v A7w A7x A4u A4v A4w A7y A7z A80 A4x A4y A4z A0R A0S A81 A82 A83 A0T A0U A50 A51 A52 A53 A54 ldc ldV yi A7X A7Y A7Z A7a A3s A3t A3u A3v A7b A3w clL OU A7O A3i A3j A3k Xo eqL eqC og arI gQ rdv rdg okV lkp St.app ba pL ofV SV.tupB SV.cells yZ A6z A70 A71 A72 A3J A3K A3L A3M A73 A3N C.flat H6 LY Sr F0 NA toP updH capN List.getElem?_nil A4q IB A0z A10 iB wC pj pi A5H A5I A5J A5K hY iA Y3 Y4 Ph ndB updM Rh Pi yd A79 A7A A7B A7C A3T A3U A3V A3W A7D A3X nmM chO GE memO A5L A5M A5N A5O A5P A5Q A5R A5S A5T A5U A5V A5W Nat.sub_zero MI MJ vz pW wD po wB pd hX A5E A5D A5G A5F gz A0w A0x A5B A5C slR slD Re V9 toD GD EZ List.length_map Int.toNat_natCast Int.natCast_nonneg A59 A58 FV FU gy lN vx pU vy pV gv ZW km gP Option.map_some Option.getD_some Option.getD_none Option.map_none Option.bind_some List.all_cons List.all_nil Bool.and_true Bool.true_and Bool.and_self Bool.not_not true_and and_true and_self true_or or_true forall_const true_implies imp_self implies_true List.getElem?_cons_zero List.getElem?_cons_succ List.getElem?_toArray List.length_cons List.length_nil map_cons map_nil List.set_cons_zero List.set_cons_succ List.length_set List.drop_zero List.drop_succ_cons List.take_succ_cons List.take_zero List.getD_cons_zero List.getD_cons_succ ne_eq not_false_eq_true Nat.le_refl Int.toNat_zero Nat.zero_mul Nat.zero_add Nat.add_zero Nat.one_mul jB Bool.not_false Bool.not_true Bool.or_false Bool.false_or Bool.or_true Bool.true_or Bool.and_false Bool.false_and Bool.not_eq_false' Bool.not_eq_true' Bool.or_self wrap_i64 Int.natCast_zero Int.natCast_one Int.cast_ofNat_Int Int.lt_irrefl decide_false decide_true Nat.lt_irrefl Nat.lt_add_one Int.toNat_one List.take_nil List.drop_nil List.flatMap_cons List.flatMap_nil List.append_nil List.nil_append List.cons_append List.append_eq List.any_nil List.any_cons List.contains_cons List.contains_nil yc A74 A75 A76 A77 A3O A3P A3Q A3R A78 A3S SV.names pNames mem_cons not_mem_nil or_false forall_eq forall_eq_or_imp and_imp false_implies mem_singleton not_true_eq_false if_true if_false yX tU leV leL leT leP Gt Hv KR lL Kk chNames LX yY A6u A6v A6w A6x A3E A3F A3G A3H A6y A3I Cmd.run pM yg A7P A7Q A7R A7S A3l A3m A3n A3o Rb B0i gm gq gr pN U3 fzS ye A7E A7F A7G A7H A3Y A3Z A3a A3b A7I A3c yf A7J A7K A7L A7M A3d A3e A3f A3g A7N A3h Xz PG Xx MG To1 memF Sy.Sub A0u A5A
attribute [go_sem] ya2 ys2 A89 yz2 yi2 ya3 ys3 yz3 yi3 ya4 ys4 yb4 ya5 ys5 yi5 ya9 ys9 A8A yz9 A8B A8C A8D A8E A8F A8G A8H A8I A8J A8K A8L A8M A8N A8O A13 A14 A8P A8Q A8R A8S A8T A8U A8V A8W A8X A8Y A15 A16 A8Z A8a A8b A8c A8d A8e A17 A18 B1z B20 B1o B21 A8f A8g A8h A8i A8j A8k A8l A8m A8n A1B A1C A1D A1E A1F A8o B22 A8p A5X A8q A1G A1H A8r A8s A8t A8u A5Y A8v A1I A1J A1K A8w B23 A8x A8y A5Z A8z A1L A1M A90 A91 A92 A93 A94 A95 A96 A5a A97 A1N A1O A98 A99 A9A A9B A9C A9D A9E A9F A9G A5b A9H A1P A1Q A1R A1S A9I A9J A9K A5c A9L A1T A1U A9M A9N A9O A9P A9Q A5d A9R A9S A5e A9T A1V A1W A9U A9V A1X A1Y A1Z A1a A1b A1c A1d A1e A9W A9X A1f A1g A1h A1i A1j A1k A1l A1m A9Y A5f A5g A1n A5h A5i A1o A5j wE wF wG A5k A5l A5m A5n A5o wH wI wJ wK wL wM wN A5p A5q A1p A5r wO B1O wQ A5s A5t wR wS B1P A5u A5v A5w A5x A5y A5z A1q A60 wU wV wW wX A61 A62 A63 A1r A64 A65 A1s A66 A67 A68 A69 A6A A1t A6B wY wZ wa wc we wg wh wj wk wl A6C A6D A6E wm wn wo wr ws A6F A6G A6H A1u A6I wt wu wv A6J A6K ww wx wy wz x7 x8 A6L
theorem ck{o:Array Oper}{t:Sy.Trace}(h:Sq o t=true:=by kernel_rfl):Sq o t=true:=h
theorem sL{r0 r:List C}{c:C}(h1:r∈[r0])(h2:c∈r)(h:r0.all C.stor=true:=by simp only[go_sem]):C.stor c=true:=A1v h r h1 c h2
theorem oI{A:Type}{a b:A}(h:some a=some b):b=a:=(Option.some.inj h).symm
theorem nah{p q:Prop}(h:p)(k:¬p:=by decide):q:=absurd h k
theorem KZ{P:Prop}(h:P:=by first|(rename_i h;first|exact oI h|exact nah h)|(rename_i _ h _ g;exact sL h g)|decide|omega):P:=h
theorem KA{P:Prop}(h:P:=by first|((repeat' first|exact ck|with_reducible apply And.intro|intro _);all_goals first|exact trivial|assumption|(apply And.intro<;>assumption)|(refine⟨?_,?_,?_⟩<;>assumption)|exact KZ)|fail):P:=h
theorem AX{a b:Prop}(h:b)(g:a:=by first|((fail_if_success exact (rfl:77=77));exact KA)|fail):a/\b:=⟨g,h⟩
inductive Ex where
 |nil
 |mk (k n:Int) (s:List UInt8) (a b:Ex)
inductive Cd where
 |nil
 |mk (k:Int) (a b:Ex) (p q:Cd) (s:List UInt8)
structure Ar where
 p:Bool
 s:List UInt8
 e:Ex
inductive Sm where
 |mk (k:Int) (x y:List UInt8) (e f:Ex) (c:Cd) (args:List Ar) (th el:List Sm) (no:Int)
structure Vr where
 s:List UInt8
 p:Bool
structure Fn where
 name:List UInt8
 ps:List Vr
 ls:List Vr
 body:List Sm
structure Tok where
 k:Int
 t:List UInt8
 p:Int
abbrev dN:D:=.v (.pointer none)
abbrev dI(n:Int):D:=.v (.int .i64 n)
abbrev dS(s:List UInt8):D:=.v (.string (bs s))
abbrev dL0:D:=.v (.slice none 0 0)
def Ex.d:Ex->D
 | .nil=>dN
 | .mk k n s a b=>.pt (some [dI k,dI n,dS s,a.d,b.d])
def Cd.d:Cd->D
 | .nil=>dN
 | .mk k a b p q s=>.pt (some [dI k,a.d,b.d,p.d,q.d,dS s])
def Ar.r(a:Ar):List D:=[.v (.bool a.p),dS a.s,a.e.d]
def zAr:List D:=[.v (.bool false),dS [],dN]
def zSm:List D:=[dI 0,dS [],dS [],dN,dN,dN,dL0,dL0,dL0,dI 0]
mutual
def Sm.r:Sm->List D
 | .mk k x y e f c args th el no=>[dI k,dS x,dS y,e.d,f.d,c.d,.sl zAr (args.map Ar.r),.sl zSm (Sm.rs th),.sl zSm (Sm.rs el),dI no]
def Sm.rs:List Sm->List (List D)
 |[]=>[]
 |s::l=>s.r::Sm.rs l
end
theorem lP:∀l:List Sm,Sm.rs l=l.map Sm.r
 |[]=>by simp[Sm.rs]
 |s::l=>by simp only[Sm.rs,map_cons,lP l]
def Vr.r(v:Vr):List D:=[dS v.s,.v (.bool v.p)]
def zVr:List D:=[dS [],.v (.bool false)]
def Fn.r(f:Fn):List D:=[dS f.name,.sl zVr (f.ps.map Vr.r),.sl zVr (f.ls.map Vr.r),.sl zSm (f.body.map Sm.r)]
def zFn:List D:=[dS [],dL0,dL0,dL0]
def Tok.r(x:Tok):List D:=[dI x.k,dS x.t,dI x.p]
def zTk:List D:=[dI 0,dS [],dI 0]
theorem pq:ByteArray.empty=bs []:=rfl
theorem bs_inj{a b:List UInt8}(h:bs a=bs b):a=b:=by rw[<- IB a,<- IB b,h]
theorem L3:∀{a b:Ex},a.d=b.d->a=b
 | .nil,.nil,_=>rfl
 | .nil,.mk ..,h=>by simp[Ex.d]at h
 | .mk ..,.nil,h=>by simp[Ex.d]at h
 | .mk k n s a b,.mk k' n' s' a' b',h=>by
  simp only[Ex.d,D.pt.injEq,jS,List.cons.injEq,D.v.injEq,Value.int.injEq,Value.string.injEq,true_and,and_true]at h
  obtain⟨rfl,rfl,h1,h2,h3⟩:=h
  rw[bs_inj h1,L3 h2,L3 h3]
theorem U7:∀{a b:Cd},a.d=b.d->a=b
 | .nil,.nil,_=>rfl
 | .nil,.mk ..,h=>by simp[Cd.d]at h
 | .mk ..,.nil,h=>by simp[Cd.d]at h
 | .mk k a b p q s,.mk k' a' b' p' q' s',h=>by
  simp only[Cd.d,D.pt.injEq,jS,List.cons.injEq,D.v.injEq,Value.int.injEq,Value.string.injEq,true_and,and_true]at h
  obtain⟨rfl,h1,h2,h3,h4,h5⟩:=h
  rw[bs_inj h5,L3 h1,L3 h2,U7 h3,U7 h4]
theorem Aj{A B:Type}{f:A->B}(hf:∀a b,f a=f b->a=b):∀{l m:List A},l.map f=m.map f->l=m
 |[],[],_=>rfl
 |[],_::_,h=>by simp at h
 |_::_,[],h=>by simp at h
 |a::l,b::m,h=>by
  simp only[map_cons,List.cons.injEq]at h
  rw[hf _ _ h.1,Aj hf h.2]
theorem lQ(a b:Ar)(h:a.r=b.r):a=b:=by
 obtain⟨p,s,e⟩:=a
 obtain⟨p',s',e'⟩:=b
 simp only[Ar.r,List.cons.injEq,D.v.injEq,Value.bool.injEq,Value.string.injEq,and_true]at h
 obtain⟨rfl,h1,h2⟩:=h
 rw[bs_inj h1,L3 h2]
mutual
theorem Mh:∀(a b:Sm),a.r=b.r->a=b
 | .mk k x y e f c args th el no,.mk k' x' y' e' f' c' args' th' el' no',h=>by
  simp only[Sm.r,List.cons.injEq,D.v.injEq,D.sl.injEq,Value.int.injEq,Value.string.injEq,true_and,and_true]at h
  obtain⟨rfl,h1,h2,h3,h4,h5,h6,h7,h8,rfl⟩:=h
  rw[bs_inj h1,bs_inj h2,L3 h3,L3 h4,U7 h5,Aj lQ h6,Y6 th th' h7,Y6 el el' h8]
theorem Y6:∀(l m:List Sm),Sm.rs l=Sm.rs m->l=m
 |[],[],_=>rfl
 |[],_::_,h=>by simp[Sm.rs]at h
 |_::_,[],h=>by simp[Sm.rs]at h
 |a::l,b::m,h=>by
  simp only[Sm.rs,List.cons.injEq]at h
  rw[Mh a b h.1,Y6 l m h.2]
end
theorem Og(a b:Vr)(h:a.r=b.r):a=b:=by
 obtain⟨s,p⟩:=a
 obtain⟨s',p'⟩:=b
 simp only[Vr.r,List.cons.injEq,D.v.injEq,Value.bool.injEq,Value.string.injEq,and_true]at h
 rw[bs_inj h.1,h.2]
theorem WO(a b:Fn)(h:a.r=b.r):a=b:=by
 obtain⟨n,ps,ls,bd⟩:=a
 obtain⟨n',ps',ls',bd'⟩:=b
 simp only[Fn.r,List.cons.injEq,D.v.injEq,D.sl.injEq,Value.string.injEq,true_and,and_true]at h
 rw[bs_inj h.1,Aj Og h.2.1,Aj Og h.2.2.1,Aj Mh h.2.2.2]
theorem lR(a b:Tok)(h:a.r=b.r):a=b:=by
 obtain⟨s,p,q⟩:=a
 obtain⟨s',p',q'⟩:=b
 simp only[Tok.r,List.cons.injEq,D.v.injEq,Value.int.injEq,Value.string.injEq,and_true,true_and]at h
 rw[h.1,bs_inj h.2.1,h.2.2]
theorem bm(d:D):toD (oD d)=some d:=by cases d<;>rfl
theorem ec(d:D):F3 (oD d)=true:=by cases d<;>rfl
theorem lS(n:Nat)(d:D):J8 n (oD d)=true:=by cases d<;>rfl
theorem lT(f:Nat->Nat)(d:D):GF f (oD d)=oD d:=by cases d<;>rfl
theorem rh(k t:Nat)(d:D):mvC k t (oD d)=oD d:=by cases d<;>rfl
theorem ri(k:Nat)(z:List D)(es:List (List D))(d:D):fzC k z es (oD d)=oD d:=by cases d<;>rfl
theorem lU(k u:Nat)(p:List (Nat×Nat))(i j:Nat)(d:D)(r:List C):ldc k u p i j (oD d::r)=oD d::ldc k u p i (j+1) r:=by cases d<;>rfl
def Ex.isNil:Ex->Bool
 | .nil=>true
 |_=>false
def Cd.isNil:Cd->Bool
 | .nil=>true
 |_=>false
def exC(e:Ex):C:=oD e.d
theorem A6M(e:Ex):oD e.d=exC e:=rfl
theorem bp(e:Ex):toD (exC e)=some e.d:=bm _
theorem x9(e:Ex):F3 (exC e)=true:=ec _
theorem Y7(e:Ex):C.stor (exC e)=true:=Nr _
theorem M2(e:Ex):C.names (exC e)=[]:=RT _
theorem bq(n:Nat)(e:Ex):J8 n (exC e)=true:=lS n _
theorem A1w(f:Nat->Nat)(e:Ex):GF f (exC e)=exC e:=lT f _
theorem A6N(k t:Nat)(e:Ex):mvC k t (exC e)=exC e:=rh k t _
theorem A6O(k:Nat)(z:List D)(es:List (List D))(e:Ex):fzC k z es (exC e)=exC e:=ri k z es _
theorem A1x(k u:Nat)(p:List (Nat×Nat))(i j:Nat)(e:Ex)(r:List C):ldc k u p i j (exC e::r)=exC e::ldc k u p i (j+1) r:=lU ..
theorem xA(e:Ex):LS (exC e)=some e.isNil:=by cases e<;>rfl
theorem Af:exC .nil= .v (.pointer none):=rfl
def cdC(e:Cd):C:=oD e.d
theorem A6P(e:Cd):oD e.d=cdC e:=rfl
theorem lV(e:Cd):toD (cdC e)=some e.d:=bm _
theorem xB(e:Cd):F3 (cdC e)=true:=ec _
theorem ed(e:Cd):C.stor (cdC e)=true:=Nr _
theorem Rl(e:Cd):C.names (cdC e)=[]:=RT _
theorem br(n:Nat)(e:Cd):J8 n (cdC e)=true:=lS n _
theorem A1y(f:Nat->Nat)(e:Cd):GF f (cdC e)=cdC e:=lT f _
theorem A6Q(k t:Nat)(e:Cd):mvC k t (cdC e)=cdC e:=rh k t _
theorem A6R(k:Nat)(z:List D)(es:List (List D))(e:Cd):fzC k z es (cdC e)=cdC e:=ri k z es _
theorem A1z(k u:Nat)(p:List (Nat×Nat))(i j:Nat)(e:Cd)(r:List C):ldc k u p i j (cdC e::r)=cdC e::ldc k u p i (j+1) r:=lU ..
theorem xC(e:Cd):LS (cdC e)=some e.isNil:=by cases e<;>rfl
theorem BD:cdC .nil= .v (.pointer none):=rfl
theorem EU(k n:Int)(s:List UInt8)(a b:Ex):exC (.mk k n s a b)= .d (.pt (some [.v (.int .i64 k),.v (.int .i64 n),.v (.string (bs s)),a.d,b.d])):=rfl
theorem EF(k:Int)(a b:Ex)(p q:Cd)(s:List UInt8):cdC (.mk k a b p q s)= .d (.pt (some [.v (.int .i64 k),a.d,b.d,p.d,q.d,.v (.string (bs s))])):=rfl
theorem HI:Ex.d .nil= .v (.pointer none):=rfl
theorem Qp:Cd.d .nil= .v (.pointer none):=rfl
structure Pr where
 l:List Tok
 i:Int
 en:Int
 e:Int
 at':Int
 deep:Int
 n:Int
theorem AS(p:Pr):(⟨p.l,p.i,p.en,p.e,p.at',p.deep,p.n⟩:Pr)=p:=rfl
def Pr.r(p:Pr):List D:=[.sl zTk (p.l.map Tok.r),dI p.i,dI p.en,dI p.e,dI p.at',dI p.deep,dI p.n]
def Pr.c(p:Pr):List C:=[.d (.sl zTk (p.l.map Tok.r)),.v (.int .i64 p.i),.v (.int .i64 p.en),.v (.int .i64 p.e),.v (.int .i64 p.at'),.v (.int .i64 p.deep),.v (.int .i64 p.n)]
def A20:List D:=[dL0,dI 0,dI 0,dI 0,dI 0,dI 0,dI 0]
abbrev zPr:List C:=[.v (.int .i64 0),.v (.int .i64 0),.v (.int .i64 0),.v (.int .i64 0),.v (.int .i64 0),.v (.int .i64 0),.v (.int .i64 0)]
theorem xD(a b:Pr)(h:a.r=b.r):a=b:=by
 obtain⟨l,i,en,e,at',deep,n⟩:=a
 obtain⟨l',i',en',e',at2,deep',n'⟩:=b
 simp only[Pr.r,List.cons.injEq,D.v.injEq,D.sl.injEq,Value.int.injEq,true_and,and_true]at h
 obtain⟨h1,rfl,rfl,rfl,rfl,rfl,rfl⟩:=h
 rw[Aj lR h1]
theorem xE(a b:Pr)(h:a.c=b.c):a=b:=by
 obtain⟨l,i,en,e,at',deep,n⟩:=a
 obtain⟨l',i',en',e',at2,deep',n'⟩:=b
 simp only[Pr.c,List.cons.injEq,C.v.injEq,C.d.injEq,D.sl.injEq,Value.int.injEq,true_and,and_true]at h
 obtain⟨h1,rfl,rfl,rfl,rfl,rfl,rfl⟩:=h
 rw[Aj lR h1]
noncomputable def rPr:RowC Pr:=rowOf A20 Pr.r xD λ_=>rfl
theorem WP(p:Pr):∀c∈p.c,c.names=[]:=by
 intro c hc
 simp only[Pr.c,mem_cons,not_mem_nil,or_false]at hc
 rcases hc with rfl|rfl|rfl|rfl|rfl|rfl|rfl<;>rfl
noncomputable def mPr:RowM Pr:=MP zPr Pr.c WP
theorem rj:rPr.z=A20:=rfl
theorem rl:rPr.e=Pr.r:=rfl
theorem As(l:List Tok)(i en e at' deep n:Int):rPr.d [.sl zTk (l.map Tok.r),dI i,dI en,dI e,dI at',dI deep,dI n]=some ⟨l,i,en,e,at',deep,n⟩:=rPr.i ⟨l,i,en,e,at',deep,n⟩
theorem Au:mPr.z=zPr:=rfl
theorem Av:mPr.e=Pr.c:=rfl
theorem Aw(l:List Tok)(i en e at' deep n:Int):mPr.d [.d (.sl zTk (l.map Tok.r)),.v (.int .i64 i),.v (.int .i64 en),.v (.int .i64 e),.v (.int .i64 at'),.v (.int .i64 deep),.v (.int .i64 n)]=some ⟨l,i,en,e,at',deep,n⟩:=JG xE ⟨l,i,en,e,at',deep,n⟩
theorem A21(p:Pr):∀q,some q∈[some ((zPr,[p.c]):MV)]->∀r∈q.2,∀c∈r,c.names=[]:=by
 intro q hq r hr c hc
 simp only[mem_singleton,jS]at hq
 subst hq
 simp only[mem_singleton]at hr
 subst hr
 exact WP p c hc
abbrev tk0:Tok:=⟨0,[],0⟩
theorem xF(l:List Tok)(i:Nat):(l.map Tok.r).getD i zTk=Tok.r (l.getD i tk0):=by
 simp only[List.getD,List.getElem?_map]
 cases l[i]?<;>rfl
attribute [go_sem] A6M bp x9 Y7 M2 A1w A6N A6O A1x xA A6P lV xB ed Rl A1y A6Q A6R A1z xC dI dL0 dN dS pq bm
open Go Go.Sy Go.RowKit
def Ar.c(a:Ar):List C:=[.v (.bool a.p),.v (.string (bs a.s)),exC a.e]
def zAc:List C:=[.v (.bool false),.v (.string (bs [])),.v (.pointer none)]
theorem A2q:zT zAc=none:=rfl
attribute [go_sem] A2q
def Vr.c(v:Vr):List C:=[.v (.string (bs v.s)),.v (.bool v.p)]
def zVc:List C:=[.v (.string (bs [])),.v (.bool false)]
theorem A2r:zT zVc=none:=rfl
attribute [go_sem] A2r
def Sm.k:Sm->Int| .mk k _ _ _ _ _ _ _ _ _=>k
def Sm.x:Sm->List UInt8| .mk _ x _ _ _ _ _ _ _ _=>x
def Sm.y:Sm->List UInt8| .mk _ _ y _ _ _ _ _ _ _=>y
def Sm.e:Sm->Ex| .mk _ _ _ e _ _ _ _ _ _=>e
def Sm.f:Sm->Ex| .mk _ _ _ _ f _ _ _ _ _=>f
def Sm.cd:Sm->Cd| .mk _ _ _ _ _ c _ _ _ _=>c
def Sm.ar:Sm->List Ar| .mk _ _ _ _ _ _ a _ _ _=>a
def Sm.th:Sm->List Sm| .mk _ _ _ _ _ _ _ t _ _=>t
def Sm.el:Sm->List Sm| .mk _ _ _ _ _ _ _ _ e _=>e
def Sm.no:Sm->Int| .mk _ _ _ _ _ _ _ _ _ n=>n
theorem Fx(s:Sm):s.r=[dI s.k,dS s.x,dS s.y,s.e.d,s.f.d,s.cd.d,.sl zAr (s.ar.map Ar.r),.sl zSm (s.th.map Sm.r),.sl zSm (s.el.map Sm.r),dI s.no]:=by
 cases s;simp only[Sm.r,lP,Sm.k,Sm.x,Sm.y,Sm.e,Sm.f,Sm.cd,Sm.ar,Sm.th,Sm.el,Sm.no]
def Sm.c(s:Sm):List C:=[.v (.int .i64 s.k),.v (.string (bs s.x)),.v (.string (bs s.y)),exC s.e,exC s.f,cdC s.cd,.d (.sl zAr (s.ar.map Ar.r)),.d (.sl zSm (s.th.map Sm.r)),.d (.sl zSm (s.el.map Sm.r)),.v (.int .i64 s.no)]
def zSc:List C:=[.v (.int .i64 0),.v (.string (bs [])),.v (.string (bs [])),.v (.pointer none),.v (.pointer none),.v (.pointer none),.v (.slice none 0 0),.v (.slice none 0 0),.v (.slice none 0 0),.v (.int .i64 0)]
theorem A2s:zT zSc=none:=rfl
attribute [go_sem] A2s
def Fn.c(f:Fn):List C:=[.v (.string (bs f.name)),.d (.sl zVr (f.ps.map Vr.r)),.d (.sl zVr (f.ls.map Vr.r)),.d (.sl zSm (f.body.map Sm.r))]
abbrev fn0:Fn:=⟨[],[],[],[]⟩
section
variable {A:Type}{l:List A}
structure RowsD(f:A->List C)(g:A->List D)(n:Nat):Prop where
 nm:∀a,∀c∈f a,C.names c=[]
 st:∀a,∀c∈f a,C.stor c=true
 td:∀a,GD (f a)=some (g a)
 len:∀a,(f a).length=n
theorem A2t(k t:Nat){c:C}(h:c.names=[])(h2:C.stor c=true):mvC k t c=c:=by
 cases c<;>first|rfl|(simp[C.stor]at h2;done)|(simp[C.names]at h;done)|(rename_i f caps;simp only[C.names]at h;simp[mvC,h])
theorem A2u(k:Nat)(z:List D)(es:List (List D)){c:C}(h:c.names=[])(h2:C.stor c=true):fzC k z es c=c:=by
 cases c<;>first|rfl|(simp[C.stor]at h2;done)|(simp[C.names]at h;done)|(rename_i f caps;simp only[C.names]at h;simp[fzC,h])
theorem cq{σ:C->C}{r:List C}(h:∀c∈r,σ c=c):r.map σ=r:=by
 induction r with
 |nil=>rfl
 |cons c r ih=>rw[map_cons,h c (List.mem_cons_self ..),ih λc hc=>h c (List.mem_cons_of_mem _ hc)]
variable {f:A->List C}{g:A->List D}{n:Nat}(hR:RowsD f g n)
include hR
theorem RowsD.fn:List.flatMap (λr=>List.flatMap C.names r) (l.map f)=[]:=A11 f hR.nm l
theorem RowsD.ds:EZ (l.map f)=some (l.map g):=Hi f hR.td l
theorem RowsD.ds1(r:List C):EZ (l.map f++[r])=(GD r).map λd=>l.map g++[d]:=by
 induction l with
 |nil=>simp only[map_nil,List.nil_append,EZ];cases GD r<;>rfl
 |cons a l ih=>simp only[map_cons,List.cons_append,EZ,hR.td a,ih];cases GD r<;>rfl
theorem RowsD.mv(k t:Nat):(l.map f).map (λr=>r.map (mvC k t))=l.map f:=HU f (λa=>cq λc hc=>A2t k t (hR.nm a c hc) (hR.st a c hc)) l
theorem RowsD.fz(k:Nat)(z:List D)(es:List (List D)):(l.map f).map (λr=>r.map (fzC k z es))=l.map f:=HU f (λa=>cq λc hc=>A2u k z es (hR.nm a c hc) (hR.st a c hc)) l
theorem RowsD.stor:BS (l.map f):=Y5 f hR.st l
theorem RowsD.cl:U3 (l.map f)=true:=pm f hR.nm l
end
theorem IE:RowsD Ar.c Ar.r 3:=by
 refine⟨λa c hc=>?_,λa c hc=>?_,λa=>?_,λa=>rfl⟩
 .simp only[Ar.c,mem_cons,not_mem_nil,or_false]at hc;rcases hc with rfl|rfl|rfl<;>first|rfl|exact M2 _
 .simp only[Ar.c,mem_cons,not_mem_nil,or_false]at hc;rcases hc with rfl|rfl|rfl<;>first|rfl|exact Y7 _
 simp only[Ar.c,GD,toD,bp,Ar.r]
theorem Dd:RowsD Vr.c Vr.r 2:=by
 refine⟨λa c hc=>?_,λa c hc=>?_,λa=>?_,λa=>rfl⟩
 .simp only[Vr.c,mem_cons,not_mem_nil,or_false]at hc;rcases hc with rfl|rfl<;>rfl
 .simp only[Vr.c,mem_cons,not_mem_nil,or_false]at hc;rcases hc with rfl|rfl<;>rfl
 simp only[Vr.c,GD,toD,Vr.r]
theorem Hk:RowsD Sm.c Sm.r 10:=by
 refine⟨λa c hc=>?_,λa c hc=>?_,λa=>?_,λa=>rfl⟩
 .simp only[Sm.c,mem_cons,not_mem_nil,or_false]at hc;rcases hc with rfl|rfl|rfl|rfl|rfl|rfl|rfl|rfl|rfl|rfl<;>first|rfl|exact M2 _|exact Rl _
 .simp only[Sm.c,mem_cons,not_mem_nil,or_false]at hc;rcases hc with rfl|rfl|rfl|rfl|rfl|rfl|rfl|rfl|rfl|rfl<;>first|rfl|exact Y7 _|exact ed _
 rw[Fx];simp only[Sm.c,GD,toD,bp,lV]
open Go Go.Sy Go.RowKit
theorem GH{c:C}{z z':List D}{es es':List (List D)}(h:leC c (.d (.sl z es)))(h':leC c (.d (.sl z' es'))):es=es':=by
 exact iK
theorem M9{c:C}{x y:Value}(h:leC c (.v x))(h':leC c (.v y)):x=y:=by
 rcases h with rfl|⟨_,h2⟩
 .rcases h' with h|⟨_,h4⟩
  .simpa using h
  cases h4
 cases h2
theorem VH{c:C}{d d':D}(hd:∀z,oD d≠.d (.sl z []))(hd':∀z,oD d'≠.d (.sl z []))(h:leC c (oD d))(h':leC c (oD d')):oD d=oD d':=by
 rcases h with rfl|⟨_,h2⟩
 .rcases h' with h|⟨_,h4⟩
  .exact h
  obtain⟨z,h⟩:=MO h4;exact absurd h (hd' z)
 obtain⟨z,h⟩:=MO h2;exact absurd h (hd z)
theorem iS{a b:D}(h:oD a=oD b):a=b:=by cases a<;>cases b<;>simp_all [oD]
theorem WW{a b:Ex}(h:exC a=exC b):a=b:=L3 (iS h)
theorem cr{a b:Cd}(h:cdC a=cdC b):a=b:=U7 (iS h)
theorem Pn(e:Ex):∀z,oD e.d≠.d (.sl z []):=by intro z;cases e<;>simp[Ex.d,oD]
theorem VI(e:Cd):∀z,oD e.d≠.d (.sl z []):=by intro z;cases e<;>simp[Cd.d,oD]
noncomputable def cEx:Cod Ex:=Hl (λe=>.one (exC e)) (λv a b h h'=>by
 cases v with
 |one c=>exact WW (VH (Pn a) (Pn b) h h')
 |agg l=>exact h.elim
 |tup l=>exact h.elim) (λe=>M2 e)
theorem Bi(e:Ex):cEx.e e= .one (exC e):=rfl
theorem Be(e:Ex):cEx.d (.one (exC e))=some e:=E4 (e:=λe=>.one (exC e)) (F4 _)
theorem Bj:cEx.d (.one (.v (.pointer none)))=some .nil:=Be .nil
noncomputable def cCd:Cod Cd:=Hl (λe=>.one (cdC e)) (λv a b h h'=>by
 cases v with
 |one c=>exact cr (VH (VI a) (VI b) h h')
 |agg l=>exact h.elim
 |tup l=>exact h.elim) (λe=>Rl e)
theorem Bk(e:Cd):cCd.e e= .one (cdC e):=rfl
theorem Bl(e:Cd):cCd.d (.one (cdC e))=some e:=E4 (e:=λe=>.one (cdC e)) (F4 _)
theorem A2v(v:SV)(a b:Fn)(h:leV v (.agg a.c))(h':leV v (.agg b.c)):a=b:=by
 cases v with
 |one c=>exact h.elim
 |tup l=>exact h.elim
 |agg l=>
 obtain⟨n,ps,ls,bd⟩:=a
 obtain⟨n',ps',ls',bd'⟩:=b
 match l,h,h' with
 |[c0,c1,c2,c3],⟨h0,h1,h2,h3,_⟩,⟨g0,g1,g2,g3,_⟩=>
  have e0:=M9 h0 g0
  simp only[Value.string.injEq]at e0
  have k0:=bs_inj e0
  have k1:=Aj Og (GH h1 g1)
  have k2:=Aj Og (GH h2 g2)
  have k3:=Aj Mh (GH h3 g3)
  simp only at k0 k1 k2 k3
  subst k0;subst k1;subst k2;subst k3;rfl
noncomputable def cFn:Cod Fn:=Hl (λf=>.agg f.c) A2v (λf=>rfl)
theorem A8(f:Fn):cFn.e f= .agg f.c:=rfl
theorem A9(n:List UInt8)(ps ls:List Vr)(bd:List Sm):cFn.d (.agg [.v (.string (bs n)),.d (.sl zVr (ps.map Vr.r)),.d (.sl zVr (ls.map Vr.r)),.d (.sl zSm (bd.map Sm.r))])=some ⟨n,ps,ls,bd⟩:=E4 (e:=λf:Fn=>.agg f.c) (a:=⟨n,ps,ls,bd⟩) (F4 _)
theorem AM(f:Fn):(⟨f.name,f.ps,f.ls,f.body⟩:Fn)=f:=rfl
theorem Gr(l:List Vr):(l.map Vr.r).map (λr=>r.map oD)=l.map Vr.c:=by rw[map_map];rfl
theorem fG{l:List Vr}{i:Nat}{x:Vr}(h:l[i]?=some x):(l.map Vr.c).getD i [.v (.string (bs [])),.v (.bool false)]=x.c:=by simp[List.getD,h]
theorem ct(a:Vr):∀c∈a.c,C.stor c=true:=by
 intro c hc;simp only[Vr.c,mem_cons,not_mem_nil,or_false]at hc;rcases hc with rfl|rfl<;>rfl
theorem A4{A B:Type}(x:Option A):U4 x (none:Option B)=none:=by cases x<;>rfl
theorem A5{A B:Type}(x:Option B):U4 (none:Option A) x=none:=rfl
theorem AF{A:Type}(Cd:A->Prop)(F:A->SV):Pf (none:Option A) Cd F=none:=rfl
def Ex.dp:Ex->Nat
 | .nil=>0
 | .mk _ _ _ a b=>max a.dp b.dp+1
def Cd.dp:Cd->Nat
 | .nil=>0
 | .mk _ a b p q _=>max (max a.dp b.dp) (max p.dp q.dp)+1
theorem A2w(v:SV)(a b:Sm)(h:leV v (.agg a.c))(h':leV v (.agg b.c)):a=b:=by
 cases v with
 |one c=>exact h.elim
 |tup l=>exact h.elim
 |agg l=>
 obtain⟨k,x,y,e,f,cd,ar,th,el,no⟩:=a
 obtain⟨k',x',y',e',f',cd',ar',th',el',no'⟩:=b
 match l,h,h' with
 |[c0,c1,c2,c3,c4,c5,c6,c7,c8,c9],⟨h0,h1,h2,h3,h4,h5,h6,h7,h8,h9,_⟩,⟨g0,g1,g2,g3,g4,g5,g6,g7,g8,g9,_⟩=>
  have e0:=M9 h0 g0
  have e1:=M9 h1 g1
  have e2:=M9 h2 g2
  have e9:=M9 h9 g9
  simp only[Value.string.injEq,Value.int.injEq,true_and]at e0 e1 e2 e9
  have k1:=bs_inj e1
  have k2:=bs_inj e2
  have k3:=WW (VH (Pn _) (Pn _) h3 g3)
  have k4:=WW (VH (Pn _) (Pn _) h4 g4)
  have k5:=cr (VH (VI _) (VI _) h5 g5)
  have k6:=Aj lQ (GH h6 g6)
  have k7:=Aj Mh (GH h7 g7)
  have k8:=Aj Mh (GH h8 g8)
  simp only[Sm.k,Sm.x,Sm.y,Sm.e,Sm.f,Sm.cd,Sm.ar,Sm.th,Sm.el,Sm.no]at e0 k1 k2 k3 k4 k5 k6 k7 k8 e9
  subst e0;subst k1;subst k2;subst k3;subst k4;subst k5;subst k6;subst k7;subst k8;subst e9;rfl
noncomputable def cSm:Cod Sm:=Hl (λs=>.agg s.c) A2w (λs=>List.flatMap_eq_nil_iff.2 (Hk.nm s))
theorem CJ(s:Sm):cSm.e s= .agg s.c:=rfl
theorem xx(s:Sm):cSm.d (.agg s.c)=some s:=E4 (e:=λs:Sm=>.agg s.c) (F4 _)
theorem CK(k no:Int)(x y:List UInt8)(e f:Ex)(cd:Cd)(ar:List Ar)(th el:List Sm):cSm.d (.agg [.v (.int .i64 k),.v (.string (bs x)),.v (.string (bs y)),exC e,exC f,cdC cd,.d (.sl zAr (ar.map Ar.r)),.d (.sl zSm (th.map Sm.r)),.d (.sl zSm (el.map Sm.r)),.v (.int .i64 no)])=some (.mk k x y e f cd ar th el no):=xx (.mk k x y e f cd ar th el no)
theorem Cx(k n:Int)(s:List UInt8)(a b:Ex):cEx.d (.one (.d (.pt (some [.v (.int .i64 k),.v (.int .i64 n),.v (.string (bs s)),a.d,b.d]))))=some (.mk k n s a b):=Be (.mk k n s a b)
theorem xy(s:Sm)(b:Bool):(SV.tup [.inr s.c,.inl (.v (.bool b))]).names=[]:=by
 have h:pNames (.inr s.c)=[]:=List.flatMap_eq_nil_iff.2 (Hk.nm s)
 simp only[SV.names,List.flatMap_cons,List.flatMap_nil,h];rfl
theorem CE(l:List Ar):(l.map Ar.r).map (λr=>r.map oD)=l.map Ar.c:=by rw[map_map];rfl
theorem A2x{l:List Ar}{i:Nat}{x:Ar}(h:l[i]?=some x):(l.map Ar.c).getD i [.v (.bool false),.v (.string (bs [])),.v (.pointer none)]=x.c:=by simp[List.getD,h]
def fl4:List C:=[.v (.bool false),.v (.bool false),.v (.bool false),.v (.bool false)]
def C3:List C:=[.v (.bool false),.v (.bool false),.v (.bool false),.v (.bool false),.v (.bool false),.v (.bool false),.v (.bool false),.v (.bool false),.v (.bool false),.v (.bool false)]
structure OkS(n:Nat)(s:Sm):Prop where
 e:s.e.dp<n
 f:s.f.dp<n
 c:s.cd.dp<n
 a:∀a∈s.ar,a.e.dp<n
 l:s.ar.length<=5000
noncomputable def cSs:Cod (List Sm):=Hl (λl=>.one (.d (.sl zSm (l.map Sm.r)))) (λv a b h h'=>by
 cases v with
 |one c=>exact Aj Mh (GH h h')
 |agg l=>exact h.elim
 |tup l=>exact h.elim) (λl=>rfl)
theorem DI(l:List Sm):cSs.e l= .one (.d (.sl zSm (l.map Sm.r))):=rfl
theorem DJ(l:List Sm):cSs.d (.one (.d (.sl zSm (l.map Sm.r))))=some l:=E4 (e:=λl:List Sm=>.one (.d (.sl zSm (l.map Sm.r)))) (F4 _)
def okB(n:Nat):Nat->List Sm->Prop
 |0,_=>False
 |m+1,l=>l.length<=5000/\∀s∈l,OkS n s/\okB n m s.th/\okB n m s.el
theorem Sz{n m:Nat}{l:List Sm}(h:okB n m l):okB n m []:=by
 cases m with
 |zero=>exact h.elim
 |succ m=>exact⟨Nat.zero_le _,λs hs=>by cases hs⟩
def okF(f:Fn):Prop:=f.ps.length<=5000/\f.ls.length<=5000
end Go.Proofs.YtapedeoheilnnaaGreat
