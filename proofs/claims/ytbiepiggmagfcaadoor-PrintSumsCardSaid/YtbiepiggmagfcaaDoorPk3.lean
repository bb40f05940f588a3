/- Any sum's text is the document's, walked. Conditions: the numbers are of 64 bits; the table of powers of ten is laid. -/
import Derived.Test.YtbiepiggmagfcaaDoorPk1
import Derived.Test.YtbiepiggmagfcaaDoorPk2
import Derived.Test.YtbiepiggmagfcaaDoorPr1
import Derived.Test.YtbiepiggmagfcaaDoorDc
import Derived.Test.YtbiepiggmagfcaaDoorCx5
import Derived.Test.YtbiepiggmagfcaaDoorPk5
import Derived.Test.YtbiepiggmagfcaaDoorSy28
set_option linter.unusedVariables false
set_option linter.unusedSimpArgs false
namespace Go.Proofs.YtbiepiggmagfcaaDoor
open Go Go.Sy Go.RowKit
theorem lg_len:∀(e:Ex) (l d:Int),0≤l→okN e→(lgE e l d).1=true→((exT e).length:Int)≤60*(l-(lgE e l d).2)
 | .nil,l,d,h,_,_=>by simp only[lgE,exT,List.length_nil];omega
 | .mk k n s a b,l,d,h,ho,ht=>by
  obtain⟨o1,o2,o3⟩:=ho
  simp only[lgE]at ht ⊢
  split at ht
  ·cases ht
  ·rename_i h1
   rw[if_neg h1]
   simp only[Bool.or_eq_true,decide_eq_true_eq,not_or]at h1
   split at ht
   ·rename_i h2
    rw[if_pos h2]
    obtain⟨a1,a2,a3⟩:=lgE_b a (l-1) (d-1) (by omega)
    have q1:=lg_len a (l-1) (d-1) (by omega) o2 h2
    have q2:=lg_len b _ (d-1) (a3 h2) o3 ht
    obtain⟨b1,b2,b3⟩:=lgE_b b _ (d-1) (a3 h2)
    have q3:=itoa_w64 o1
    have q4:(itT n).length≤22:=q3
    have e1:∀p t,(enT p t).length≤t.length+2:=fun p t=>by unfold enT;split<;>simp<;>omega
    have e2:=e1 (suB b) (exT b)
    have e3:=e1 (suB a) (exT a)
    have e4:=e1 (suB b||prdB b) (exT b)
    have e5:=e1 (suB a||prdB a) (exT a)
    simp only[exT]
    repeat' split
    all_goals try simp only[List.length_append,List.length_cons,List.length_nil]
    all_goals omega
   ·cases ht
end Go.Proofs.YtbiepiggmagfcaaDoor
namespace Go.Proofs.YtbiepiggmagfcaaDoor
open Go Go.Sy Go.RowKit
theorem lw_kf:Lw [102,110,32,102,40,41,32,123,32,114,101,116,117,114,110,32] [(0,[102,110]),(0,[102]),(2,[40]),(2,[41]),(2,[123]),(0,[114,101,116,117,114,110])]:=Lp.of (n:=10) (fun i=>[⟨0,[102,110],((i+0:Nat):Int)⟩,⟨0,[102],((i+3:Nat):Int)⟩,⟨2,[40],((i+4:Nat):Int)⟩,⟨2,[41],((i+5:Nat):Int)⟩,⟨2,[123],((i+7:Nat):Int)⟩,⟨0,[114,101,116,117,114,110],((i+9:Nat):Int)⟩]) (by decide) (fun _=>rfl) (fun f i r out=>by kernel_rfl)
def psT (e:Ex):List UInt8:=([102,110,32,102,40,41,32,123,32,114,101,116,117,114,110,32]++exT e)++[59,32,125]
def psF (e:Ex):Cf:=⟨[102],[],[],[.ret (canE e)]⟩
theorem lg_dp:∀(e:Ex) (l d:Int),-1≤d→(lgE e l d).1=true→(e.dp:Int)≤d+1
 | .nil,l,d,h,_=>by simp only[Ex.dp];omega
 | .mk k n s a b,l,d,h,ht=>by
  simp only[lgE]at ht
  split at ht
  ·cases ht
  ·rename_i h1
   simp only[Bool.or_eq_true,decide_eq_true_eq,not_or]at h1
   split at ht
   ·rename_i h2
    have q1:=lg_dp a (l-1) (d-1) (by omega) h2
    have q2:=lg_dp b _ (d-1) (by omega) ht
    simp only[Ex.dp];omega
   ·cases ht
theorem nm_pl {s:List UInt8} (h:s=[97]∨s=[98]∨s=[120]∨s=[99]):nmP s:=by
 rcases h with rfl|rfl|rfl|rfl
 ·exact⟨⟨by decide,(idn (by decide) (by decide)).1⟩,(idn (by decide) (by decide)).2⟩
 ·exact⟨⟨by decide,(idn (by decide) (by decide)).1⟩,(idn (by decide) (by decide)).2⟩
 ·exact⟨⟨by decide,(idn (by decide) (by decide)).1⟩,(idn (by decide) (by decide)).2⟩
 ·exact⟨⟨by decide,(idn (by decide) (by decide)).1⟩,(idn (by decide) (by decide)).2⟩
theorem nil_e {e:Ex} (h:e.isNil=true):e= .nil:=by cases e<;>first|rfl|cases h
theorem ri_re:∀e:Ex,riE e=true→plB e=true→okN e→reE e
 | .nil,h,_,_=>by cases h
 | .mk k n s a b,h,hp,ho=>by
  obtain⟨o1,o2,o3⟩:=ho
  simp only[plB,Bool.and_eq_true]at hp
  simp only[riE]at h
  split at h
  ·rename_i hk
   simp only[Bool.and_eq_true,decide_eq_true_eq,beq_iff_eq]at h
   have:=o1.2
   exact .inl ⟨eq_of_beq hk,h.1.1.1,by unfold w64 at o1;omega,h.2,nil_e h.1.1.2,nil_e h.1.2⟩
  split at h
  ·rename_i hk
   simp only[Bool.and_eq_true,beq_iff_eq]at h
   have hk:=eq_of_beq hk
   refine .inr (.inl ⟨hk,h.2,nm_pl ?_,nil_e h.1.1.2,nil_e h.1.2⟩)
   have:=hp.1.1
   simp only[hk,Bool.or_eq_true,beq_iff_eq,bne_self_eq_false,Bool.false_eq_true,false_or]at this
   simpa only[or_assoc] using this
  split at h
  ·rename_i hk
   simp only[Bool.and_eq_true,beq_iff_eq]at h
   exact .inr (.inr (.inl ⟨eq_of_beq hk,h.1.2,h.2,ri_re a h.1.1.1 hp.1.2 o2,nil_e h.1.1.2⟩))
  split at h
  ·rename_i hk
   simp only[Bool.and_eq_true,beq_iff_eq]at h
   simp only[Bool.or_eq_true,beq_iff_eq]at hk
   exact .inr (.inr (.inr ⟨by omega,h.1.2,h.2,ri_re a h.1.1.1 hp.1.2 o2,ri_re b h.1.1.2 hp.2 o3⟩))
  ·cases h
theorem ps_fun {e:Ex} (h:reE e) (hl:(exT e).length≤3000) (hd:e.dp≤13):funF (psT e)=(⟨[102],[],[],[.mk 9 [] [] e .nil .nil [] [] [] 0]⟩,0,0):=by
 have q:=ca_q e h
 have d:=q.d
 have z:Lw (psT e) (psF e).tk:=(((lw_kf.wapp q.z).app (lw_se.wapp (lw_sg 125)) (pS_c 59 [32,125])).cast rfl (by simp[psF,Cf.tk,psK,lsK,tkB,Cs.tk,kO,tFn]))
 obtain⟨T,e1,e2⟩:=rx_all z (by simp only[psT,List.length_append,List.length_cons,List.length_nil];omega)
 have ok:(psF e).ok:=⟨⟨by show wordB [102]=false;decide,(idn (s:=[102]) (by decide) (by decide)).1⟩,(fun v hv=>by cases hv),(fun v hv=>by cases hv),by show (0:Nat)≤6;decide,by show (0:Nat)≤20;decide,⟨⟨q.w,q.n⟩,trivial⟩,by simp only[psF,dpB,Cs.dp];omega,by show ctB [.ret _]≤200;simp[ctB,Cs.ct]⟩
 rw[cf_fun ok e1 e2]
 show ((⟨[102],[],[],vB 0 [.ret (canE e)]⟩:Fn),(0:Int),(0:Int))=_
 simp only[vB,Cs.v,q.v]
end Go.Proofs.YtbiepiggmagfcaaDoor
namespace Go.Sy
open Go Go.RowKit
section
variable {P:Program} {X:Ctx} {w0:World} {n:Nat}
theorem tri_mono {c:Code} {s:St} {Q Q':Exit→St→Prop} (h:Tri (P:=P) X w0 n c s Q) (hq:∀e s,Q e s→Q' e s):Tri (P:=P) X w0 n c s Q':=by
 intro a w hs
 refine Code.wp_mono ?_ (h a w hs)
 rintro e a' w' ⟨s',h1,h2⟩
 exact⟨s',hq e s' h1,h2⟩
theorem tri_seq {a b:Code} {s:St} {Q:Exit→St→Prop} (h:Tri (P:=P) X w0 n a s (thenQ (fun s'=>Tri (P:=P) X w0 n b s' Q) Q)):Tri (P:=P) X w0 n (.seq a b) s Q:=by
 intro act w hs
 refine wp_seq ?_
 refine Code.wp_mono ?_ (h act w hs)
 rintro e a' w' ⟨s',hq,hs'⟩
 cases e with
 |normal=>exact hq a' w' hs'
 |_=>exact⟨s',hq,hs'⟩
theorem tri_to {c:Code} {s t:St} {Q:Exit→St→Prop} (h:Tri (P:=P) X w0 n c t Q) (hs:To X s t):Tri (P:=P) X w0 n c s Q:=fun a w hh=>h a w (hs w0 n a w hh)
theorem tri_cut {Y:Type} {a b:Code} {s:St} {Q:Exit→St→Prop} (J:Y→Prop) (S:Y→St) (sp:List (Spec P X w0)) (g:Gh) (h1:vc X w0 sp n g a s (thenQ (fun s'=>∃y,J y∧To X s' (S y)) Q)) (h2:∀y,J y→Tri (P:=P) X w0 n b (S y) Q):Tri (P:=P) X w0 n (.seq a b) s Q:=by
 refine tri_seq (tri_mono (vc_ok sp g a s _ h1) ?_)
 intro e s' hq
 cases e with
 |normal=>obtain⟨y,hy,hto⟩:=hq;exact tri_to (h2 y hy) hto
 |_=>exact hq
theorem tri_next {a b:Code} {s:St} {Q:Exit→St→Prop} (sp:List (Spec P X w0)) (g:Gh) (h1:vc X w0 sp n g a s (thenQ (fun s'=>Tri (P:=P) X w0 n b s' Q) Q)):Tri (P:=P) X w0 n (.seq a b) s Q:=tri_seq (vc_ok sp g a s _ h1)
end
section
variable {P:Program}
theorem calls_tri {f:FuncId} {fn:Func} {c:Code} (hf:P.funcs[f]?=some fn) (hb:fn.body=some c) (w:World) (fz:Nat→Prop) (args:List SV) (hnm:∀v∈args,v.names=[]) (hfz:∀b,fz b→b<w.heap.size)
  (xs:List Value) (hlen:xs.length=args.length) (hx:∀(j:Nat) (v:SV) (x:Value),args[j]?=some v→xs[j]?=some x→CD (hp w) fz v x) (R:SV→Prop)
  (hn:args.length≤fn.ntmps) (h:Tri (P:=P) (clX fz) w fn.ntmps c ⟨argE 0 args,[]⟩ (retQ P (clX fz) fn.results.toList (fun _ vs=>(resV vs).names=[]∧R (resV vs)))) :
  Calls P f xs.toArray w (DPost w fz R):=by
 refine calls_of_wp hf hb (Code.wp_mono ?_ (h _ w ?_))
 ·rintro e a w' ⟨s,hq,hs⟩
  have fin:RetP P (clX fz) fn.results.toList (fun _ vs=>(resV vs).names=[]∧R (resV vs)) s→a.defers=[]∧∃v,(results fn a.tmps).run P w'= .ok v w'∧DPost w fz R (Ending.returned v) w':=by
   rintro ⟨cs,s',vs,h1,h2,h3,h4,h5⟩
   refine⟨hs.defers,?_⟩
   obtain⟨_,I,lab,fz',hA⟩:=runCs_ent h1 a w' hs
   obtain⟨x,x1,x2⟩:=results_ok hA h2 h3
   refine⟨x,x1,resV vs,x,fun b=>fz' b∨fz b,rfl,h5,h4,fun b hb=>.inr hb,fun b hb=>?_,fun b hb=>?_,sd_closed (fun b hb=>⟨.inl hb,rfl⟩) h4 x2,hA.m.kept.below (fun _ _ hf=>hf)⟩
   ·rcases hb with hb|hb
    ·rcases hA.m.fzo b hb with h|h|h
     ·exact .inl h
     ·exact .inr h
     ·exact h.elim
    ·exact .inl hb
   ·rcases hb with hb|hb
    ·exact(hA.m.fzl b hb).1
    ·exact Nat.lt_of_lt_of_le (hfz b hb) hA.m.kept.size
  cases e with
  |normal=>exact fin hq
  |ret=>exact fin hq
  |_=>exact hq.elim
 ·have hE0:∀t g v,lkp (argE 0 args) t=some (g,v)→g=true∧args[t]?=some v:=by
   intro t g v ht
   rw[argE_lkp]at ht
   simp only[Nat.zero_le,if_true,Nat.sub_zero,Option.map_eq_some_iff,Prod.mk.injEq]at ht
   obtain⟨u,hu,rfl,rfl⟩:=ht
   exact⟨rfl,hu⟩
  refine⟨?_,nm0,fun _=>none,fz,?_,rfl,?_,⟨?_,?_,?_,fun b hb=>⟨hfz b hb,rfl⟩,fun b hb=>.inl hb,Kept.refl _ _,by intro p hp;cases hp⟩⟩
  ·intro t g v ht _
   have:=(hE0 t g v ht).2
   rw[hnm v (List.mem_of_getElem? this)]
   intro k hk;cases hk
  ·simp[hlen];omega
  ·intro t g v ht
   obtain⟨rfl,hv⟩:=hE0 t g v ht
   have hlt:t<args.length:=(List.getElem?_eq_some_iff.1 hv).1
   have hlt2:t<xs.length:=by omega
   refine⟨xs[t],?_,?_⟩
   ·rw[Array.getElem?_append_left (by simpa using hlt2)]
    simp[hlt2]
   ·simp only[if_true]
    exact sd_closed (fun b hb=>⟨hb,rfl⟩) (hnm v (List.mem_of_getElem? hv)) (hx t v _ hv (List.getElem?_eq_getElem hlt2))
  ·intro k ch hk;simp[lkp]at hk
  ·intro k ch hk;simp[lkp]at hk
  ·intro b π hb;cases hb
theorem calls_triL {f:FuncId} {fn:Func} {c:Code} (hf:P.funcs[f]?=some fn) (hb:fn.body=some c) (w:World) (fz:Nat→Prop) {A:Type} (ac:ArgC A) (F:A→SV) (a:A) (xs:List Value) (hfz:∀b,fz b→b<w.heap.size) (hl:xs.length=(ac.e a).length)
  (hx:∀(j:Nat) (v:SV) (x:Value),(ac.e a)[j]?=some v→xs[j]?=some x→CD (hp w) fz v x) (hn:(ac.e a).length≤fn.ntmps)
  (h:Tri (P:=P) (clX fz) w fn.ntmps c ⟨argE 0 (ac.e a),[]⟩ (retQ P (clX fz) fn.results.toList (RESL (F a)))):Calls P f xs.toArray w (DPost w fz (fun v=>v=F a)):=
 (calls_tri hf hb w fz (ac.e a) (ac.n a) hfz xs hl hx (fun v=>leV v (F a)) hn h).mono fun _ _ h=>dpost_le h
end
end Go.Sy
