/- The parser numbers statements in the order in which they begin. No conditions but those in each statement. -/
import Derived.Test.YtodppgiaimihfabGreatDoorSo
import Derived.Test.YtodppgiaimihfabGreatDoorSyC
import Derived.Test.YtodppgiaimihfabGreatDoorTy2
import Derived.Lib.Bytealg
import Derived.Deep.Draws
import Derived.BigCall
import Derived.BigGuard
set_option linter.unusedVariables false
set_option linter.unusedSimpArgs false
namespace Go.Proofs.YtodppgiaimihfabGreatDoor
open Go Go.Sy Go.RowKit
mutual
def alS:Sm→List Int
 | .mk _ _ _ _ _ _ _ th el no=>no::(alB th++alB el)
def alB:List Sm→List Int
 |[]=>[]
 |s::l=>alS s++alB l
end
mutual
def nsS:Sm→Prop
 | .mk k _ _ _ _ _ _ th el _=>(k≠10→el=[])∧(k≠10→k≠11→th=[])∧nsB th∧nsB el
def nsB:List Sm→Prop
 |[]=>True
 |s::l=>nsS s∧nsB l
end
theorem alB_app:∀l m:List Sm,alB (l++m)=alB l++alB m
 |[],m=>by simp[alB]
 |s::l,m=>by simp only[List.cons_append,alB,alB_app l m,List.append_assoc]
theorem alB_one (s:Sm):alB [s]=alS s:=by simp[alB]
theorem nsB_app:∀l m:List Sm,nsB l→nsB m→nsB (l++m)
 |[],m,_,h=>h
 |s::l,m,h1,h=>⟨h1.1,nsB_app l m h1.2 h⟩
def rg (a b:Int):List Int:=(List.range (b-a).toNat).map fun i:Nat=>a+(i:Int)
theorem rg_nil (a:Int):rg a a=[]:=by simp[rg]
theorem rg_cons {a b:Int} (h:a<b):rg a b=a::rg (a+1) b:=by
 unfold rg
 have e:(b-a).toNat=(b-(a+1)).toNat+1:=by omega
 rw[e,List.range_succ_eq_map,List.map_cons,List.map_map]
 simp only[Int.natCast_zero,Int.add_zero,List.cons.injEq,true_and]
 apply List.map_congr_left
 intro i _
 simp only[Function.comp]
 omega
theorem rg_app {a b c:Int} (h1:a≤b) (h2:b≤c):rg a b++rg b c=rg a c:=by
 obtain⟨n,hn⟩:∃n:Nat,b=a+n:=⟨(b-a).toNat,by omega⟩
 subst hn
 induction n generalizing a with
 |zero=>simp[rg_nil]
 |succ n ih=>
  rw[rg_cons (a:=a) (b:=a+((n+1:Nat):Int)) (by omega),rg_cons (a:=a) (b:=c) (by omega),List.cons_append]
  have e:a+((n+1:Nat):Int)=(a+1)+(n:Int):=by omega
  rw[e]at h2 ⊢
  rw[ih (by omega) h2]
theorem nx_e0 {p q:Pr} (h:Nx p q) (h0:q.e=0):p.e=0:=by
 by_cases h1:p.e=0
 ·exact h1
 ·rw[(h.e h1).1]at h0;exact absurd h0 h1
def HS (l:List Sm) (p q:Pr):Prop:=alB l=rg p.n q.n∧p.n≤q.n∧q.n-p.n≤q.i-p.i∧nsB l
def HN (f:Nat) (st:Pr→R Sm):Prop:=∀p,okP p→dpU f p→0≤p.n→p.n≤p.i→(st p).2.e=0→HS [(st p).1] p (st p).2
theorem stmtsL_hs {st:Pr→R Sm} (hu:∀p,okP p→Nx p (st p).2) {f:Nat} (hn:HN f st):∀(k:Nat) (l:List Sm) (p:Pr) (p0:Pr),okP p→dpU f p→0≤p.n→p.n≤p.i→HS l p0 p→(stmtsL st k l p).2.e=0→HS (stmtsL st k l p).1 p0 (stmtsL st k l p).2
 |0,l,p,p0,h,hd,h0,h1,hs,_=>hs
 |k+1,l,p,p0,h,hd,h0,h1,hs,he=>by
  simp only[stmtsL]at he ⊢
  split
  ·rename_i e0
   rw[if_pos e0]at he
   split
   ·rename_i hi
    have h2:=(isT_adv h hi).i
    obtain⟨a1,a2,a3,a4⟩:=hs
    exact⟨a1,a2,by show p.n-p0.n≤(adv p).i-p0.i;omega,a4⟩
   rename_i hi
   rw[if_neg hi]at he
   split
   ·rename_i hb
    rw[if_pos hb]at he
    exact absurd he (failP_ne (by decide) p)
   ·rename_i hb
    rw[if_neg hb]at he
    have h2:=hu p h
    have h3:=stmtsL_nx hu k (l++[(st p).1]) (st p).2 h2.ok
    have h4:=nx_e0 h3 he
    obtain⟨b1,b2,b3,b4⟩:=hn p h hd h0 h1 h4
    obtain⟨a1,a2,a3,a4⟩:=hs
    refine stmtsL_hs hu hn k _ _ p0 h2.ok (by unfold dpU at hd ⊢;rw[h2.d];exact hd) (by omega) (by omega) ⟨?_,by omega,by omega,nsB_app _ _ a4 b4⟩ he
    rw[alB_app,a1,b1,rg_app a2 b2]
  ·exact hs
theorem HS_nil (p:Pr):HS [] p p:=⟨by simp[alB,rg_nil],Int.le_refl _,by omega,trivial⟩
theorem stmtsW_hs {st:Pr→R Sm} (hu:∀p,okP p→Nx p (st p).2) {f:Nat} (hn:HN f st) {p:Pr} (h:okP p) (hd:dpU f p) (h0:0≤p.n) (h1:p.n≤p.i) (he:(stmtsW st p).2.e=0):HS (stmtsW st p).1 p (stmtsW st p).2:=
 stmtsL_hs hu hn _ _ p p h hd h0 h1 (HS_nil p) he
theorem opn_fail {p:Pr} (h:okP p) (hb:opnB p=false):(opnP p).e≠0∨p.e≠0:=by
 by_cases he:p.e=0
 ·left
  unfold opnB at hb
  have e0:(p.e==0)=true:=by simp[he]
  rw[e0]at hb
  simp only[Bool.true_and,Bool.not_eq_false']at hb
  unfold opnP
  rw[if_pos e0,if_pos hb]
  exact failP_ne (by decide) p
 ·exact .inr he
theorem blkW_hs {st:Pr→R Sm} (hu:∀p,okP p→Nx p (st p).2) {f:Nat} (hn:HN f st) {p:Pr} (h:okP p) (hd:dpU (f+1) p) (h0:0≤p.n) (h1:p.n≤p.i) (he:(blkW st p).2.e=0):HS (blkW st p).1 p (blkW st p).2:=by
 unfold blkW at he ⊢
 split
 ·rename_i hi
  rw[if_pos hi]at he
  split
  ·rename_i hb
   rw[if_pos hb]at he
   have h2:=opn_adv h hb (isT_e hi).2
   have e3:=opn_l h hb
   have h3:(adv (opnP p)).n=p.n:=by rw[adv_n,opn_n]
   have h4:p.i≤(adv (opnP p)).i:=by have:=h2.i;omega
   obtain⟨a1,a2,a3,a4⟩:=stmtsW_hs hu hn h2.ok (opn_dp h hb hd) (by omega) (by omega) he
   exact⟨by rw[a1,h3];rfl,by show p.n≤(stmtsW st (adv (opnP p))).2.n;omega,by show (stmtsW st (adv (opnP p))).2.n-p.n≤(stmtsW st (adv (opnP p))).2.i-p.i;omega,a4⟩
  ·rename_i hb
   rw[if_neg hb]at he
   rcases opn_fail h (by simpa using hb) with h2|h2
   ·exact absurd he h2
   ·exact absurd (isT_e hi).1 h2
 ·rename_i hi
  rw[if_neg hi]at he
  exact absurd he (failP_ne (by decide) p)
theorem HS_one {k:Int} {x y:List UInt8} {e g:Ex} {cd:Cd} {ar:List Ar} {no:Int} {p q:Pr} (hq:q.n=no+1) (hp:p.n=no) (hi:p.i+1≤q.i):HS [.mk k x y e g cd ar [] [] no] p q:=by
 refine⟨?_,by omega,by omega,⟨fun _=>rfl,fun _ _=>rfl,trivial,trivial⟩,trivial⟩
 rw[alB_one,hp,hq,rg_cons (by omega),rg_nil]
 simp[alS,alB]
theorem stmB_hs {st:Pr→R Sm} (hu:∀p,okP p→Nx p (st p).2) {f:Nat} (hn:HN f st) {p0 p:Pr} (h:okP p) (hd:dpU (f+1) p) (h0:0≤p0.n) (hpn:p.n=p0.n+1) (hpi:p.i=p0.i) (h1:p0.n≤p0.i) (he:(stmB st p0.n p).2.e=0):HS [(stmB st p0.n p).1] p0 (stmB st p0.n p).2:=by
 have hpr:=stmB_pr hu p0.n h he
 revert he hpr
 unfold stmB
 split
 ·intro he hpr;exact HS_one (by rw[wan_n,exS_n,adv_n];exact hpn) rfl (by rw[← hpi];exact hpr)
 split
 ·intro he hpr;refine HS_one ?_ rfl (by rw[← hpi];exact hpr)
  rw[wan_n,wan_n];show (cdS (wanP [40] (adv p))).2.n=_;rw[cdS_n,wan_n,adv_n];exact hpn
 have hC:(wanP [41] (ifC p).2).n=p.n:=by
  rw[wan_n];show (cdS (wanP [40] (adv p))).2.n=_;rw[cdS_n,wan_n,adv_n]
 split
 ·rename_i hi
  intro he hpr
  have h2:=ifC_nx h hi
  have h3:=wan_nx (t:=[41]) h2.ok
  have h4:p.i+1≤(wanP [41] (ifC p).2).i:=by
   have g1:=isT_adv h hi
   have g2:=wan_nx (t:=[40]) g1.ok
   have g3:=cdS_nx g2.ok
   have g4:=(g2.trans g3).i
   have g5:=h3.i
   rw[adv_i h (isT_e hi).2]at g4
   have:(ifC p).2.i=(cdS (wanP [40] (adv p))).2.i:=rfl
   omega
  obtain⟨a1,a2,a3,a4⟩:=blkW_hs hu hn h3.ok (by unfold dpU at hd ⊢;rw[(h2.trans h3).d];exact hd) (by omega) (by omega) he
  refine⟨?_,by show p0.n≤(blkW st (wanP [41] (ifC p).2)).2.n;omega,by show (blkW st (wanP [41] (ifC p).2)).2.n-p0.n≤(blkW st (wanP [41] (ifC p).2)).2.i-p0.i;omega,⟨fun _=>rfl,(fun _ h=>absurd rfl h),a4,trivial⟩,trivial⟩
  rw[alB_one]
  show p0.n::(alB (blkW st (wanP [41] (ifC p).2)).1++alB [])=rg p0.n (blkW st (wanP [41] (ifC p).2)).2.n
  rw[a1,hC,hpn,alB,List.append_nil,← rg_cons (by omega)]
 split
 ·rename_i hi
  have h2:=ifC_nx h hi
  have h3:=wan_nx (t:=[41]) h2.ok
  have h4:p.i+1≤(wanP [41] (ifC p).2).i:=by
   have g1:=isT_adv h hi
   have g2:=wan_nx (t:=[40]) g1.ok
   have g3:=cdS_nx g2.ok
   have g4:=(g2.trans g3).i
   have g5:=h3.i
   rw[adv_i h (isT_e hi).2]at g4
   have:(ifC p).2.i=(cdS (wanP [40] (adv p))).2.i:=rfl
   omega
  have h5:=blkW_nx hu h3.ok
  split
  ·rename_i hi2
   intro he hpr
   have k1:okP (ifB (blkW st) p).2:=h5.ok
   have k2:=isT_adv k1 hi2
   have k3:=(isT_e hi2).1
   obtain⟨a1,a2,a3,a4⟩:=blkW_hs hu hn h3.ok (by unfold dpU at hd ⊢;rw[(h2.trans h3).d];exact hd) (by omega) (by omega) k3
   have k4:(adv (ifB (blkW st) p).2).n=(blkW st (wanP [41] (ifC p).2)).2.n:=rfl
   have k5:(blkW st (wanP [41] (ifC p).2)).2.i≤(adv (ifB (blkW st) p).2).i:=k2.i
   obtain⟨b1,b2,b3,b4⟩:=blkW_hs hu hn k2.ok (by unfold dpU at hd ⊢;rw[k2.d,show (ifB (blkW st) p).2.deep=p.deep from h5.d.trans (h2.trans h3).d];exact hd) (by omega) (by omega) he
   refine⟨?_,by show p0.n≤(blkW st (adv (ifB (blkW st) p).2)).2.n;omega,by show (blkW st (adv (ifB (blkW st) p).2)).2.n-p0.n≤(blkW st (adv (ifB (blkW st) p).2)).2.i-p0.i;omega,⟨(fun h=>absurd rfl h),(fun h=>absurd rfl h),a4,b4⟩,trivial⟩
   rw[alB_one]
   show p0.n::(alB (blkW st (wanP [41] (ifC p).2)).1++alB (blkW st (adv (ifB (blkW st) p).2)).1)=rg p0.n (blkW st (adv (ifB (blkW st) p).2)).2.n
   rw[a1,b1,k4,rg_app a2 (by omega),hC,hpn,← rg_cons (by omega)]
  ·intro he hpr
   obtain⟨a1,a2,a3,a4⟩:=blkW_hs hu hn h3.ok (by unfold dpU at hd ⊢;rw[(h2.trans h3).d];exact hd) (by omega) (by omega) he
   refine⟨?_,by show p0.n≤(blkW st (wanP [41] (ifC p).2)).2.n;omega,by show (blkW st (wanP [41] (ifC p).2)).2.n-p0.n≤(blkW st (wanP [41] (ifC p).2)).2.i-p0.i;omega,⟨(fun h=>absurd rfl h),(fun h=>absurd rfl h),a4,trivial⟩,trivial⟩
   rw[alB_one]
   show p0.n::(alB (blkW st (wanP [41] (ifC p).2)).1++alB [])=rg p0.n (blkW st (wanP [41] (ifC p).2)).2.n
   rw[a1,hC,hpn,alB,List.append_nil,← rg_cons (by omega)]
 split
 ·intro he hpr;refine HS_one ?_ rfl (by rw[← hpi];exact hpr)
  rw[wan_n,exS_n,wan_n,nam_n,adv_n];exact hpn
 split
 ·intro he hpr;refine HS_one ?_ rfl (by rw[← hpi];exact hpr)
  rw[wan_n,argW_n,adv_n,nam_n];exact hpn
 split
 ·intro he hpr;refine HS_one ?_ rfl (by rw[← hpi];exact hpr)
  rw[wan_n,exS_n,wan_n,wan_n,exS_n,adv_n,nam_n];exact hpn
 ·intro he hpr;refine HS_one ?_ rfl (by rw[← hpi];exact hpr)
  rw[wan_n,val_n,wan_n,nam_n];exact hpn
theorem stm_hn:∀f:Nat,HN f (stmF f)
 |0=>fun p h hd _ _ _=>by
  have h3:p.deep≤40:=h.2.2.2.2.1
  unfold dpU at hd
  simp at hd
  omega
 |f+1=>fun p h hd h0 h1 he=>by
  simp only[stmF]at he ⊢
  split
  ·rename_i hb;rw[if_pos hb]at he;exact absurd he (failP_ne (by decide) p)
  ·rename_i hb
   rw[if_neg hb]at he
   have hl:=h.2.1
   have hl2:=h.2.2.1
   have hw:(nxt p).n=p.n+1:=by show w64i (p.n+1)=_;unfold w64i;rw[wrap_i64 (by omega) (by omega)]
   exact stmB_hs (stm_nx f) (stm_hn f) (nxt_nx h).ok hd h0 hw rfl h1 he
theorem ope_okA {p:Pr} (h:okP p):okP (opeP p):=by
 unfold opeP
 split
 ·rename_i hi
  split
  ·rename_i hb
   exact(opn_adv h hb (isT_e hi).2).ok
  ·rename_i hb
   exact(fail_nx 51 (opn_no h (by simpa using hb)).ok).ok
 ·exact(fail_nx 51 h).ok
theorem funF_al (s:List UInt8):(∃b:Int,alB (funF s).1.body=rg 0 b∧0≤b∧b≤4096)∧nsB (funF s).1.body:=by
 have hnil:(∃b:Int,alB ([]:List Sm)=rg 0 b∧0≤b∧b≤4096)∧nsB []:=⟨⟨0,by simp[alB,rg_nil],by decide,by decide⟩,trivial⟩
 unfold funF
 split
 ·exact hnil
 rename_i hr
 split
 ·exact hnil
 rename_i he
 have h3:=(hd2_nx s (s.length:Int)).ok
 have h4:okP (opeP (fp3 (rxT s).1 (s.length:Int)).2):=ope_okA (parW_nx h3).ok
 have h5:okP (fp4 (rxT s).1 (s.length:Int)).2:=(locL_nx _ _ _ h4).ok
 have hn:(fp4 (rxT s).1 (s.length:Int)).2.n=0:=by
  show (locW (opeP (fp3 (rxT s).1 (s.length:Int)).2)).2.n=0
  rw[locW_n,ope_n]
  show (parW (hd2 (rxT s).1 (s.length:Int))).2.n=0
  rw[parW_n]
  show (wanP [40] (namP (wanP tFn (p0 (rxT s).1 (s.length:Int))))).n=0
  rw[wan_n,nam_n,wan_n];rfl
 have h6:(fp5 (rxT s).1 (s.length:Int)).2.e=0:=by
  have he':(endP (fp5 (rxT s).1 (s.length:Int)).2).e=0:=by simpa [fp6] using he
  unfold endP at he'
  split at he'
  ·exact absurd he' (failP_ne (by decide) _)
  ·exact he'
 have hd:dpU 41 (fp4 (rxT s).1 (s.length:Int)).2:=by
  have:=h5.2.2.2.1
  show 41≤_+((41:Nat):Int)
  omega
 obtain⟨a1,a2,a3,a4⟩:=stmtsW_hs (stm_nx 41) (stm_hn 41) h5 hd (by omega) (by rw[hn];exact h5.1) h6
 rw[hn]at a1 a2 a3
 have h7:=(stmtsW_nx (stm_nx 41) h5).ok
 have g1:=h7.2.1
 have g2:=h7.2.2.1
 have g3:=h5.1
 exact⟨⟨_,a1,a2,by omega⟩,a4⟩
end Go.Proofs.YtodppgiaimihfabGreatDoor
namespace Go.Proofs.YtodppgiaimihfabGreatDoor
open Go Go.Sy Go.RowKit
set_option maxRecDepth 20000 in
theorem c_liteIndexByte (s:List UInt8) (c:Int) (w:World):Calls Tryz.prog 91 #[.string (bs s),.int .u8 c] w fun e w'=>e= .returned (.int .i64 (Lib.indexByte s c.toNat.toUInt8))∧w'=w:=by
 go_enter Tryz.func91,Tryz.ntmps91
 go_wp2
 rw[run_callFunc_extern Tryz.func105 (by kernel_rfl) (by kernel_rfl) (by kernel_rfl) (e:=Extern.BytealgIndexByte.indexByte) (by kernel_rfl),Lib.run_indexByteString]
 simp only[Result.andThen]
 rw[Oper.upon_value]
 go_wp2
 go_ret
 exact⟨rfl,rfl⟩
theorem below_same {v:Value} {e:Ending} {w w':World} (h:e= .returned v∧w'=w):e= .returned v∧Below w.heap.size w w':=by
 obtain⟨h1,rfl⟩:=h
 exact⟨h1,Below.refl _ _⟩
end Go.Proofs.YtodppgiaimihfabGreatDoor
