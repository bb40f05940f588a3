/- The seat's units, walked. Conditions: bytes. -/
import Derived.Test.YtjnnmindcbgjhaaWl
import Derived.Test.YtjnnmindcbgjhaaMk5
set_option linter.unusedVariables false
set_option linter.unusedSimpArgs false
set_option maxRecDepth 20000
set_option maxHeartbeats 16000000
open List (map_append)
namespace Go.Proofs.Ytjnnmindcbgjhaa
open Go Go.Sy Go.RowKit
def Kj (l:List Int):List D:=[.sl zBy (l.map byD)]
def OH:List D:=[.v (.slice none 0 0)]
theorem sB (a b:Int) (h:byD a=byD b):a=b:=by
 simp only[byD,List.cons.injEq,D.v.injEq,Value.int.injEq,true_and,and_true]at h
 exact h
theorem jJ (a b:List Int) (h:Kj a=Kj b):a=b:=by
 simp only[Kj,List.cons.injEq,D.sl.injEq,true_and,and_true]at h
 exact Ay sB h
noncomputable def bT:Cod (List (List Int)):=GZ (fun l=>.one (.d (.sl OH (l.map Kj)))) (fun v a b h h'=>by
 cases v with
 |one c=>exact Ay jJ (FP h h')
 |agg l=>exact h.elim
 |tup l=>exact h.elim) (fun l=>rfl)
theorem sD {h:B2} {fz:Nat→Prop} {x:Value} (r:Rd h fz (.sl [.v (.slice none 0 0)] [[.v (.slice none 0 0)],[.v (.slice none 0 0)],[.v (.slice none 0 0)],[.v (.slice none 0 0)]]) x):Rd h fz (.sl OH (List.map Kj [[],[],[],[]])) x:=by
 cases r with
 |sl z es b off cap arr T m val hz hb hcap hl hc hr=>
  have key:∀(i:Nat) (cs:List D),(List.map Kj [[],[],[],[]])[i]?=some cs→cs=[.sl zBy []]∧([[D.v (.slice none 0 0)],[.v (.slice none 0 0)],[.v (.slice none 0 0)],[.v (.slice none 0 0)]])[i]?=some [D.v (.slice none 0 0)]:=by
   intro i cs h
   match i,h with
   |0,h=>exact⟨(Option.some.inj h).symm,rfl⟩
   |1,h=>exact⟨(Option.some.inj h).symm,rfl⟩
   |2,h=>exact⟨(Option.some.inj h).symm,rfl⟩
   |3,h=>exact⟨(Option.some.inj h).symm,rfl⟩
  refine .sl OH _ b off cap arr T m val hz hb hcap ?_ ?_ ?_
  ·intro i cs h
   rw[(key i cs h).1];rfl
  ·intro i j cs d h hd
   obtain⟨rfl,k2⟩:=key i cs h
   match j,hd with
   |0,hd=>exact hc i 0 _ _ k2 rfl
  ·intro i j cs d h hd
   obtain⟨rfl,k2⟩:=key i cs h
   match j,hd with
   |0,hd=>
    have r2:=hr i 0 _ _ k2 rfl
    rw[← Option.some.inj hd]
    cases hv:val i 0<;>rw[hv]at r2<;>cases r2
    exact .nil _ none 0 fun _=>rfl
abbrev yr:SV:=.one (.d (.sl [.v (.slice none 0 0)] [[.v (.slice none 0 0)],[.v (.slice none 0 0)],[.v (.slice none 0 0)],[.v (.slice none 0 0)]]))
open Classical in
noncomputable def cBl:Cod (List (List Int)) where
 d v:=if v=yr then some [[],[],[],[]] else bT.d v
 e:=bT.e
 h v a x hd r:=by
  split at hd
  ·rename_i hv
   subst hv
   cases Option.some.inj hd
   have r2:=r.2
   cases r2
   rename_i h2
   exact⟨rfl,.d _ _ _ (sD h2)⟩
  ·exact bT.h v a x hd r
 n:=bT.n
theorem bU (l:List (List Int)):cBl.e l= .one (.d (.sl OH (l.map Kj))):=rfl
theorem bV (l:List (List Int)):cBl.d (.one (.d (.sl OH (l.map Kj))))=some l:=by
 refine(if_neg ?_).trans (Db (e:=fun l:List (List Int)=>.one (.d (.sl OH (l.map Kj)))) (Do _))
 intro h
 cases l with
 |nil=>cases h
 |cons b l=>
  simp only[List.map_cons,Kj,SV.one.injEq,C.d.injEq,D.sl.injEq,List.cons.injEq]at h
  cases h.2.1.1
theorem yt:cBl.d yr=some [[],[],[],[]]:=if_pos rfl
theorem A54 (l:List Int):cBy.d (.one (.d (.sl zBy (l.map byD))))=some l:=IA l
theorem eV (k t:Nat) (l:List Un):(l.map Un.c).map (fun r=>r.map (mvC k t))=l.map Un.c:=GH Un.c (fun _=>rfl) l
def Un.r (u:Un):List D:=[.v (.string (bs u.s)),.v (.string (bs u.t))]
theorem yu (l:List Un):D4 (l.map Un.c)=some (l.map Un.r):=FJ Un.c (fun _=>rfl) l
theorem yw (l:List Un):(l.map Un.r).map (fun r=>r.map oD)=l.map Un.c:=by
 rw[List.map_map];exact List.map_congr_left fun u _=>rfl
theorem A55 (i:Nat) (l:List Un):(l.map Un.r).take i=(l.take i).map Un.r:=List.map_take.symm
theorem A56 (i:Nat) (l:List Un):(l.map Un.r).drop i=(l.drop i).map Un.r:=List.map_drop.symm
theorem bW (l:List Un):BB (l.map Un.c):=by
 intro r h c hc
 obtain⟨u,_,rfl⟩:=List.mem_map.1 h
 simp only[Un.c,List.mem_cons,List.not_mem_nil,or_false]at hc
 rcases hc with rfl|rfl<;>rfl
def utI (l:List (List Int)) (i:Nat):List Un:=(List.range i).map fun (j:Nat)=>⟨nmS (j:Int),txT (j:Int) (l.getD j [])⟩
theorem A57 (l:List (List Int)):utI l 0=[]:=rfl
theorem VS (l:List (List Int)) (i:Nat):(utI l i).length=i:=by simp[utI]
theorem A58 (l:List (List Int)) (i:Nat):utI l (i+1)=utI l i++[⟨nmS (i:Int),txT (i:Int) (l.getD i [])⟩]:=by
 unfold utI;rw[List.range_succ,map_append];rfl
def utN (l:List (List Int)):Nat:=if l.length<4 then l.length else 4
def utF (g:Int) (l:List (List Int)):List Un:=
 if 1<utN l then (utI l (utN l)).take 2++⟨gloB,glS g⟩::(utI l (utN l)).drop 2 else utI l (utN l)++[⟨gloB,glS g⟩]
theorem yx {l:List (List Int)} {i:Nat} (h:i<l.length) (z:List D):(l.map Kj).getD i z=[.sl zBy ((l.getD i []).map byD)]:=by
 simp[List.getD,h,Kj]
theorem A59:∀b,∀v∈ArgC.e (acS (cInt .u8) (acS cBl ac0)) b,v.tupB=false:=by
 rintro ⟨g,l,_⟩ v hv
 simp only[HU,HT,List.mem_cons,List.not_mem_nil,or_false]at hv
 rcases hv with rfl|rfl<;>rfl
noncomputable abbrev UD:ArgL (Int×List (List Int)×Unit):=Uv (acS (cInt .u8) (acS cBl ac0)) A59
abbrev WW (p:Int×List (List Int)×Unit):Prop:=0≤p.1∧p.2.1.length≤1000000∧∀b∈p.2.1,okY b
abbrev QR (_:Int×List (List Int)×Unit):SV:=.one (.s 0)
abbrev M_Un (p:Int×List (List Int)×Unit):List (Option ML):=[some (.vec zUc ((utF p.1 p.2.1).map Un.c))]
attribute [local go_sem] ML.ch ML.ren Un.c PR R2 PS Dl bV bU IA Iy A54 chL PQ fcN lmH lmO E9 DQ DR nmX EN F7 rnC DA Ds DP A56 yu eV Gj A55 yw CR EW vrQ zUc
theorem sE:E8 Try.prog 30 UD.args UD.mem WW (fun _=>false) QR M_Un (fun _=>mlO []):=by
 rintro ⟨g,l,_u⟩ w M I lab fz xs ⟨hc1,hc2,hc3⟩ hA hl hx
 dsimp only at hc1 hc2 hc3
 refine Cf Try.func30 rfl [] w M I lab fz false [] (M_Un (g,l,())) [EY,K2,FU] [(7,[.fz 1000])] (UD.args (g,l,())) (QR (g,l,())) xs hA hl hx ?_ (jN rfl) (Nat.zero_le _) rfl (by intro q hq;cases hq) ?_
 ·intro v hv k hk
  rw[(acS (cInt .u8) (acS cBl ac0)).n _ v hv]at hk;cases hk
 clear hx hl hA xs
 simp only[Try.f30]
 simp only[↓eB,seval,go_sem,EY,Fx,K2,Ez,FU,Cg,xt,↓A1]
 have huF:utF g l=if 1<utN l then (utI l (utN l)).take 2++⟨gloB,glS g⟩::(utI l (utN l)).drop 2 else utI l (utN l)++[⟨gloB,glS g⟩]:=rfl
 obtain⟨N,hN⟩:∃N,utN l=N:=⟨_,rfl⟩
 rw[hN]at huF
 have n1:N≤l.length∧N≤4∧(N<l.length→N=4):=by rw[← hN];unfold utN;split<;>omega
 obtain⟨n1,n2,n3⟩:=n1
 refine Aa (Y:=Nat) (fun i=>i≤N)
  (fun i=>⟨[(0,true,.one (.v (.int .u8 g))),(1,true,.one (.d (.sl OH (l.map Kj)))),(5,true,.one (.s 1000)),(6,true,.one (.v (.int .i64 (i:Int))))],
   [(1000,.vec 0 zUc ((utI l i).map Un.c))]⟩)
  (fun i=>N-i) 0 (Nat.zero_le _) ?_ ?_
 ·refine A4 [.nil 5 1000 zUc] ?_;simp only[↓eB,seval,go_sem,xt,↓A1,A57]
 ·rintro i hi
  refine Ap [EY,K2,FU] [(7,[.fz 1000])] _ _ _ ?_
  by_cases hlt:i<N
  ·have hll:i<l.length∧i<4:=by omega
   have h1:decide ((i:Int)<(l.length:Int))=true:=decide_eq_true (by omega)
   have h2:decide ((i:Int)<4)=true:=decide_eq_true (by omega)
   have w1:IntKind.i64.wrap ((i:Int)+1)=((i+1:Nat):Int):=by rw[wrap_i64 (by omega) (by omega)];rfl
   have hz:=yx hll.1
   have hil:(i:Int)<(l.length:Int):=by omega
   have hln:=VS l i
   have hy:okY (l.getD i []):=by
    refine hc3 _ ?_
    simp only[List.getD,List.getElem?_eq_getElem hll.1,Option.getD_some]
    exact List.getElem_mem _
   have ht:(utI l (i+1)).map Un.c=(utI l i).map Un.c++[[.v (.string (bs (nmS (i:Int)))),.v (.string (bs (txT (i:Int) (l.getD i []))))]]:=by
    rw[A58,map_append];rfl
   have hrs:BB [[C.v (.string (bs (nmS (i:Int)))),C.v (.string (bs (txT (i:Int) (l.getD i []))))]]:=by
    intro r h c hc
    simp only[List.mem_singleton]at h
    subst h
    simp only[List.mem_cons,List.not_mem_nil,or_false]at hc
    rcases hc with rfl|rfl<;>rfl
   simp only[↓eB,seval,go_sem,EY,Fx,K2,Ez,FU,Cg,xt,↓A1,h1,h2,w1,hz]
   refine⟨⟨hil,rfl⟩,⟨Int.natCast_nonneg _,hy⟩,⟨(fun q h=>by cases h;rfl),hrs,(by decide),(by omega),(by omega)⟩,CT (by kernel_rfl),i+1,hlt,(by omega),Bz (t:=⟨[(0,true,.one (.v (.int .u8 g))),(1,true,.one (.d (.sl OH (l.map Kj)))),(5,true,.one (.s 28)),(6,true,.one (.v (.int .i64 ((i+1:Nat):Int))))],
   [(28,.vec 0 zUc ((utI l (i+1)).map Un.c))]⟩) ?_ ?_⟩
   ·refine A4 [] ?_;simp only[↓eB,seval,go_sem,xt,↓A1,ht,map_append,List.flatMap_append]
   ·refine A4 [.mv 28 1000] ?_;simp only[↓eB,seval,go_sem,xt,↓A1]
  ·have hiT:i=N:=by omega
   subst hiT
   have hln:=VS l i
   obtain⟨U,hU⟩:∃U,utI l i=U:=⟨_,rfl⟩
   rw[hU]at huF hln
   have h1:decide ((i:Int)<(l.length:Int))=false∨decide ((i:Int)<(l.length:Int))=true∧decide ((i:Int)<4)=false:=by
    by_cases h:i<l.length
    ·exact .inr ⟨decide_eq_true (by omega),decide_eq_false (by have:=n3 h;omega)⟩
    ·exact .inl (decide_eq_false (by omega))
   simp only[hU]
   cases h3:decide (1<(i:Int)) with
   |true=>
    have h3':=of_decide_eq_true h3
    have h4:utF g l=U.take 2++⟨gloB,glS g⟩::U.drop 2:=by rw[huF,if_pos (by omega)]
    have h5:(utF g l).map Un.c=(U.take 2).map Un.c++[.v (.string (bs [103,108,111,98,97,108,115])),.v (.string (bs (glS g)))]::(U.drop 2).map Un.c:=by rw[h4,map_append,List.map_cons];rfl
    have hd:List.take (i-2) (List.drop 2 U)=U.drop 2:=List.take_of_length_le (by rw[List.length_drop];omega)
    have hdl:(List.drop 2 U).length=i-2:=by rw[List.length_drop];omega
    have htl:(List.take 2 U).length=2:=by rw[List.length_take];omega
    have hs1:=bW (U.drop 2)
    have hs2:=bW (⟨gloB,glS g⟩::U.drop 2)
    have hi2:(2:Int)≤(i:Int):=by omega
    rcases h1 with h1|⟨h1,h2⟩
    ·simp only[↓eB,seval,go_sem,EY,Fx,K2,Ez,FU,Cg,xt,↓A1,h1,h3,hln,hd]
     refine⟨hi2,hc1,⟨hi2,Int.le_refl _⟩,⟨(fun q h=>by cases h;rfl),hs1,(by omega),(by omega)⟩,⟨Nat.succ_pos _,(fun q h=>by cases h;rfl),hs2,(by omega),(by omega)⟩,CT (by kernel_rfl),?_⟩
     refine A0 [.mv 41 0] ?_;simp only[↓eB,seval,go_sem,bne,QR,M_Un,A6,xt,↓A1,h5,map_append,List.flatMap_append]
    ·simp only[↓eB,seval,go_sem,EY,Fx,K2,Ez,FU,Cg,xt,↓A1,h1,h2,h3,hln,hd]
     refine⟨hi2,hc1,⟨hi2,Int.le_refl _⟩,⟨(fun q h=>by cases h;rfl),hs1,(by omega),(by omega)⟩,⟨Nat.succ_pos _,(fun q h=>by cases h;rfl),hs2,(by omega),(by omega)⟩,CT (by kernel_rfl),?_⟩
     refine A0 [.mv 41 0] ?_;simp only[↓eB,seval,go_sem,bne,QR,M_Un,A6,xt,↓A1,h5,map_append,List.flatMap_append]
   |false=>
    have h3':=of_decide_eq_false h3
    have h4:utF g l=U++[⟨gloB,glS g⟩]:=by rw[huF,if_neg (by omega)]
    have hrs:BB [[C.v (.string (bs [103,108,111,98,97,108,115])),C.v (.string (bs (glS g)))]]:=bW [⟨gloB,glS g⟩]
    have h5:(utF g l).map Un.c=U.map Un.c++[[.v (.string (bs [103,108,111,98,97,108,115])),.v (.string (bs (glS g)))]]:=by rw[h4,map_append];rfl
    rcases h1 with h1|⟨h1,h2⟩
    ·simp only[↓eB,seval,go_sem,EY,Fx,K2,Ez,FU,Cg,xt,↓A1,h1,h3,hln]
     refine⟨hc1,⟨(fun q h=>by cases h;rfl),hrs,(by decide),(by omega),(by omega)⟩,?_⟩
     refine A0 [.mv 47 0] ?_;simp only[↓eB,seval,go_sem,bne,QR,M_Un,A6,xt,↓A1,h5,map_append,List.flatMap_append]
    ·simp only[↓eB,seval,go_sem,EY,Fx,K2,Ez,FU,Cg,xt,↓A1,h1,h2,h3,hln]
     refine⟨hc1,⟨(fun q h=>by cases h;rfl),hrs,(by decide),(by omega),(by omega)⟩,?_⟩
     refine A0 [.mv 47 0] ?_;simp only[↓eB,seval,go_sem,bne,QR,M_Un,A6,xt,↓A1,h5,map_append,List.flatMap_append]
end Go.Proofs.Ytjnnmindcbgjhaa
