/- Statements as they are written: the parser reads each as what it says. No conditions but those in each statement. -/
import Derived.Test.YtjnnmindcbgjhaaCx2
import Derived.Test.YtjnnmindcbgjhaaPa8
set_option linter.unusedVariables false
set_option linter.unusedSimpArgs false
open List (length_cons)
namespace Go.Proofs.Ytjnnmindcbgjhaa
open Go Go.Sy Go.RowKit
def nmO (s:List UInt8):Prop:=DZ s=false∧lh s
theorem nmO.ne {s w:List UInt8} (h:nmO s) (hw:DZ w=true:=by decide):(s==w)=false:=by
 rw[beq_eq_false_iff_ne]
 rintro rfl
 have h1:=h.1
 rw[hw]at h1;cases h1
inductive Cs where
 |asg (x:List UInt8) (e:Cx)
 |adr (x y:List UInt8)
 |nul (x:List UInt8)
 |lod (x y:List UInt8)
 |sto (x:List UInt8) (e:Cx)
 |idx (x y:List UInt8) (e:Cx)
 |put (y:List UInt8) (e f:Cx)
 |cal (x:Option (List UInt8)) (y:List UInt8) (l:List Cx)
 |ret (e:Cx)
 |ass (c:Cc)
 |whi (c:Cc) (b:List Cs)
 |ite (c:Cc) (b:List Cs) (e:Option (List Cs))
abbrev kO (c:UInt8):Kt:=(2,[c])
def agK:List Cx→List Kt
 |[]=>[kO 41]
 |[c]=>c.tk++[kO 41]
 |c::l=>c.tk++kO 44::agK l
mutual
def Cs.tk:Cs→List Kt
 | .asg x e=>(0,x)::kO 61::(e.tk++[kO 59])
 | .adr x y=>[(0,x),kO 61,kO 38,(0,y),kO 59]
 | .nul x=>[(0,x),kO 61,(0,MK),kO 59]
 | .lod x y=>[(0,x),kO 61,kO 42,(0,y),kO 59]
 | .sto x e=>kO 42::(0,x)::kO 61::(e.tk++[kO 59])
 | .idx x y e=>(0,x)::kO 61::(0,y)::kO 91::(e.tk++[kO 93,kO 59])
 | .put y e f=>(0,y)::kO 91::(e.tk++kO 93::kO 61::(f.tk++[kO 59]))
 | .cal none y l=>(0,y)::kO 40::(agK l++[kO 59])
 | .cal (some x) y l=>(0,x)::kO 61::(0,y)::kO 40::(agK l++[kO 59])
 | .ret e=>(0,TC)::(e.tk++[kO 59])
 | .ass c=>(0,RB)::kO 40::(c.tk++[kO 41,kO 59])
 | .whi c b=>(0,TD)::kO 40::(c.tk++kO 41::kO 123::(tkB b++[kO 125]))
 | .ite c b none=>(0,tIf)::kO 40::(c.tk++kO 41::kO 123::(tkB b++[kO 125]))
 | .ite c b (some e)=>(0,tIf)::kO 40::(c.tk++kO 41::kO 123::(tkB b++kO 125::(0,Hc)::kO 123::(tkB e++[kO 125])))
def tkB:List Cs→List Kt
 |[]=>[]
 |s::l=>s.tk++tkB l
end
mutual
def Cs.ct:Cs→Nat
 | .whi _ b=>1+ctB b
 | .ite _ b none=>1+ctB b
 | .ite _ b (some e)=>1+ctB b+ctB e
 |_=>1
def ctB:List Cs→Nat
 |[]=>0
 |s::l=>s.ct+ctB l
end
def agA (l:List Cx):List Ar:=l.map fun c=>⟨false,[],c.v⟩
mutual
def Cs.v (n:Int):Cs→Sm
 | .asg x e=>.mk 0 x [] e.v .nil .nil [] [] [] n
 | .adr x y=>.mk 1 x y .nil .nil .nil [] [] [] n
 | .nul x=>.mk 3 x [] .nil .nil .nil [] [] [] n
 | .lod x y=>.mk 4 x y .nil .nil .nil [] [] [] n
 | .sto x e=>.mk 5 x [] e.v .nil .nil [] [] [] n
 | .idx x y e=>.mk 6 x y e.v .nil .nil [] [] [] n
 | .put y e f=>.mk 7 [] y e.v f.v .nil [] [] [] n
 | .cal none y l=>.mk 8 [] y .nil .nil .nil (agA l) [] [] n
 | .cal (some x) y l=>.mk 8 x y .nil .nil .nil (agA l) [] [] n
 | .ret e=>.mk 9 [] [] e.v .nil .nil [] [] [] n
 | .ass c=>.mk 12 [] [] .nil .nil c.v [] [] [] n
 | .whi c b=>.mk 11 [] [] .nil .nil c.v [] (vB (n+1) b) [] n
 | .ite c b none=>.mk 10 [] [] .nil .nil c.v [] (vB (n+1) b) [] n
 | .ite c b (some e)=>.mk 10 [] [] .nil .nil c.v [] (vB (n+1) b) (vB (n+1+ctB b) e) n
def vB (n:Int):List Cs→List Sm
 |[]=>[]
 |s::l=>s.v n::vB (n+s.ct) l
end
def agD:List Cx→Nat
 |[]=>0
 |c::l=>max c.dp (agD l)
mutual
def Cs.dp:Cs→Nat
 | .asg _ e=>e.dp
 | .sto _ e=>e.dp
 | .idx _ _ e=>e.dp
 | .put _ e f=>max e.dp f.dp
 | .cal _ _ l=>agD l
 | .ret e=>e.dp
 | .ass c=>c.dp
 | .whi c b=>max c.dp (dpB b+1)
 | .ite c b none=>max c.dp (dpB b+1)
 | .ite c b (some e)=>max c.dp (max (dpB b+1) (dpB e+1))
 |_=>0
def dpB:List Cs→Nat
 |[]=>0
 |s::l=>max s.dp (dpB l)
end
def exO (e:Cx):Prop:=e.wf∧e.nm
mutual
def Cs.wf:Cs→Prop
 | .asg x e=>nmO x∧exO e
 | .adr x y=>nmO x∧nmO y
 | .nul x=>nmO x
 | .lod x y=>nmO x∧nmO y
 | .sto x e=>nmO x∧exO e
 | .idx x y e=>nmO x∧nmO y∧exO e
 | .put y e f=>nmO y∧exO e∧exO f
 | .cal none y l=>nmO y∧∀e∈l,exO e
 | .cal (some x) y l=>nmO x∧nmO y∧∀e∈l,exO e
 | .ret e=>exO e
 | .ass c=>c.wf
 | .whi c b=>c.wf∧wfB b
 | .ite c b none=>c.wf∧wfB b
 | .ite c b (some e)=>c.wf∧wfB b∧wfB e
def wfB:List Cs→Prop
 |[]=>True
 |s::l=>s.wf∧wfB l
end
theorem A4P:Ht (kO 44):=by intro u hu;revert hu;revert u;decide
theorem Yq:Ht (kO 59):=by intro u hu;revert hu;revert u;decide
theorem rB:Ht (kO 93):=by intro u hu;revert hu;revert u;decide
theorem iE:∀(l:List Cx) (p:Pr) (acc:List Ar) (k:Nat) (ts:List Kt),l≠[]→(∀e∈l,exO e)→Sfx p (agK l++ts)→(agD l:Int)+p.deep≤40→l.length≤k→∃q,Ka k acc p=(acc++agA l,q)∧Sfx q ts∧q.deep=p.deep∧q.l=p.l
 |[],_,_,_,_,h,_,_,_,_=>absurd rfl h
 |[c],p,acc,k,ts,_,hw,h,hd,hk=>by
  obtain⟨k,rfl⟩:∃j,k=j+1:=⟨k-1,by simp only[length_cons]at hk;omega⟩
  have h:Sfx p (c.tk++kO 41::ts):=by simpa [agK] using h
  obtain⟨w1,w2⟩:=hw c (by simp)
  obtain⟨q,e1,e2⟩:=Iq w1 w2 S6 h (by simp only[agD]at hd;omega)
  refine⟨adv q,?_,e2.s.adv,e2.d,e2.l⟩
  simp only[Ka]
  rw[if_pos (by rw[h.e];rfl),e1,if_pos (by rw[e2.s.isT];decide)];rfl
 |c::d::l,p,acc,k,ts,_,hw,h,hd,hk=>by
  obtain⟨k,rfl⟩:∃j,k=j+1:=⟨k-1,by simp only[length_cons]at hk;omega⟩
  have h:Sfx p (c.tk++kO 44::(agK (d::l)++ts)):=by simpa [agK] using h
  obtain⟨w1,w2⟩:=hw c (by simp)
  have hd':(max c.dp (agD (d::l)):Nat)+p.deep≤40:=hd
  obtain⟨q,e1,e2⟩:=Iq w1 w2 A4P h (by omega)
  obtain⟨q2,g1,g2,g3,g4⟩:=iE (d::l) (adv q) (acc++[⟨false,[],c.v⟩]) k ts (by simp) (fun e he=>hw e (List.mem_cons_of_mem _ he)) e2.s.adv (by show _+q.deep≤40;rw[e2.d];omega) (by simp only[length_cons]at hk ⊢;omega)
  refine⟨q2,?_,g2,g3.trans e2.d,g4.trans e2.l⟩
  simp only[Ka]
  rw[if_pos (by rw[h.e];rfl),e1,if_neg (by rw[e2.s.isT];decide)]
  dsimp only
  rw[e2.s.wan (by decide),g1,List.append_assoc];rfl
theorem XZ:∀l:List Cx,l.length≤(agK l).length
 |[]=>Nat.zero_le _
 |[c]=>by simp[agK]
 |c::d::l=>by
  have:=XZ (d::l)
  simp only[agK,List.length_append,length_cons]at this ⊢;omega
theorem Cx.fs_cl {c:Cx} (hw:c.wf) (hn:c.nm):(c.fs.1 != 1&&c.fs.2==[41])=false:=by
 induction c with
 |num d=>rfl
 |var s=>simp only[Cx.fs,beq_eq_false_iff_ne.2 (lh_ne hn:s≠[41]),Bool.and_false]
 |neg u _=>rfl
 |par u _=>rfl
 |bin o a b ih _=>
  refine ih ?_ hn.1
  rcases hw with⟨_,_,h,_⟩|⟨_,_,_,h,_⟩<;>exact h
theorem iF (l:List Cx) (p:Pr) (ts:List Kt) (hw:∀e∈l,exO e) (h:Sfx p (agK l++ts)) (hd:(agD l:Int)+p.deep≤40):∃q,Ew p=(agA l,q)∧Sfx q ts∧q.deep=p.deep∧q.l=p.l:=by
 unfold Ew
 cases l with
 |nil=>
  have h:Sfx p (kO 41::ts):=h
  rw[if_pos (by rw[h.isT];decide)]
  exact⟨adv p,rfl,h.adv,rfl,rfl⟩
 |cons c l=>
  have hf:isT [41] p=false:=by
   obtain⟨w1,w2⟩:=hw c (by simp)
   obtain⟨r,er⟩:=c.tk_fs
   have hh:∃t,agK (c::l)=c.fs::t:=by
    cases l with
    |nil=>exact⟨r++[kO 41],by simp[agK,er]⟩
    |cons d l=>exact⟨r++kO 44::agK (d::l),by simp[agK,er]⟩
   obtain⟨t,ht⟩:=hh
   rw[ht]at h
   have h:Sfx p (c.fs::(t++ts)):=h
   rw[h.isT]
   exact Cx.fs_cl w1 w2
  rw[if_neg (by rw[hf];decide)]
  have h1:=h.lenN
  have h2:=XZ (c::l)
  rw[List.length_append]at h1
  obtain⟨q,e1,e2,e3,e4⟩:=iE (c::l) p [] (p.l.length+1) ts (by simp) hw h hd (by omega)
  exact⟨q,by rw[e1];rfl,e2,e3,e4⟩
theorem Cx.fs_t {c:Cx} (hw:c.wf) (hn:c.nm):(c.fs.1 != 1&&c.fs.2==Ry)=false∧(c.fs.1 != 1&&c.fs.2==[38])=false∧(c.fs.1 != 1&&c.fs.2==[42])=false:=by
 refine⟨?_,?_⟩
 ·have:=beq_eq_false_iff_ne.2 (Cx.fs_nul hw hn)
  rw[this,Bool.and_false]
 ·induction c with
  |num d=>exact⟨rfl,rfl⟩
  |var s=>exact⟨by simp only[Cx.fs,beq_eq_false_iff_ne.2 (lh_ne hn:s≠[38]),Bool.and_false],by simp only[Cx.fs,beq_eq_false_iff_ne.2 (lh_ne hn:s≠[42]),Bool.and_false]⟩
  |neg u _=>exact⟨rfl,rfl⟩
  |par u _=>exact⟨rfl,rfl⟩
  |bin o a b ih _=>
   refine ih ?_ hn.1
   rcases hw with⟨_,_,h,_⟩|⟨_,_,_,h,_⟩<;>exact h
theorem rC (o:Int):opK o≠[91]∧opK o≠[40]:=by
 unfold opK;repeat' split
 all_goals exact⟨by decide,by decide⟩
theorem Cx.sn:∀(c:Cx) (t:Kt) (r:List Kt),c.fs.1=0→c.tk=c.fs::t::r→t.2≠[91]∧t.2≠[40]
 | .num d,t,r,h,e=>by cases h
 | .var s,t,r,h,e=>by simp[Cx.tk,Cx.fs]at e
 | .neg u,t,r,h,e=>by cases h
 | .par u,t,r,h,e=>by cases h
 | .bin o a b,t,r,h,e=>by
  obtain⟨ra,ea⟩:=a.tk_fs
  simp only[Cx.tk,ea,Cx.fs,List.cons_append,List.cons.injEq,true_and]at e
  cases ra with
  |nil=>
   simp only[List.nil_append,List.cons.injEq]at e
   rw[← e.1];exact rC o
  |cons u ra=>
   simp only[List.cons_append,List.cons.injEq]at e
   rw[← e.1]
   exact a.sn u ra h ea
theorem rD {c:Cx} {p:Pr} {ts:List Kt} (h:Sfx p (c.tk++kO 59::ts)):ahB [91] p=false∧ahB [40] p=false:=by
 obtain⟨r,er⟩:=c.tk_fs
 rw[er]at h
 have h:Sfx p (c.fs::(r++kO 59::ts)):=h
 by_cases h0:c.fs.1=0
 ·cases r with
  |nil=>
   obtain⟨e1,e2⟩:=Sfx.tkA1 (a:=c.fs) (b:=kO 59) (ts:=ts) h
   unfold ahB
   rw[e1,e2]
   exact⟨by simp,by simp⟩
  |cons t r=>
   obtain⟨n1,n2⟩:=c.sn t r h0 er
   obtain⟨e1,e2⟩:=Sfx.tkA1 (a:=c.fs) (b:=t) (ts:=r++kO 59::ts) h
   unfold ahB
   rw[e1,e2,beq_eq_false_iff_ne.2 n1,beq_eq_false_iff_ne.2 n2]
   exact⟨by simp,by simp⟩
 ·have hn:nameB p=false:=by
   rw[h.nameB]
   have:(c.fs.1==0)=false:=by rw[beq_eq_false_iff_ne];exact h0
   rw[this];rfl
  unfold ahB
  rw[hn]
  exact⟨rfl,rfl⟩
theorem Ir {p:Pr} {s:List UInt8} {ts:List Kt} (h:Sfx p ((0,s)::ts)) (hw:DZ s=false):CY p=s:=by
 unfold CY
 rw[if_pos (by rw[h.nameB,hw];rfl),h.hd.2]
theorem rE {c:Cx} {p:Pr} {ts:List Kt} (hw:exO c) (h:Sfx p (c.tk++kO 59::ts)) (hd:(c.dp:Int)+p.deep≤40):∃q,CI p=(⟨0,[],c.v,none⟩,q)∧Afx p q (kO 59) ts:=by
 obtain⟨t1,t2,t3⟩:=Cx.fs_t hw.1 hw.2
 obtain⟨a1,a2⟩:=rD h
 obtain⟨q,e1,e2⟩:=Iq hw.1 hw.2 Yq h hd
 obtain⟨r,er⟩:=c.tk_fs
 rw[er]at h
 have h:Sfx p (c.fs::(r++kO 59::ts)):=h
 refine⟨q,?_,e2⟩
 unfold CI
 rw[if_neg (by rw[h.isT,t1];decide),if_neg (by rw[h.isT,t2];decide),if_neg (by rw[h.isT,t3];decide),if_neg (by rw[a1];decide),if_neg (by rw[a2];decide),e1]
theorem jW {p:Pr} {ts:List Kt} (h:Sfx p ((0,MK)::kO 59::ts)):CI p=(⟨3,[],.nil,none⟩,adv p):=by
 unfold CI
 rw[if_pos (by rw[h.isT];decide)]
theorem jX {p:Pr} {y:List UInt8} {ts:List Kt} (hy:nmO y) (h:Sfx p (kO 38::(0,y)::kO 59::ts)):CI p=(⟨1,y,.nil,none⟩,adv (adv p)):=by
 unfold CI
 rw[if_neg (by rw[h.isT];decide),if_pos (by rw[h.isT];decide),Ir h.adv hy.1,h.adv.nam hy.1]
theorem jY {p:Pr} {y:List UInt8} {ts:List Kt} (hy:nmO y) (h:Sfx p (kO 42::(0,y)::kO 59::ts)):CI p=(⟨4,y,.nil,none⟩,adv (adv p)):=by
 unfold CI
 rw[if_neg (by rw[h.isT];decide),if_neg (by rw[h.isT];decide),if_pos (by rw[h.isT];decide),Ir h.adv hy.1,h.adv.nam hy.1]
theorem de {p:Pr} {y:List UInt8} {c:UInt8} {ts:List Kt} (hy:nmO y) (h:Sfx p ((0,y)::kO c::ts)) (u:List UInt8):ahB u p=([c]==u):=by
 obtain⟨e1,e2⟩:=Sfx.tkA1 (a:=(0,y)) (b:=kO c) (ts:=ts) h
 have hl:=h.len
 simp only[length_cons]at hl
 unfold ahB
 rw[e1,e2,h.nameB,hy.1]
 have:decide (p.i+1<(p.l.length:Int))=true:=by rw[decide_eq_true_eq];omega
 rw[this];rfl
theorem jZ {p:Pr} {y:List UInt8} {e:Cx} {ts:List Kt} (hy:nmO y) (he:exO e) (h:Sfx p ((0,y)::kO 91::(e.tk++kO 93::ts))) (hd:(e.dp:Int)+p.deep≤40):∃q,CI p=(⟨6,y,e.v,none⟩,q)∧Sfx q ts∧q.deep=p.deep∧q.l=p.l:=by
 obtain⟨q,e1,e2⟩:=Iq he.1 he.2 rB h.adv.adv hd
 refine⟨adv q,?_,e2.s.adv,e2.d,e2.l⟩
 unfold CI
 rw[if_neg (by rw[h.isT,hy.ne (w:=Ry)];decide),if_neg (by rw[h.isT,beq_eq_false_iff_ne.2 (lh_ne hy.2:y≠[38])];decide),if_neg (by rw[h.isT,beq_eq_false_iff_ne.2 (lh_ne hy.2:y≠[42])];decide),if_pos (by rw[de hy h];decide),Ir h hy.1,h.nam hy.1,e1]
 dsimp only
 rw[e2.s.wan (by decide)]
theorem ja {p:Pr} {y:List UInt8} {l:List Cx} {ts:List Kt} (hy:nmO y) (hl:∀e∈l,exO e) (h:Sfx p ((0,y)::kO 40::(agK l++ts))) (hd:(agD l:Int)+p.deep≤40):∃q,CI p=(⟨8,y,.nil,some (agA l)⟩,q)∧Sfx q ts∧q.deep=p.deep∧q.l=p.l:=by
 obtain⟨q,e1,e2,e3,e4⟩:=iF l _ ts hl h.adv.adv hd
 refine⟨q,?_,e2,e3,e4⟩
 unfold CI
 rw[if_neg (by rw[h.isT,hy.ne (w:=Ry)];decide),if_neg (by rw[h.isT,beq_eq_false_iff_ne.2 (lh_ne hy.2:y≠[38])];decide),if_neg (by rw[h.isT,beq_eq_false_iff_ne.2 (lh_ne hy.2:y≠[42])];decide),if_neg (by rw[de hy h];decide),if_pos (by rw[de hy h];decide),Ir h hy.1,h.nam hy.1,e1]
end Go.Proofs.Ytjnnmindcbgjhaa
namespace Go.Proofs.Ytjnnmindcbgjhaa
open Go Go.Sy Go.RowKit
theorem MM (c:Int) (p:Pr):(C7 c p).n=p.n:=(Xu c p).2.2.2.2
theorem Jn (p:Pr):(adv p).n=p.n:=rfl
theorem S7 (p:Pr):(shut p).n=p.n:=rfl
theorem Uy (t:List UInt8) (p:Pr):(AX t p).n=p.n:=by unfold AX;split;exact rfl;exact MM _ _
theorem Uz (p:Pr):(BE p).n=p.n:=by unfold BE;split;exact rfl;exact MM _ _
theorem Le (p:Pr):(Ai p).n=p.n:=by
 unfold Ai
 split
 ·split
  ·exact MM _ _
  ·rfl
 ·rfl
theorem Xa {u:Pr→R Ex} (hu:∀p,(u p).2.n=p.n):∀(k:Nat) (a:Ex) (p:Pr),(Ej u k a p).2.n=p.n
 |0,a,p=>rfl
 |k+1,a,p=>by
  simp only[Ej]
  repeat' split
  all_goals first|rfl|(rw[Xa hu k,hu];rfl)
theorem Xb {u:Pr→R Ex} (hu:∀p,(u p).2.n=p.n) (p:Pr):(Dd u p).2.n=p.n:=by unfold Dd;rw[Xa hu,hu]
theorem aE {u:Pr→R Ex} (hu:∀p,(u p).2.n=p.n):∀(k:Nat) (a:Ex) (p:Pr),(HZ u k a p).2.n=p.n
 |0,a,p=>rfl
 |k+1,a,p=>by
  simp only[HZ]
  repeat' split
  all_goals first|rfl|(rw[aE hu k,Xb hu];rfl)
theorem aF {u:Pr→R Ex} (hu:∀p,(u p).2.n=p.n) (p:Pr):(GJ u p).2.n=p.n:=by unfold GJ;rw[aE hu,Xb hu]
theorem dk:∀(f:Nat) (p:Pr),(unF f p).2.n=p.n
 |0,p=>rfl
 |f+1,p=>by
  simp only[unF]
  repeat' split
  all_goals first
   |rfl
   |exact MM _ _
   |exact Le _
   |exact Uz _
   |(rw[S7,dk f,Jn,Le])
   |(rw[S7,Uy,aF (dk f),Jn,Le])
theorem Ow (p:Pr):(exS p).2.n=p.n:=aF (dk 41) p
theorem aG (a:Ex):∀(l:List (List UInt8)) (k:Int) (q:Pr),(Jr q a l k).2.n=q.n
 |[],k,q=>MM _ _
 |t::l,k,q=>by
  simp only[Jr]
  split
  ·rw[Ow,Jn]
  ·exact aG a l (k+1) q
theorem aH {u:Pr→R Cd} (hu:∀p,(u p).2.n=p.n):∀(k:Nat) (a:Cd) (p:Pr),(JA u k a p).2.n=p.n
 |0,a,p=>rfl
 |k+1,a,p=>by
  simp only[JA]
  split
  ·rw[aH hu k,hu];rfl
  ·rfl
theorem aI {u:Pr→R Cd} (hu:∀p,(u p).2.n=p.n) (p:Pr):(GK u p).2.n=p.n:=by unfold GK;rw[aH hu,hu]
theorem aJ {u:Pr→R Cd} (hu:∀p,(u p).2.n=p.n):∀(k:Nat) (a:Cd) (p:Pr),(JB u k a p).2.n=p.n
 |0,a,p=>rfl
 |k+1,a,p=>by
  simp only[JB]
  split
  ·rw[aJ hu k,aI hu];rfl
  ·rfl
theorem aK {u:Pr→R Cd} (hu:∀p,(u p).2.n=p.n) (p:Pr):(Hw u p).2.n=p.n:=by unfold Hw;rw[aJ hu,aI hu]
theorem Yr:∀(f:Nat) (p:Pr),(B5 f p).2.n=p.n
 |0,p=>rfl
 |f+1,p=>by
  simp only[B5]
  repeat' split
  all_goals first
   |rfl
   |exact Le _
   |(rw[S7,Yr f,Jn,Le])
   |(rw[S7,Uy,aK (Yr f),Jn,Le])
   |(rw[aG,Ow])
theorem yI (p:Pr):(cdS p).2.n=p.n:=aK (Yr 41) p
theorem aL:∀(k:Nat) (l:List Ar) (p:Pr),(Ka k l p).2.n=p.n
 |0,l,p=>rfl
 |k+1,l,p=>by
  simp only[Ka]
  repeat' split
  ·rw[Jn,Ow]
  ·rw[aL k,Uy,Ow]
  ·rfl
theorem aM (p:Pr):(Ew p).2.n=p.n:=by
 unfold Ew
 split
 ·rfl
 ·exact aL _ _ _
theorem yJ (p:Pr):(CI p).2.n=p.n:=by
 unfold CI
 repeat' split
 all_goals first
  |rfl
  |(rw[Uz,Jn])
  |(rw[Uy,Ow,Jn,Uz])
  |(rw[aM,Jn,Uz])
  |exact Ow _
theorem yK (p:Pr):(Hs p).n=p.n:=by
 unfold Hs
 split
 ·split
  ·rw[Jn,Le]
  ·rw[MM,Le]
 ·exact MM _ _
end Go.Proofs.Ytjnnmindcbgjhaa
