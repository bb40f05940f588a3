/- Tokens of texts that are put together, with what may follow. No conditions but those in each statement. -/
import Derived.Test.YtlaggppdgoknjaaGreatDoorSh1
set_option linter.unusedVariables false
set_option linter.unusedSimpArgs false
namespace Go.Proofs.YtlaggppdgoknjaaGreatDoor
open Go Go.Sy Go.RowKit
def Lp (P:UInt8→Bool) (t:List UInt8) (ts:List Kt):Prop:=
 ∃n,n≤t.length∧∀(f i:Nat) (r:List UInt8) (out:List Tok),(∀c q,r=c::q→P c=true)→∃o2,o2.map kt=ts∧rxG (f+n) i (t++r) out=rxG f (i+t.length) r (out++o2)
def pT:UInt8→Bool:=fun _=>true
def pS:UInt8→Bool:=fun c=>!idB (c.toNat:Int)
abbrev Lw:=Lp pT
abbrev Lz:=Lp pS
theorem Lp.w {P:UInt8→Bool} {t:List UInt8} {ts:List Kt} (h:Lw t ts):Lp P t ts:=by
 obtain⟨n,h1,h2⟩:=h
 exact⟨n,h1,fun f i r out _=>h2 f i r out (fun _ _ _=>rfl)⟩
theorem Lp.imp {P Q:UInt8→Bool} {t:List UInt8} {ts:List Kt} (h:Lp P t ts) (hq:∀c,Q c=true→P c=true):Lp Q t ts:=by
 obtain⟨n,h1,h2⟩:=h
 exact⟨n,h1,fun f i r out hr=>h2 f i r out (fun c q e=>hq c (hr c q e))⟩
theorem Lp.app {P Q:UInt8→Bool} {t u:List UInt8} {ts us:List Kt} (h:Lp P t ts) (k:Lp Q u us) (hu:∃c q,u=c::q∧P c=true):Lp Q (t++u) (ts++us):=by
 obtain⟨n,h1,h2⟩:=h
 obtain⟨m,k1,k2⟩:=k
 refine⟨n+m,by rw[List.length_append];omega,fun f i r out hr=>?_⟩
 obtain⟨c,q,rfl,hc⟩:=hu
 obtain⟨o1,a1,a2⟩:=h2 (f+m) i ((c::q)++r) out (fun c' q' e=>by
  simp only[List.cons_append,List.cons.injEq]at e
  rw[← e.1];exact hc)
 obtain⟨o2,b1,b2⟩:=k2 f (i+t.length) r (out++o1) hr
 refine⟨o1++o2,by rw[List.map_append,a1,b1],?_⟩
 rw[List.append_assoc,show f+(n+m)=f+m+n by omega,a2,b2,List.length_append,Nat.add_assoc,List.append_assoc]
theorem Lp.wapp {Q:UInt8→Bool} {t u:List UInt8} {ts us:List Kt} (h:Lw t ts) (k:Lp Q u us):Lp Q (t++u) (ts++us):=by
 obtain⟨n,h1,h2⟩:=h
 obtain⟨m,k1,k2⟩:=k
 refine⟨n+m,by rw[List.length_append];omega,fun f i r out hr=>?_⟩
 obtain⟨o1,a1,a2⟩:=h2 (f+m) i (u++r) out (fun _ _ _=>rfl)
 obtain⟨o2,b1,b2⟩:=k2 f (i+t.length) r (out++o1) hr
 refine⟨o1++o2,by rw[List.map_append,a1,b1],?_⟩
 rw[List.append_assoc,show f+(n+m)=f+m+n by omega,a2,b2,List.length_append,Nat.add_assoc,List.append_assoc]
theorem Lp.nil {P:UInt8→Bool}:Lp P [] []:=⟨0,Nat.le_refl _,fun f i r out _=>⟨[],rfl,by simp⟩⟩
theorem Lp.of {t:List UInt8} {n:Nat} {ts:List Kt} (o:Nat→List Tok) (hn:n≤t.length) (h:∀i,(o i).map kt=ts) (h2:∀(f i:Nat) (r:List UInt8) (out:List Tok),rxG (f+n) i (t++r) out=rxG f (i+t.length) r ((o i).foldl (fun o t=>o++[t]) out)):Lw t ts:=
 ⟨n,hn,fun f i r out _=>⟨o i,h i,by rw[h2,foldl_app]⟩⟩
theorem spanN_app (p:Int→Bool):∀(s r:List UInt8),(∀c∈s,p (c.toNat:Int)=true)→(∀c q,r=c::q→p (c.toNat:Int)=false)→spanN p (s++r)=s.length
 |[],r,_,hr=>by
  cases r with
  |nil=>rfl
  |cons c q=>
   show spanN p (c::q)=0
   simp only[spanN]
   rw[if_neg (by rw[hr c q rfl];decide)]
 |c::s,r,h,hr=>by
  rw[List.cons_append,spanN,if_pos (h c (by simp)),spanN_app p s r (fun c hc=>h c (List.mem_cons_of_mem _ hc)) hr];rfl
theorem let_bl {c:Int} (h:letB c=true):blB c=false∧(c==35)=false:=by
 simp only[letB,Bool.or_eq_true,Bool.and_eq_true,decide_eq_true_eq,beq_iff_eq]at h
 simp only[blB,Bool.or_eq_false_iff,beq_eq_false_iff_ne]
 omega
theorem dig_bl {c:Int} (h:digB c=true):blB c=false∧(c==35)=false∧letB c=false:=by
 simp only[digB,Bool.and_eq_true,decide_eq_true_eq]at h
 simp only[blB,letB,Bool.or_eq_false_iff,beq_eq_false_iff_ne,Bool.and_eq_false_iff,decide_eq_false_iff_not]
 omega
theorem lz_nm {s:List UInt8} (h:lh s) (hs:∀c∈s,idB (c.toNat:Int)=true) (hl:s.length≤32):Lz s [(0,s)]:=by
 obtain⟨c,t,rfl,hc⟩:=h
 refine⟨1,by simp,fun f i r out hr=>⟨[⟨0,c::t,(i:Int)⟩],rfl,?_⟩⟩
 obtain⟨b1,b2⟩:=let_bl hc
 have hsp:=spanN_app idB (c::t) r hs (fun c' q e=>by have:=hr c' q e;simpa [pS] using this)
 rw[List.cons_append]at hsp ⊢
 simp only[rxG]
 rw[if_neg (by rw[b1];decide),if_neg (by rw[b2];decide),if_pos hc,hsp,if_neg (by simp only[decide_eq_true_eq];omega)]
 have e1:(c::(t++r)).drop (c::t).length=r:=by rw[← List.cons_append,List.drop_left]
 have e2:(c::(t++r)).take (c::t).length=c::t:=by rw[← List.cons_append,List.take_left]
 rw[e1,e2]
structure numO (d:List UInt8):Prop where
 dg:∀c∈d,digB (c.toNat:Int)=true
 n:d≠[]
 z:d.length=1∨d.head?≠some 48
 g:(dgF d 0 false).2=false∧(dgF d 0 false).1≤9223372036854775807
theorem dgF_app:∀(d r:List UInt8) (n:Int) (g:Bool),(∀c∈d,digB (c.toNat:Int)=true)→(∀c q,r=c::q→digB (c.toNat:Int)=false)→dgF (d++r) n g=dgF d n g
 |[],r,n,g,_,hr=>by
  cases r with
  |nil=>rfl
  |cons c q=>
   show dgF (c::q) n g=(n,g)
   simp only[dgF]
   rw[if_neg (by rw[hr c q rfl];decide)]
 |c::d,r,n,g,h,hr=>by
  rw[List.cons_append]
  simp only[dgF]
  have ih:=fun n g=>dgF_app d r n g (fun c hc=>h c (List.mem_cons_of_mem _ hc)) hr
  rw[ih,ih]
theorem lz_nu {d:List UInt8} (h:numO d):Lz d [(1,d)]:=by
 obtain⟨hd,hn,hz,hg⟩:=h
 cases d with
 |nil=>exact absurd rfl hn
 |cons c t=>
 have hc:=hd c (by simp)
 refine⟨1,by simp,fun f i r out hr=>⟨[⟨1,c::t,(i:Int)⟩],rfl,?_⟩⟩
 obtain⟨b1,b2,b3⟩:=dig_bl hc
 have hno:∀c' q,r=c'::q→letB (c'.toNat:Int)=false∧digB (c'.toNat:Int)=false:=fun c' q e=>by
  have:=hr c' q e
  simpa [pS,idB] using this
 have hsp:=spanN_app digB (c::t) r hd (fun c' q e=>(hno c' q e).2)
 have hdg:=dgF_app (c::t) r 0 false hd (fun c' q e=>(hno c' q e).2)
 rw[List.cons_append]at hsp hdg ⊢
 have e1:(c::(t++r)).drop (c::t).length=r:=by rw[← List.cons_append,List.drop_left]
 have e2:(c::(t++r)).take (c::t).length=c::t:=by rw[← List.cons_append,List.take_left]
 have hG:greB (c::(t++r))=false:=by
  unfold greB
  rw[hdg,hg.1,Bool.false_or,decide_eq_false_iff_not]
  have:=hg.2;omega
 have hL:(decide (0<r.length)&&letB (((r.getD 0 0).toNat:Nat):Int))=false:=by
  cases r with
  |nil=>rfl
  |cons c' q=>
   have:=(hno c' q rfl).1
   show (_&&letB (c'.toNat:Int))=false
   rw[this,Bool.and_false]
 have hZ:(((c.toNat:Int)==48)&&decide (1<(((c::t).length:Nat):Int)))=false:=by
  rcases hz with hz|hz
  ·have:decide (1<(((c::t).length:Nat):Int))=false:=by rw[decide_eq_false_iff_not,hz];decide
   rw[this,Bool.and_false]
  ·have:((c.toNat:Int)==48)=false:=by
    rw[beq_eq_false_iff_ne]
    intro h0
    apply hz
    have:c=48:=UInt8.toNat_inj.1 (by show c.toNat=48;omega)
    rw[this];rfl
   rw[this,Bool.false_and]
 simp only[rxG]
 rw[if_neg (by rw[b1];decide),if_neg (by rw[b2];decide),if_neg (by rw[b3];decide),if_pos hc,hsp,e1,e2,if_neg (by rw[hG];decide),hL,hZ,if_neg (by decide)]
def twB (l:List UInt8):Bool:=decide (2≤l.length)&&(l.take 2==[61,61]||l.take 2==[33,61]||l.take 2==[60,61]||l.take 2==[62,61]||l.take 2==[38,38]||l.take 2==[124,124])
theorem twB_2 (c d:UInt8) (r:List UInt8):twB (c::d::r)=((c==61&&d==61)||(c==33&&d==61)||(c==60&&d==61)||(c==62&&d==61)||(c==38&&d==38)||(c==124&&d==124)):=by
 have h:decide (2≤(c::d::r).length)=true:=by simp
 unfold twB
 rw[h,Bool.true_and]
 show (([c,d]==[61,61])||([c,d]==[33,61])||([c,d]==[60,61])||([c,d]==[62,61])||([c,d]==[38,38])||([c,d]==[124,124]))=_
 have e:∀x y:UInt8,([c,d]==[x,y])=(c==x&&d==y):=by
  intro x y
  show (c==x&&(d==y&&true))=_
  rw[Bool.and_true]
 rw[e,e,e,e,e,e]
theorem rxG_sg (f i:Nat) (c:UInt8) (r:List UInt8) (out:List Tok) (h1:oneB signs (c.toNat:Int)=true) (h2:(blB (c.toNat:Int)||(c.toNat:Int)==35||letB (c.toNat:Int)||digB (c.toNat:Int))=false) (h3:twB (c::r)=false):rxG (f+1) i (c::r) out=rxG f (i+1) r (out++[⟨2,[c],(i:Int)⟩]):=by
 simp only[Bool.or_eq_false_iff]at h2
 obtain⟨⟨⟨a1,a2⟩,a3⟩,a4⟩:=h2
 simp only[rxG]
 rw[if_neg (by rw[a1];decide),if_neg (by rw[a2];decide),if_neg (by rw[a3];decide),if_neg (by rw[a4];decide)]
 have h3':(decide (2≤(c::r).length)&&((c::r).take 2==[61,61]||(c::r).take 2==[33,61]||(c::r).take 2==[60,61]||(c::r).take 2==[62,61]||(c::r).take 2==[38,38]||(c::r).take 2==[124,124]))=false:=h3
 rw[if_neg (by rw[h3'];decide),if_pos h1]
 rfl
theorem lp_sg (P:UInt8→Bool) (c:UInt8) (h1:oneB signs (c.toNat:Int)=true:=by decide) (h2:(blB (c.toNat:Int)||(c.toNat:Int)==35||letB (c.toNat:Int)||digB (c.toNat:Int))=false:=by decide)
  (h3:∀d,P d=true→((c==61&&d==61)||(c==33&&d==61)||(c==60&&d==61)||(c==62&&d==61)||(c==38&&d==38)||(c==124&&d==124))=false):Lp P [c] [(2,[c])]:=by
 refine⟨1,Nat.le_refl _,fun f i r out hr=>⟨[⟨2,[c],(i:Int)⟩],rfl,?_⟩⟩
 refine rxG_sg f i c r out h1 h2 ?_
 cases r with
 |nil=>unfold twB;rw[show decide (2≤[c].length)=false from rfl,Bool.false_and]
 |cons d q=>rw[twB_2];exact h3 d (hr d q rfl)
theorem lw_sg (c:UInt8) (h1:oneB signs (c.toNat:Int)=true:=by decide) (h2:(blB (c.toNat:Int)||(c.toNat:Int)==35||letB (c.toNat:Int)||digB (c.toNat:Int))=false:=by decide) (h3:(c==61||c==33||c==60||c==62||c==38||c==124)=false:=by decide):Lw [c] [(2,[c])]:=by
 refine lp_sg pT c h1 h2 fun d _=>?_
 simp only[Bool.or_eq_false_iff]at h3
 obtain⟨⟨⟨⟨⟨a1,a2⟩,a3⟩,a4⟩,a5⟩,a6⟩:=h3
 rw[a1,a2,a3,a4,a5,a6];rfl
def pE:UInt8→Bool:=fun c=>!(c==61)
def pA:UInt8→Bool:=fun c=>!(c==38)
theorem lp_eq (c:UInt8) (h1:oneB signs (c.toNat:Int)=true:=by decide) (h2:(blB (c.toNat:Int)||(c.toNat:Int)==35||letB (c.toNat:Int)||digB (c.toNat:Int))=false:=by decide) (h3:(c==38||c==124)=false:=by decide):Lp pE [c] [(2,[c])]:=by
 refine lp_sg pE c h1 h2 fun d hd=>?_
 simp only[Bool.or_eq_false_iff]at h3
 simp only[pE,Bool.not_eq_true']at hd
 rw[hd,h3.1,h3.2];simp
theorem lp_am:Lp pA [38] [(2,[38])]:=by
 refine lp_sg pA 38 (by decide) (by decide) fun d hd=>?_
 simp only[pA,Bool.not_eq_true']at hd
 rw[hd];simp
theorem lw_bl (c:UInt8) (h:blB (c.toNat:Int)=true:=by decide):Lw [c] []:=by
 refine⟨1,Nat.le_refl _,fun f i r out _=>⟨[],rfl,?_⟩⟩
 show rxG (f+1) i (c::r) out=_
 simp only[rxG]
 rw[if_pos h,List.append_nil];rfl
theorem lw_s2 (c d:UInt8) (h:((c==61&&d==61)||(c==33&&d==61)||(c==60&&d==61)||(c==62&&d==61)||(c==38&&d==38)||(c==124&&d==124))=true:=by decide) (h2:(blB (c.toNat:Int)||(c.toNat:Int)==35||letB (c.toNat:Int)||digB (c.toNat:Int))=false:=by decide):Lw [c,d] [(2,[c,d])]:=by
 refine⟨1,by simp,fun f i r out _=>⟨[⟨2,[c,d],(i:Int)⟩],rfl,?_⟩⟩
 simp only[Bool.or_eq_false_iff]at h2
 obtain⟨⟨⟨a1,a2⟩,a3⟩,a4⟩:=h2
 show rxG (f+1) i (c::d::r) out=_
 simp only[rxG]
 rw[if_neg (by rw[a1];decide),if_neg (by rw[a2];decide),if_neg (by rw[a3];decide),if_neg (by rw[a4];decide)]
 have h3:=twB_2 c d r
 rw[h]at h3
 have h3':(decide (2≤(c::d::r).length)&&((c::d::r).take 2==[61,61]||(c::d::r).take 2==[33,61]||(c::d::r).take 2==[60,61]||(c::d::r).take 2==[62,61]||(c::d::r).take 2==[38,38]||(c::d::r).take 2==[124,124]))=true:=h3
 rw[if_pos h3'];rfl
theorem rx_all {t:List UInt8} {ts:List Kt} (h:Lw t ts) (hl:t.length≤4096):∃T,rxT t=(T,0,0)∧T.map kt=ts:=by
 obtain⟨n,h1,h2⟩:=h
 have hr:rxT t=rxG t.length 0 t []:=by
  unfold rxT
  rw[if_neg (by simp;omega),rxF_G _ _ _ _ (Nat.zero_le _)];rfl
 obtain⟨o,a1,a2⟩:=h2 (t.length-n) 0 [] [] (fun _ _ e=>by cases e)
 rw[List.append_nil,show t.length-n+n=t.length by omega]at a2
 refine⟨o,?_,a1⟩
 rw[hr,a2]
 cases t.length-n<;>rfl
end Go.Proofs.YtlaggppdgoknjaaGreatDoor
