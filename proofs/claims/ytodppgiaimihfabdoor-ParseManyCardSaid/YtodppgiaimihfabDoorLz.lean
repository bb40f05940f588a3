/- Tokens of texts that are put together, with what may follow. No conditions but those in each statement. -/
import Derived.Test.YtodppgiaimihfabDoorCx1
set_option linter.unusedVariables false
set_option linter.unusedSimpArgs false
namespace Go.Proofs.YtodppgiaimihfabDoor
open Go Go.Sy Go.RowKit
def Lp (P:UInt8→Bool) (t:List UInt8) (ts:List Kt):Prop:=
 ∃n,n≤t.length∧∀(f i:Nat) (r:List UInt8) (out:List Tok),(∀c q,r=c::q→P c=true)→∃o2,o2.map kt=ts∧rxG (f+n) i (t++r) out=rxG f (i+t.length) r (out++o2)
def pT:UInt8→Bool:=fun _=>true
abbrev Lw:=Lp pT
theorem Lp.w {P:UInt8→Bool} {t:List UInt8} {ts:List Kt} (h:Lw t ts):Lp P t ts:=by
 obtain⟨n,h1,h2⟩:=h
 exact⟨n,h1,fun f i r out _=>h2 f i r out (fun _ _ _=>rfl)⟩
theorem Lp.app {P Q:UInt8→Bool} {t u:List UInt8} {ts us:List Kt} (h:Lp P t ts) (k:Lp Q u us) (hu:∃c q,u=c::q∧P c=true):Lp Q (t++u) (ts++us):=by
 obtain⟨n,h1,h2⟩:=h
 obtain⟨m,k1,k2⟩:=k
 refine⟨n+m,by rw[List.length_append];omega,fun f i r out hr=>?_⟩
 obtain⟨c,q,rfl,hc⟩:=hu
 obtain⟨o1,a1,a2⟩:=h2 (f+m) i ((c::q)++r) out (fun c' q' e=>by
  simp only[List.cons_append,List.cons.injEq]at e
  rw[← e.1];exact hc)
 obtain⟨o2,b1,b2⟩:=k2 f (i+t.length) r (out++o1) hr
 refine⟨o1++o2,by rw[List.map_append,a1,b1],?_⟩
 rw[List.append_assoc,show f+(n+m)=f+m+n by omega,a2,b2,List.length_append,Nat.add_assoc,List.append_assoc]
theorem Lp.nil {P:UInt8→Bool}:Lp P [] []:=⟨0,Nat.le_refl _,fun f i r out _=>⟨[],rfl,by simp⟩⟩
theorem Lp.of {t:List UInt8} {n:Nat} {ts:List Kt} (o:Nat→List Tok) (hn:n≤t.length) (h:∀i,(o i).map kt=ts) (h2:∀(f i:Nat) (r:List UInt8) (out:List Tok),rxG (f+n) i (t++r) out=rxG f (i+t.length) r ((o i).foldl (fun o t=>o++[t]) out)):Lw t ts:=
 ⟨n,hn,fun f i r out _=>⟨o i,h i,by rw[h2,foldl_app]⟩⟩
structure numO (d:List UInt8):Prop where
 dg:∀c∈d,digB (c.toNat:Int)=true
 n:d≠[]
 z:d.length=1∨d.head?≠some 48
 g:(dgF d 0 false).2=false∧(dgF d 0 false).1≤9223372036854775807
def twB (l:List UInt8):Bool:=decide (2≤l.length)&&(l.take 2==[61,61]||l.take 2==[33,61]||l.take 2==[60,61]||l.take 2==[62,61]||l.take 2==[38,38]||l.take 2==[124,124])
theorem twB_2 (c d:UInt8) (r:List UInt8):twB (c::d::r)=((c==61&&d==61)||(c==33&&d==61)||(c==60&&d==61)||(c==62&&d==61)||(c==38&&d==38)||(c==124&&d==124)):=by
 have h:decide (2≤(c::d::r).length)=true:=by simp
 unfold twB
 rw[h,Bool.true_and]
 show (([c,d]==[61,61])||([c,d]==[33,61])||([c,d]==[60,61])||([c,d]==[62,61])||([c,d]==[38,38])||([c,d]==[124,124]))=_
 have e:∀x y:UInt8,([c,d]==[x,y])=(c==x&&d==y):=by
  intro x y
  show (c==x&&(d==y&&true))=_
  rw[Bool.and_true]
 rw[e,e,e,e,e,e]
theorem rxG_sg (f i:Nat) (c:UInt8) (r:List UInt8) (out:List Tok) (h1:oneB signs (c.toNat:Int)=true) (h2:(blB (c.toNat:Int)||(c.toNat:Int)==35||letB (c.toNat:Int)||digB (c.toNat:Int))=false) (h3:twB (c::r)=false):rxG (f+1) i (c::r) out=rxG f (i+1) r (out++[⟨2,[c],(i:Int)⟩]):=by
 simp only[Bool.or_eq_false_iff]at h2
 obtain⟨⟨⟨a1,a2⟩,a3⟩,a4⟩:=h2
 simp only[rxG]
 rw[if_neg (by rw[a1];decide),if_neg (by rw[a2];decide),if_neg (by rw[a3];decide),if_neg (by rw[a4];decide)]
 have h3':(decide (2≤(c::r).length)&&((c::r).take 2==[61,61]||(c::r).take 2==[33,61]||(c::r).take 2==[60,61]||(c::r).take 2==[62,61]||(c::r).take 2==[38,38]||(c::r).take 2==[124,124]))=false:=h3
 rw[if_neg (by rw[h3'];decide),if_pos h1]
 rfl
end Go.Proofs.YtodppgiaimihfabDoor
