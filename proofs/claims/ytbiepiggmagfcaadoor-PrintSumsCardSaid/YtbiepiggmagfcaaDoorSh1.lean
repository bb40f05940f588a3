/- Tokens of a text that is put together. No conditions but those in each statement. -/
import Derived.Test.YtbiepiggmagfcaaDoorPa0
set_option linter.unusedVariables false
set_option linter.unusedSimpArgs false
namespace Go.Proofs.YtbiepiggmagfcaaDoor
open Go Go.Sy Go.RowKit
def rxG:Nat→Nat→List UInt8→List Tok→List Tok×Int×Int
 |0,_,_,out=>(out,0,0)
 |_+1,_,[],out=>(out,0,0)
 |f+1,i,c::r,out=>
  if blB (c.toNat:Int)=true then rxG f (i+1) r out
  else if ((c.toNat:Int)==35)=true then rxG f (i+spanN nlB (c::r)) ((c::r).drop (spanN nlB (c::r))) out
  else if letB (c.toNat:Int)=true then (if decide (32<((spanN idB (c::r):Nat):Int))=true then ([],(i:Int),53) else rxG f (i+spanN idB (c::r)) ((c::r).drop (spanN idB (c::r))) (out++[⟨0,(c::r).take (spanN idB (c::r)),(i:Int)⟩]))
  else if digB (c.toNat:Int)=true then
   (if greB (c::r)=true then ([],(i:Int),53)
    else if (decide (0<((c::r).drop (spanN digB (c::r))).length)&&letB ((((c::r).drop (spanN digB (c::r))).getD 0 0).toNat:Int)||((c.toNat:Int)==48&&decide (1<((spanN digB (c::r):Nat):Int))))=true then ([],(i:Int),50)
    else rxG f (i+spanN digB (c::r)) ((c::r).drop (spanN digB (c::r))) (out++[⟨1,(c::r).take (spanN digB (c::r)),(i:Int)⟩]))
  else if (decide (2≤(c::r).length)&&((c::r).take 2==[61,61]||(c::r).take 2==[33,61]||(c::r).take 2==[60,61]||(c::r).take 2==[62,61]||(c::r).take 2==[38,38]||(c::r).take 2==[124,124]))=true then rxG f (i+2) ((c::r).drop 2) (out++[⟨2,(c::r).take 2,(i:Int)⟩])
  else if oneB signs (c.toNat:Int)=true then rxG f (i+1) r (out++[⟨2,(c::r).take 1,(i:Int)⟩])
  else ([],(i:Int),50)
theorem getD_drop (s:List UInt8) (i k:Nat):(s.drop i).getD k 0=s.getD (i+k) 0:=by simp[List.getD,List.getElem?_drop]
theorem rxF_G (s:List UInt8):∀(f i:Nat) (out:List Tok),i≤s.length→rxF s f i out=rxG f i (s.drop i) out
 |0,i,out,_=>by cases s.drop i<;>rfl
 |f+1,i,out,hi=>by
  by_cases hlt:i<s.length
  ·have hd:s.drop i=s.getD i 0::s.drop (i+1):=by
    rw[List.drop_eq_getElem_cons hlt];simp[List.getD,hlt]
   have hlen:(s.drop i).length=s.length-i:=by simp
   have dd:∀k,(s.drop i).drop k=s.drop (i+k):=fun k=>by rw[List.drop_drop]
   have sp:=fun p=>spanN_le p (s.drop i)
   rw[hlen]at sp
   simp only[rxF]
   rw[if_neg (Nat.not_le.2 hlt)]
   have hG:rxG (f+1) i (s.drop i) out=rxG (f+1) i (s.getD i 0::s.drop (i+1)) out:=by rw[hd]
   rw[hG]
   simp only[rxG,← hd,dd]
   have hc:chI s i=((s.getD i 0).toNat:Int):=rfl
   rw[hc]
   have r1:∀out,rxF s f (i+1) out=rxG f (i+1) (s.drop (i+1)) out:=fun out=>rxF_G s f _ out hlt
   have rS:∀p out,rxF s f (i+spanN p (s.drop i)) out=rxG f (i+spanN p (s.drop i)) (s.drop (i+spanN p (s.drop i))) out:=fun p out=>rxF_G s f _ out (by have:=sp p;omega)
   have e1:decide (((i+spanN digB (s.drop i):Nat):Int)<(s.length:Int))=decide (0<(s.drop (i+spanN digB (s.drop i))).length):=by
    rw[decide_eq_decide,List.length_drop];omega
   have e2:chI s (i+spanN digB (s.drop i))=(((s.drop (i+spanN digB (s.drop i))).getD 0 0).toNat:Int):=by
    rw[getD_drop];rfl
   have e3:twoB s i=(decide (2≤(s.drop i).length)&&((s.drop i).take 2==[61,61]||(s.drop i).take 2==[33,61]||(s.drop i).take 2==[60,61]||(s.drop i).take 2==[62,61]||(s.drop i).take 2==[38,38]||(s.drop i).take 2==[124,124])):=by
    unfold twoB
    rw[show decide (((i+2:Nat):Int)≤(s.length:Int))=decide (2≤(s.drop i).length) by rw[decide_eq_decide,hlen];omega]
   rw[e1,e2,e3]
   split
   ·exact r1 _
   split
   ·exact rS _ _
   split
   ·split
    ·rfl
    ·exact rS _ _
   split
   ·split
    ·rfl
    split
    ·rfl
    ·exact rS _ _
   split
   ·rename_i h
    have h2:i+2≤s.length:=by
     simp only[Bool.and_eq_true,decide_eq_true_eq,hlen]at h;omega
    exact rxF_G s f _ _ h2
   split
   ·exact r1 _
   ·rfl
  ·have he:i=s.length:=by omega
   subst he
   simp only[rxF]
   rw[if_pos (Nat.le_refl _),List.drop_length]
   rfl
def kt (t:Tok):Int×List UInt8:=(t.k,t.t)
def Lx (p:List UInt8) (n:Nat) (ts:List (Int×List UInt8)):Prop:=
 ∀(f i:Nat) (r:List UInt8) (out:List Tok),∃o2,o2.map kt=ts∧rxG (f+n) i (p++r) out=rxG f (i+p.length) r (out++o2)
theorem Lx.app {p q:List UInt8} {n m:Nat} {ts us:List (Int×List UInt8)} (h:Lx p n ts) (k:Lx q m us):Lx (p++q) (n+m) (ts++us):=by
 intro f i r out
 obtain⟨o1,a1,a2⟩:=h (f+m) i (q++r) out
 obtain⟨o2,b1,b2⟩:=k f (i+p.length) r (out++o1)
 refine⟨o1++o2,by rw[List.map_append,a1,b1],?_⟩
 rw[List.append_assoc,show f+(n+m)=f+m+n by omega,a2,b2,List.length_append,Nat.add_assoc,List.append_assoc]
theorem Lx.nil:Lx [] 0 []:=fun f i r out=>⟨[],rfl,by simp⟩
theorem foldl_app (o2 out:List Tok):o2.foldl (fun o t=>o++[t]) out=out++o2:=by
 induction o2 generalizing out with
 |nil=>simp
 |cons a l ih=>rw[List.foldl_cons,ih,List.append_assoc];rfl
end Go.Proofs.YtbiepiggmagfcaaDoor
