/- The lexer of the reference, in plain words. No conditions but those in each statement. -/
import Derived.Test.YtlaggppdgoknjaaGreatDoorGs
set_option linter.unusedVariables false
set_option linter.unusedSimpArgs false
namespace Go.Proofs.YtlaggppdgoknjaaGreatDoor
open Go Go.Sy Go.RowKit
abbrev smallB (l:List UInt8):Prop:=l.length≤4294967296
def letB (b:Int):Bool:=decide (97≤b)&&decide (b≤122)||(decide (65≤b)&&decide (b≤90))||b==95
def digB (b:Int):Bool:=decide (48≤b)&&decide (b≤57)
abbrev chI (l:List UInt8) (i:Nat):Int:=((l.getD i 0).toNat:Int)
def idB (b:Int):Bool:=letB b||digB b
def cTok (x:Tok):List C:=[.v (.int .i64 x.k),.v (.string (bs x.t)),.v (.int .i64 x.p)]
def dTok (x:Tok):List D:=[.v (.int .i64 x.k),.v (.string (bs x.t)),.v (.int .i64 x.p)]
def zTok:List C:=[.v (.int .i64 0),.v (.string ByteArray.empty),.v (.int .i64 0)]
theorem zTok_t:zT zTok=none:=rfl
attribute [go_sem] zTok_t
def zTokD:List D:=[.v (.int .i64 0),.v (.string ByteArray.empty),.v (.int .i64 0)]
theorem chN_tok (u:Nat) (z:List C) (l:List Tok):chNames (.vec u z (l.map cTok))=[]:=chN_of cTok (by intro a c hc;simp only[cTok,List.mem_cons,List.not_mem_nil,or_false]at hc;rcases hc with rfl|rfl|rfl<;>rfl) u z l
theorem flN_tok (l:List Tok):List.flatMap (fun r=>List.flatMap C.names r) (l.map cTok)=[]:=chN_tok 0 [] l
theorem toDss_tok (l:List Tok):toDss (l.map cTok)=some (l.map dTok):=toDss_of cTok (fun _=>rfl) l
theorem mvC_tok (k t:Nat) (l:List Tok):(l.map cTok).map (fun r=>r.map (mvC k t))=l.map cTok:=map_of cTok (fun _=>rfl) l
def toksV (r:List Tok×Int×Int):SV:=.tup [.inl (.d (.sl zTokD (r.1.map dTok))),.inl (.v (.int .i64 r.2.1)),.inl (.v (.int .i64 r.2.2))]
def oneB (l:List UInt8) (c:Int):Bool:=l.any fun b=>((b.toNat:Nat):Int)==c
theorem oneB_at {l:List UInt8} {i:Nat} (h:i<l.length) (c:Int):oneB (l.drop i) c=(((l.getD i 0).toNat:Int)==c||oneB (l.drop (i+1)) c):=by
 rw[List.drop_eq_getElem_cons h]
 simp only[oneB,List.any_cons,List.getD,List.getElem?_eq_getElem h,Option.getD_some]
def blB (c:Int):Bool:=c==32||c==9||c==13||c==10
def nlB (c:Int):Bool:=!(c==10)
def dgF:List UInt8→Int→Bool→Int×Bool
 |[],n,g=>(n,g)
 |b::r,n,g=>if digB (b.toNat:Int)=true then (if decide (922337203685477580<n)=true then dgF r n true else dgF r (IntKind.u64.wrap (IntKind.u64.wrap (10*n)+IntKind.u64.wrap (IntKind.u8.wrap ((b.toNat:Int)-48)))) g) else (n,g)
theorem dgF_at {l:List UInt8} {i:Nat} (h:i<l.length) (n:Int) (g:Bool):dgF (l.drop i) n g=if digB (chI l i)=true then (if decide (922337203685477580<n)=true then dgF (l.drop (i+1)) n true else dgF (l.drop (i+1)) (IntKind.u64.wrap (IntKind.u64.wrap (10*n)+IntKind.u64.wrap (IntKind.u8.wrap (chI l i-48)))) g) else (n,g):=by
 rw[List.drop_eq_getElem_cons h]
 simp only[dgF,chI,List.getD,List.getElem?_eq_getElem h,Option.getD_some]
theorem dgF_nil {l:List UInt8} {i:Nat} (h:l.length≤i) (n:Int) (g:Bool):dgF (l.drop i) n g=(n,g):=by
 rw[List.drop_eq_nil_of_le h];rfl
def greB (l:List UInt8):Bool:=(dgF l 0 false).2||decide (9223372036854775807<(dgF l 0 false).1)
def twoB (s:List UInt8) (i:Nat):Bool:=decide (((i+2:Nat):Int)≤(s.length:Int))&&((s.drop i).take 2==[61,61]||(s.drop i).take 2==[33,61]||(s.drop i).take 2==[60,61]||(s.drop i).take 2==[62,61]||(s.drop i).take 2==[38,38]||(s.drop i).take 2==[124,124])
abbrev signs:List UInt8:=[61,60,62,43,45,42,47,37,38,33,40,41,123,125,91,93,44,59]
def rxF (s:List UInt8):Nat→Nat→List Tok→List Tok×Int×Int
 |0,_,out=>(out,0,0)
 |f+1,i,out=>
  if s.length≤i then (out,0,0)
  else if blB (chI s i)=true then rxF s f (i+1) out
  else if (chI s i==35)=true then rxF s f (i+spanN nlB (s.drop i)) out
  else if letB (chI s i)=true then (if decide (32<((spanN idB (s.drop i):Nat):Int))=true then ([],(i:Int),53) else rxF s f (i+spanN idB (s.drop i)) (out++[⟨0,(s.drop i).take (spanN idB (s.drop i)),(i:Int)⟩]))
  else if digB (chI s i)=true then
   (
    if greB (s.drop i)=true then ([],(i:Int),53)
    else if (decide (((i+spanN digB (s.drop i):Nat):Int)<(s.length:Int))&&letB (chI s (i+spanN digB (s.drop i)))||(chI s i==48&&decide (1<((spanN digB (s.drop i):Nat):Int))))=true then ([],(i:Int),50)
    else rxF s f (i+spanN digB (s.drop i)) (out++[⟨1,(s.drop i).take (spanN digB (s.drop i)),(i:Int)⟩]))
  else if twoB s i=true then rxF s f (i+2) (out++[⟨2,(s.drop i).take 2,(i:Int)⟩])
  else if oneB signs (chI s i)=true then rxF s f (i+1) (out++[⟨2,(s.drop i).take 1,(i:Int)⟩])
  else ([],(i:Int),50)
def rxT (s:List UInt8):List Tok×Int×Int:=if decide (4096<(s.length:Int))=true then ([],0,53) else rxF s s.length 0 []
abbrev rxI (s:List UInt8) (i:Nat) (out:List Tok):St:=⟨[(0,true,.one (.v (.string (bs s)))),(5,true,.one (.s 1000)),(6,true,.one (.v (.int .i64 (i:Int))))],[(1000,.vec 0 zTok (out.map cTok))]⟩
abbrev rxJ (s:List UInt8) (i:Nat) (out:List Tok):Prop:=i≤s.length∧out.length≤i∧∃f,s.length-i≤f∧rxF s f i out=rxT s
theorem not_t {b:Bool} (h:(!b)=true):b=false:=by cases b<;>simp_all
theorem not_f {b:Bool} (h:(!b)=false):b=true:=by cases b<;>simp_all
theorem and_l {a b:Bool} (h:(a&&b)=true):a=true:=by cases a<;>simp_all
end Go.Proofs.YtlaggppdgoknjaaGreatDoor
