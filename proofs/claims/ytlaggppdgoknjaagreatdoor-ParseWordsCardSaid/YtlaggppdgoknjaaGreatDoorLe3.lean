/- The program's lexer. No conditions but those in each statement. -/
import Derived.Test.YtlaggppdgoknjaaGreatDoorLe2
set_option linter.unusedVariables false
set_option linter.unusedSimpArgs false
namespace Go.Proofs.YtlaggppdgoknjaaGreatDoor
open Go Go.Sy Go.RowKit
theorem ixB_lt (c:UInt8):∀l:List UInt8,Lib.indexByte l c<l.length∨(l=[]∧Lib.indexByte l c = -1)
 |[]=>.inr ⟨rfl,rfl⟩
 |b::l=>by
  left
  simp only[Lib.indexByte,List.length_cons]
  split
  ·omega
  ·split
   ·omega
   ·rcases ixB_lt c l with h|⟨h1,h2⟩
    ·omega
    ·rw[h2];omega
theorem blk_le {l:List UInt8} (h:0<l.length):0≤blkI l∧blkI l≤l.length:=by
 unfold blkI
 have:=ixB_lt (Nat.toUInt8 10) l
 (repeat' split)<;>simp_all<;>omega
theorem numL_le {l:List UInt8} (h:0<l.length):0≤numL l∧numL l≤l.length:=by
 have:=numN_le h
 unfold numL
 split<;>omega
theorem opI_le {l:List UInt8} (h:0<l.length):0≤opI l∧opI l≤l.length:=by
 unfold opI
 split
 ·rename_i h1
  simp only[Bool.and_eq_true,decide_eq_true_eq]at h1
  omega
 ·split<;>omega
theorem tkL_le {l:List UInt8} (h:0<l.length):0≤tkL l∧tkL l≤l.length:=by
 have h1:=idN_le h
 have h2:=numL_le h
 have h3:=opI_le h
 unfold tkL
 (repeat' split)<;>omega
def lxF (s:List UInt8):Nat→Nat→Nat→List Tok→List Tok×Int×Int
 |0,_,_,out=>(out,0,0)
 |n+1,i,nx,out=>
  if i<nx then lxF s n (i+1) nx out
  else if decide (0<blkI (s.drop i))=true then lxF s n (i+1) (i+(blkI (s.drop i)).toNat) out
  else if (!(tkE (s.drop i)==0))=true then ([],(i:Int),tkE (s.drop i))
  else lxF s n (i+1) (i+(tkL (s.drop i)).toNat) (out++[⟨tkK (s.drop i),(s.drop i).take (tkL (s.drop i)).toNat,(i:Int)⟩])
def lxT (s:List UInt8):List Tok×Int×Int:=if decide (4096<(s.length:Int))=true then ([],0,53) else lxF s s.length 0 0 []
abbrev yc_Tokens (s:List UInt8):Prop:=smallB s
abbrev yr_Tokens (s:List UInt8):SV:=toksV (lxT s)
theorem y_Tokens:CallsY Tryz.prog 44 (acS (cStr) ac0) (fun p:(List UInt8×Unit)=>yc_Tokens p.1) (fun p:(List UInt8×Unit)=>yr_Tokens p.1):=by
 rintro ⟨s,_u⟩ w fz xs hc hfz hl hx
 refine calls_toL Tryz.func44 rfl w fz [yp_blank,yp_token] [] (acS (cStr) ac0) (fun p:(List UInt8×Unit)=>yr_Tokens p.1) _ xs hfz hl hx (Nat.le_of_ble_eq_true rfl) ?_
 clear hx hl hfz xs
 simp only[Tryz.f44]
 simp only[↓eB,seval,go_sem,yp_blank,yp_token,yr_blank,yr_token,yc_blank,yc_token]
 simp only[impB,impN]
 refine⟨fun h=>?_,fun h=>?_⟩
 ·have hR:lxT s=([],0,53):=by unfold lxT;rw[if_pos h]
  refine ret_with [.nil 2 1000 zTok,.fz 1000] ?_;simp only[↓eB,seval,go_sem,bne,yr_Tokens,hR,toksV,zTok,zTokD]
 ·have hR:lxT s=lxF s s.length 0 0 []:=by unfold lxT;rw[if_neg (by rw[h];decide)]
  have hs:s.length≤4096:=by simp at h;omega
  refine loop_ok (Y:=Nat×Nat×List Tok) (fun y=>y.1≤s.length∧y.2.1≤s.length∧y.2.2.length≤y.1∧lxF s (s.length-y.1) y.1 y.2.1 y.2.2=lxT s)
   (fun y=>⟨[(0,true,.one (.v (.string (bs s)))),(5,true,.one (.s 1000)),(6,true,.one (.v (.int .i64 (y.2.1:Int)))),(16,true,.one (.v (.int .i64 (s.length:Int)))),(17,true,.one (.v (.int .i64 (y.1:Int))))],
    [(1000,.vec 0 zTok (y.2.2.map cTok))]⟩)
   (fun y=>s.length-y.1) (0,0,[]) ⟨Nat.zero_le _,Nat.zero_le _,Nat.le_refl _,hR.symm⟩ ?_ ?_
  ·refine to_with [.nil 5 1000 zTok] ?_;simp only[↓eB,seval,go_sem,zTok]
  ·rintro ⟨i,nx,out⟩ ⟨hi,hx,ho,hJ⟩
   simp only at hi hx ho hJ
   refine vc_ok [yp_blank,yp_token] [] _ _ _ ?_
   by_cases hlt:i<s.length
   ·have h1:=natI_lt hlt
    have h2:=natI_lep hi
    have h3:=natI_succ hi (n:=s.length) (by omega)
    have e0:s.length-i=(s.length-(i+1))+1:=by omega
    rw[e0]at hJ
    have hd:0<(s.drop i).length:=by simp;omega
    obtain⟨b1,b2⟩:=blk_le hd
    obtain⟨t1,t2⟩:=tkL_le hd
    have hsd:smallB (s.drop i):=by show (s.drop i).length≤_;simp;omega
    simp only[List.length_drop]at b2 t2
    simp only[lxF]at hJ
    simp only[↓eB,seval,go_sem,h1,h2,h3,yp_blank,yp_token,yr_blank,yr_token,yc_blank,yc_token]
    simp only[impB,impN]
    refine⟨fun hn=>?_,fun hn=>?_⟩
    ·rw[if_pos (by simpa using hn)]at hJ
     refine⟨(i+1,nx,out),⟨hlt,hx,by dsimp only;omega,hJ⟩,by show s.length-(i+1)<s.length-i;omega,?_⟩
     refine to_with [] ?_;simp only[↓eB,seval,go_sem,flN_tok]
    ·rw[if_neg (by simpa using hn)]at hJ
     refine⟨Int.le_refl _,hd,fun hb=>?_,fun hb=>⟨Int.le_refl _,⟨hd,hsd⟩,fun he=>?_,fun he=>?_⟩⟩
     ·rw[if_pos hb]at hJ
      obtain⟨k,hk⟩:∃k:Nat,blkI (s.drop i)=(k:Int):=⟨_,(Int.toNat_of_nonneg b1).symm⟩
      rw[hk]at b2 hJ ⊢
      rw[Int.toNat_natCast]at hJ
      have h5:=natI_add (i:=i) (k:=k) (n:=s.length) (by omega) (by omega)
      refine⟨(i+1,i+k,out),⟨hlt,by dsimp only;omega,by dsimp only;omega,hJ⟩,by show s.length-(i+1)<s.length-i;omega,?_⟩
      refine to_with [] ?_;simp only[↓eB,seval,go_sem,flN_tok,h5]
     ·rw[if_neg (by rw[hb];decide),if_pos (by simpa using he)]at hJ
      refine ret_with [.nil 2 1001 zTok,.fz 1001] ?_;simp only[↓eB,seval,go_sem,bne,yr_Tokens,← hJ,toksV,zTok,zTokD]
     ·rw[if_neg (by rw[hb];decide),if_neg (by simpa using he)]at hJ
      obtain⟨k,hk⟩:∃k:Nat,tkL (s.drop i)=(k:Int):=⟨_,(Int.toNat_of_nonneg t1).symm⟩
      rw[hk]at t2 hJ ⊢
      rw[Int.toNat_natCast]at hJ
      have h5:=natI_add (i:=i) (k:=k) (n:=s.length) (by omega) (by omega)
      have h6:(s.drop i).take ((i+k)-i)=(s.drop i).take k:=by congr 1;omega
      simp only[h5,Int.toNat_natCast,h6]
      refine⟨⟨by omega,by omega⟩,⟨rfl,fun q hq=>(Option.some.inj hq).symm,by simp[rowsStor,C.stor],by decide,by omega,by omega⟩,(i+1,i+k,out++[⟨tkK (s.drop i),(s.drop i).take k,(i:Int)⟩]),⟨hlt,by dsimp only;omega,by simp;omega,hJ⟩,by show s.length-(i+1)<s.length-i;omega,
       to_trans (t:=⟨[(0,true,.one (.v (.string (bs s)))),(5,true,.one (.s 55)),(6,true,.one (.v (.int .i64 ((i+k:Nat):Int)))),(16,true,.one (.v (.int .i64 (s.length:Int)))),(17,true,.one (.v (.int .i64 ((i+1:Nat):Int))))],[(55,.vec 0 zTok ((out++[(⟨tkK (s.drop i),(s.drop i).take k,(i:Int)⟩:Tok)]).map cTok))]⟩) ?_ ?_⟩
      ·refine to_with [] ?_;simp only[↓eB,seval,go_sem,flN_tok,List.map_append,List.flatMap_append,cTok]
      ·refine to_with [.mv 55 1000] ?_;simp only[↓eB,seval,go_sem,flN_tok,mvC_tok]
   ·have hi':i=s.length:=by omega
    subst hi'
    have h1:=natI_ge (Nat.le_refl s.length)
    rw[Nat.sub_self]at hJ
    simp only[lxF]at hJ
    simp only[↓eB,seval,go_sem,h1]
    refine ret_with [.fz 1000] ?_;simp only[↓eB,seval,go_sem,bne,yr_Tokens,← hJ,toksV,zTok,zTokD,toDss_tok]
end Go.Proofs.YtlaggppdgoknjaaGreatDoor
