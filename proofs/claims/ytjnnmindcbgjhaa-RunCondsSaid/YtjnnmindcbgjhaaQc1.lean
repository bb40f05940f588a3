/- RunConds: the texts, their trees and what they come to, plain. No conditions but those in each statement. -/
import Derived.Test.YtjnnmindcbgjhaaRmn
set_option linter.unusedVariables false
set_option linter.unusedSimpArgs false
namespace Go.Proofs.Ytjnnmindcbgjhaa
open Go Go.Sy Go.RowKit
def cPi (C:Cd):Pg:=⟨⟨[],[]⟩,[⟨[102],[⟨[120],false⟩,⟨[121],false⟩],[⟨[113],true⟩],[(.mk 10 [] [] .nil .nil C [] [(.mk 9 [] [] (.mk 0 1 [] .nil .nil) .nil .nil [] [] [] 1)] [] 0),(.mk 9 [] [] (.mk 0 2 [] .nil .nil) .nil .nil [] [] [] 2)]⟩]⟩
def cMi:Ms:=⟨4,1,[],[],2,0,[],0,0⟩
def cVi (a b:Int):Vs:=[([113],⟨true,0,[]⟩),([120],⟨false,a,[]⟩),([121],⟨false,b,[]⟩)]
def cQi (C:Cd) (a b:Int):Fa:=⟨[102],0,cPi C,cMi,cVi a b⟩
def cSi (C:Cd):Sm:=.mk 10 [] [] .nil .nil C [] [(.mk 9 [] [] (.mk 0 1 [] .nil .nil) .nil .nil [] [] [] 1)] [] 0
def cRi:Sm:=(.mk 9 [] [] (.mk 0 2 [] .nil .nil) .nil .nil [] [] [] 2)
def cGi (q1:Ro):Ro:=if q1.b=true∨q1.t=true then q1 else blF (stF 10) [cRi] q1.q
def cKi (r:Ro):Ms:=rnZ (if r.b=true then (true,0,r.q.m) else (false,r.q.ret,{ r.q.m with deep:=w64i (r.q.m.deep-1) }))
theorem ci_1 (C:Cd) (a b:Int):clF 10 (cPi C) [102] [⟨false,a,[]⟩,⟨false,b,[]⟩] ⟨[],[]⟩ 5=cKi (cGi (stF 10 (cSi C) { cQi C a b with m:={ cMi with fuel:=5 } })):=by kernel_rfl
theorem ci_2 (C:Cd) (a b:Int):stF 10 (cSi C) { cQi C a b with m:={ cMi with fuel:=5 } }=match cdF (cPi C) cMi (cVi a b) C with
  | .no j=>(cQi C a b).brk (cSi C) j
  | .ok true=>blF (stF 9) (cSi C).th (cQi C a b)
  | .ok false=>blF (stF 9) (cSi C).el (cQi C a b):=by kernel_rfl
def cOut:Ev Bool→Ms
 | .no j=>⟨4,1,[],[],1,0,[102],0,j⟩
 | .ok true=>⟨3,0,[],[],0,1,[],0,0⟩
 | .ok false=>⟨3,0,[],[],0,2,[],0,0⟩
theorem ci_3 (C:Cd) (a b:Int) (e:Ev Bool) (h:cdF (cPi C) cMi (cVi a b) C=e):clF 10 (cPi C) [102] [⟨false,a,[]⟩,⟨false,b,[]⟩] ⟨[],[]⟩ 5=cOut e:=by
 rw[ci_1,ci_2,h]
 cases e with
 |no j=>kernel_rfl
 |ok x=>cases x with
  |true=>kernel_rfl
  |false=>kernel_rfl
theorem cd_an (P:Pg) (m:Ms) (vs:Vs) (a b:Ex) (p q:Cd) (s:List UInt8) (x:Bool) (h:cdF P m vs p= .ok x):cdF P m vs (.mk 6 a b p q s)=if x=true then cdF P m vs q else .ok false:=by
 cases x<;>simp only[cdF,h]<;>rfl
theorem cd_or (P:Pg) (m:Ms) (vs:Vs) (a b:Ex) (p q:Cd) (s:List UInt8) (x:Bool) (h:cdF P m vs p= .ok x):cdF P m vs (.mk 7 a b p q s)=if x=true then .ok true else cdF P m vs q:=by
 cases x<;>simp only[cdF,h]<;>rfl
theorem cd_not (P:Pg) (m:Ms) (vs:Vs) (a b:Ex) (p q:Cd) (s:List UInt8) (x:Bool) (h:cdF P m vs p= .ok x):cdF P m vs (.mk 8 a b p q s)= .ok (!x):=by
 simp only[cdF,h];rfl
theorem cPi_r (C:Cd) (h:okPb 50 8 (cPi C)=true) (va:List Va) (f:Int) (hv:va.length≤5000) (hf:f<10):okR 50 10 (cPi C) va ⟨[],[]⟩ f:=⟨okPb_ok h,Nat.zero_le _,Nat.zero_le _,(by intro x hx;cases hx),Nat.zero_le _,Nat.zero_le _,hv,hf,by decide⟩
def cC0:Cd:=(.mk 0 (.mk 1 0 [120] .nil .nil) (.mk 1 0 [121] .nil .nil) .nil .nil [])
theorem cC0_e (P:Pg) (a b:Int):cdF P cMi (cVi a b) cC0= .ok (cmF 0 a b):=by kernel_rfl
def cD00:Cd:=cC0
def cT00:List UInt8:=[102,110,32,102,40,120,44,32,121,41,32,123,32,112,116,114,32,113,59,32,105,102,32,40,120,32,61,61,32,121,41,32,123,32,114,101,116,117,114,110,32,49,59,32,125,32,114,101,116,117,114,110,32,50,59,32,125]
theorem cT00_e:prF 8 ogl [⟨[102],cT00⟩,⟨gloB,[]⟩]=cPi cD00:=by kernel_rfl
theorem cT00_u:okUn 50 8 ogl ⟨[102],cT00⟩:=okUn_f (by decide) (by have e:cT00.length=57:=rfl;unfold smallB;omega) (by kernel_rfl)
theorem cT00_b:okPb 50 8 (cPi cD00)=true:=by kernel_rfl
theorem cT00_r (a b:Int) (x:Bool) (h:cmF 0 a b=x):clF 10 (cPi cD00) [102] [⟨false,a,[]⟩,⟨false,b,[]⟩] ⟨[],[]⟩ 5=cOut (.ok x):=by refine ci_3 _ a b _ ?_;have h0:cdF (cPi cD00) cMi (cVi a b) cC0= .ok x:=(by rw[cC0_e,h]);exact h0
def cD01:Cd:=(.mk 8 .nil .nil cC0 .nil [])
def cT01:List UInt8:=[102,110,32,102,40,120,44,32,121,41,32,123,32,112,116,114,32,113,59,32,105,102,32,40,33,40,120,32,61,61,32,121,41,41,32,123,32,114,101,116,117,114,110,32,49,59,32,125,32,114,101,116,117,114,110,32,50,59,32,125]
theorem cT01_e:prF 8 ogl [⟨[102],cT01⟩,⟨gloB,[]⟩]=cPi cD01:=by kernel_rfl
theorem cT01_u:okUn 50 8 ogl ⟨[102],cT01⟩:=okUn_f (by decide) (by have e:cT01.length=60:=rfl;unfold smallB;omega) (by kernel_rfl)
theorem cT01_b:okPb 50 8 (cPi cD01)=true:=by kernel_rfl
theorem cT01_r (a b:Int) (x:Bool) (h:cmF 0 a b=x):clF 10 (cPi cD01) [102] [⟨false,a,[]⟩,⟨false,b,[]⟩] ⟨[],[]⟩ 5=cOut (.ok (!x)):=by refine ci_3 _ a b _ ?_;have h0:cdF (cPi cD01) cMi (cVi a b) cC0= .ok x:=(by rw[cC0_e,h]);exact cd_not _ _ _ _ _ _ _ _ _ h0
def cD02:Cd:=(.mk 6 .nil .nil cC0 (.mk 0 (.mk 5 0 [] (.mk 0 1 [] .nil .nil) (.mk 0 0 [] .nil .nil)) (.mk 0 1 [] .nil .nil) .nil .nil []) [])
def cT02:List UInt8:=[102,110,32,102,40,120,44,32,121,41,32,123,32,112,116,114,32,113,59,32,105,102,32,40,120,32,61,61,32,121,32,38,38,32,49,32,47,32,48,32,61,61,32,49,41,32,123,32,114,101,116,117,114,110,32,49,59,32,125,32,114,101,116,117,114,110,32,50,59,32,125]
theorem cT02_e:prF 8 ogl [⟨[102],cT02⟩,⟨gloB,[]⟩]=cPi cD02:=by kernel_rfl
theorem cT02_u:okUn 50 8 ogl ⟨[102],cT02⟩:=okUn_f (by decide) (by have e:cT02.length=71:=rfl;unfold smallB;omega) (by kernel_rfl)
theorem cT02_b:okPb 50 8 (cPi cD02)=true:=by kernel_rfl
theorem cT02_r (a b:Int) (x:Bool) (h:cmF 0 a b=x):clF 10 (cPi cD02) [102] [⟨false,a,[]⟩,⟨false,b,[]⟩] ⟨[],[]⟩ 5=cOut (if x=true then .no 0 else .ok false):=by refine ci_3 _ a b _ ?_;have h0:cdF (cPi cD02) cMi (cVi a b) cC0= .ok x:=(by rw[cC0_e,h]);refine(cd_an _ _ _ _ _ _ _ _ _ h0).trans ?_;cases x<;>kernel_rfl
def cD03:Cd:=(.mk 7 .nil .nil cC0 (.mk 0 (.mk 5 0 [] (.mk 0 1 [] .nil .nil) (.mk 0 0 [] .nil .nil)) (.mk 0 1 [] .nil .nil) .nil .nil []) [])
def cT03:List UInt8:=[102,110,32,102,40,120,44,32,121,41,32,123,32,112,116,114,32,113,59,32,105,102,32,40,120,32,61,61,32,121,32,124,124,32,49,32,47,32,48,32,61,61,32,49,41,32,123,32,114,101,116,117,114,110,32,49,59,32,125,32,114,101,116,117,114,110,32,50,59,32,125]
theorem cT03_e:prF 8 ogl [⟨[102],cT03⟩,⟨gloB,[]⟩]=cPi cD03:=by kernel_rfl
theorem cT03_u:okUn 50 8 ogl ⟨[102],cT03⟩:=okUn_f (by decide) (by have e:cT03.length=71:=rfl;unfold smallB;omega) (by kernel_rfl)
theorem cT03_b:okPb 50 8 (cPi cD03)=true:=by kernel_rfl
theorem cT03_r (a b:Int) (x:Bool) (h:cmF 0 a b=x):clF 10 (cPi cD03) [102] [⟨false,a,[]⟩,⟨false,b,[]⟩] ⟨[],[]⟩ 5=cOut (if x=true then .ok true else .no 0):=by refine ci_3 _ a b _ ?_;have h0:cdF (cPi cD03) cMi (cVi a b) cC0= .ok x:=(by rw[cC0_e,h]);refine(cd_or _ _ _ _ _ _ _ _ _ h0).trans ?_;cases x<;>kernel_rfl
def cD04:Cd:=(.mk 6 .nil .nil cC0 (.mk 9 .nil .nil .nil .nil [113]) [])
def cT04:List UInt8:=[102,110,32,102,40,120,44,32,121,41,32,123,32,112,116,114,32,113,59,32,105,102,32,40,40,120,32,61,61,32,121,41,32,38,38,32,113,32,61,61,32,110,117,108,108,41,32,123,32,114,101,116,117,114,110,32,49,59,32,125,32,114,101,116,117,114,110,32,50,59,32,125]
theorem cT04_e:prF 8 ogl [⟨[102],cT04⟩,⟨gloB,[]⟩]=cPi cD04:=by kernel_rfl
theorem cT04_u:okUn 50 8 ogl ⟨[102],cT04⟩:=okUn_f (by decide) (by have e:cT04.length=72:=rfl;unfold smallB;omega) (by kernel_rfl)
theorem cT04_b:okPb 50 8 (cPi cD04)=true:=by kernel_rfl
theorem cT04_r (a b:Int) (x:Bool) (h:cmF 0 a b=x):clF 10 (cPi cD04) [102] [⟨false,a,[]⟩,⟨false,b,[]⟩] ⟨[],[]⟩ 5=cOut (.ok x):=by refine ci_3 _ a b _ ?_;have h0:cdF (cPi cD04) cMi (cVi a b) cC0= .ok x:=(by rw[cC0_e,h]);refine(cd_an _ _ _ _ _ _ _ _ _ h0).trans ?_;cases x<;>kernel_rfl
def cD05:Cd:=(.mk 7 .nil .nil (.mk 8 .nil .nil (.mk 9 .nil .nil .nil .nil [113]) .nil []) cC0 [])
def cT05:List UInt8:=[102,110,32,102,40,120,44,32,121,41,32,123,32,112,116,114,32,113,59,32,105,102,32,40,113,32,33,61,32,110,117,108,108,32,124,124,32,120,32,61,61,32,121,41,32,123,32,114,101,116,117,114,110,32,49,59,32,125,32,114,101,116,117,114,110,32,50,59,32,125]
theorem cT05_e:prF 8 ogl [⟨[102],cT05⟩,⟨gloB,[]⟩]=cPi cD05:=by kernel_rfl
theorem cT05_u:okUn 50 8 ogl ⟨[102],cT05⟩:=okUn_f (by decide) (by have e:cT05.length=70:=rfl;unfold smallB;omega) (by kernel_rfl)
theorem cT05_b:okPb 50 8 (cPi cD05)=true:=by kernel_rfl
theorem cT05_r (a b:Int) (x:Bool) (h:cmF 0 a b=x):clF 10 (cPi cD05) [102] [⟨false,a,[]⟩,⟨false,b,[]⟩] ⟨[],[]⟩ 5=cOut (.ok x):=by refine ci_3 _ a b _ ?_;have h0:cdF (cPi cD05) cMi (cVi a b) cC0= .ok x:=(by rw[cC0_e,h]);refine(cd_or _ _ _ _ _ _ _ _ false (by kernel_rfl)).trans ?_;rw[if_neg (by decide)];exact h0
def cC1:Cd:=(.mk 1 (.mk 1 0 [120] .nil .nil) (.mk 1 0 [121] .nil .nil) .nil .nil [])
theorem cC1_e (P:Pg) (a b:Int):cdF P cMi (cVi a b) cC1= .ok (cmF 1 a b):=by kernel_rfl
def cD10:Cd:=cC1
def cT10:List UInt8:=[102,110,32,102,40,120,44,32,121,41,32,123,32,112,116,114,32,113,59,32,105,102,32,40,120,32,33,61,32,121,41,32,123,32,114,101,116,117,114,110,32,49,59,32,125,32,114,101,116,117,114,110,32,50,59,32,125]
theorem cT10_e:prF 8 ogl [⟨[102],cT10⟩,⟨gloB,[]⟩]=cPi cD10:=by kernel_rfl
theorem cT10_u:okUn 50 8 ogl ⟨[102],cT10⟩:=okUn_f (by decide) (by have e:cT10.length=57:=rfl;unfold smallB;omega) (by kernel_rfl)
theorem cT10_b:okPb 50 8 (cPi cD10)=true:=by kernel_rfl
theorem cT10_r (a b:Int) (x:Bool) (h:cmF 1 a b=x):clF 10 (cPi cD10) [102] [⟨false,a,[]⟩,⟨false,b,[]⟩] ⟨[],[]⟩ 5=cOut (.ok x):=by refine ci_3 _ a b _ ?_;have h0:cdF (cPi cD10) cMi (cVi a b) cC1= .ok x:=(by rw[cC1_e,h]);exact h0
def cD11:Cd:=(.mk 8 .nil .nil cC1 .nil [])
def cT11:List UInt8:=[102,110,32,102,40,120,44,32,121,41,32,123,32,112,116,114,32,113,59,32,105,102,32,40,33,40,120,32,33,61,32,121,41,41,32,123,32,114,101,116,117,114,110,32,49,59,32,125,32,114,101,116,117,114,110,32,50,59,32,125]
theorem cT11_e:prF 8 ogl [⟨[102],cT11⟩,⟨gloB,[]⟩]=cPi cD11:=by kernel_rfl
theorem cT11_u:okUn 50 8 ogl ⟨[102],cT11⟩:=okUn_f (by decide) (by have e:cT11.length=60:=rfl;unfold smallB;omega) (by kernel_rfl)
theorem cT11_b:okPb 50 8 (cPi cD11)=true:=by kernel_rfl
theorem cT11_r (a b:Int) (x:Bool) (h:cmF 1 a b=x):clF 10 (cPi cD11) [102] [⟨false,a,[]⟩,⟨false,b,[]⟩] ⟨[],[]⟩ 5=cOut (.ok (!x)):=by refine ci_3 _ a b _ ?_;have h0:cdF (cPi cD11) cMi (cVi a b) cC1= .ok x:=(by rw[cC1_e,h]);exact cd_not _ _ _ _ _ _ _ _ _ h0
def cD12:Cd:=(.mk 6 .nil .nil cC1 (.mk 0 (.mk 5 0 [] (.mk 0 1 [] .nil .nil) (.mk 0 0 [] .nil .nil)) (.mk 0 1 [] .nil .nil) .nil .nil []) [])
def cT12:List UInt8:=[102,110,32,102,40,120,44,32,121,41,32,123,32,112,116,114,32,113,59,32,105,102,32,40,120,32,33,61,32,121,32,38,38,32,49,32,47,32,48,32,61,61,32,49,41,32,123,32,114,101,116,117,114,110,32,49,59,32,125,32,114,101,116,117,114,110,32,50,59,32,125]
theorem cT12_e:prF 8 ogl [⟨[102],cT12⟩,⟨gloB,[]⟩]=cPi cD12:=by kernel_rfl
theorem cT12_u:okUn 50 8 ogl ⟨[102],cT12⟩:=okUn_f (by decide) (by have e:cT12.length=71:=rfl;unfold smallB;omega) (by kernel_rfl)
theorem cT12_b:okPb 50 8 (cPi cD12)=true:=by kernel_rfl
theorem cT12_r (a b:Int) (x:Bool) (h:cmF 1 a b=x):clF 10 (cPi cD12) [102] [⟨false,a,[]⟩,⟨false,b,[]⟩] ⟨[],[]⟩ 5=cOut (if x=true then .no 0 else .ok false):=by refine ci_3 _ a b _ ?_;have h0:cdF (cPi cD12) cMi (cVi a b) cC1= .ok x:=(by rw[cC1_e,h]);refine(cd_an _ _ _ _ _ _ _ _ _ h0).trans ?_;cases x<;>kernel_rfl
def cD13:Cd:=(.mk 7 .nil .nil cC1 (.mk 0 (.mk 5 0 [] (.mk 0 1 [] .nil .nil) (.mk 0 0 [] .nil .nil)) (.mk 0 1 [] .nil .nil) .nil .nil []) [])
def cT13:List UInt8:=[102,110,32,102,40,120,44,32,121,41,32,123,32,112,116,114,32,113,59,32,105,102,32,40,120,32,33,61,32,121,32,124,124,32,49,32,47,32,48,32,61,61,32,49,41,32,123,32,114,101,116,117,114,110,32,49,59,32,125,32,114,101,116,117,114,110,32,50,59,32,125]
theorem cT13_e:prF 8 ogl [⟨[102],cT13⟩,⟨gloB,[]⟩]=cPi cD13:=by kernel_rfl
theorem cT13_u:okUn 50 8 ogl ⟨[102],cT13⟩:=okUn_f (by decide) (by have e:cT13.length=71:=rfl;unfold smallB;omega) (by kernel_rfl)
theorem cT13_b:okPb 50 8 (cPi cD13)=true:=by kernel_rfl
theorem cT13_r (a b:Int) (x:Bool) (h:cmF 1 a b=x):clF 10 (cPi cD13) [102] [⟨false,a,[]⟩,⟨false,b,[]⟩] ⟨[],[]⟩ 5=cOut (if x=true then .ok true else .no 0):=by refine ci_3 _ a b _ ?_;have h0:cdF (cPi cD13) cMi (cVi a b) cC1= .ok x:=(by rw[cC1_e,h]);refine(cd_or _ _ _ _ _ _ _ _ _ h0).trans ?_;cases x<;>kernel_rfl
def cD14:Cd:=(.mk 6 .nil .nil cC1 (.mk 9 .nil .nil .nil .nil [113]) [])
def cT14:List UInt8:=[102,110,32,102,40,120,44,32,121,41,32,123,32,112,116,114,32,113,59,32,105,102,32,40,40,120,32,33,61,32,121,41,32,38,38,32,113,32,61,61,32,110,117,108,108,41,32,123,32,114,101,116,117,114,110,32,49,59,32,125,32,114,101,116,117,114,110,32,50,59,32,125]
theorem cT14_e:prF 8 ogl [⟨[102],cT14⟩,⟨gloB,[]⟩]=cPi cD14:=by kernel_rfl
theorem cT14_u:okUn 50 8 ogl ⟨[102],cT14⟩:=okUn_f (by decide) (by have e:cT14.length=72:=rfl;unfold smallB;omega) (by kernel_rfl)
theorem cT14_b:okPb 50 8 (cPi cD14)=true:=by kernel_rfl
theorem cT14_r (a b:Int) (x:Bool) (h:cmF 1 a b=x):clF 10 (cPi cD14) [102] [⟨false,a,[]⟩,⟨false,b,[]⟩] ⟨[],[]⟩ 5=cOut (.ok x):=by refine ci_3 _ a b _ ?_;have h0:cdF (cPi cD14) cMi (cVi a b) cC1= .ok x:=(by rw[cC1_e,h]);refine(cd_an _ _ _ _ _ _ _ _ _ h0).trans ?_;cases x<;>kernel_rfl
def cD15:Cd:=(.mk 7 .nil .nil (.mk 8 .nil .nil (.mk 9 .nil .nil .nil .nil [113]) .nil []) cC1 [])
def cT15:List UInt8:=[102,110,32,102,40,120,44,32,121,41,32,123,32,112,116,114,32,113,59,32,105,102,32,40,113,32,33,61,32,110,117,108,108,32,124,124,32,120,32,33,61,32,121,41,32,123,32,114,101,116,117,114,110,32,49,59,32,125,32,114,101,116,117,114,110,32,50,59,32,125]
theorem cT15_e:prF 8 ogl [⟨[102],cT15⟩,⟨gloB,[]⟩]=cPi cD15:=by kernel_rfl
theorem cT15_u:okUn 50 8 ogl ⟨[102],cT15⟩:=okUn_f (by decide) (by have e:cT15.length=70:=rfl;unfold smallB;omega) (by kernel_rfl)
theorem cT15_b:okPb 50 8 (cPi cD15)=true:=by kernel_rfl
theorem cT15_r (a b:Int) (x:Bool) (h:cmF 1 a b=x):clF 10 (cPi cD15) [102] [⟨false,a,[]⟩,⟨false,b,[]⟩] ⟨[],[]⟩ 5=cOut (.ok x):=by refine ci_3 _ a b _ ?_;have h0:cdF (cPi cD15) cMi (cVi a b) cC1= .ok x:=(by rw[cC1_e,h]);refine(cd_or _ _ _ _ _ _ _ _ false (by kernel_rfl)).trans ?_;rw[if_neg (by decide)];exact h0
def cC2:Cd:=(.mk 2 (.mk 1 0 [120] .nil .nil) (.mk 1 0 [121] .nil .nil) .nil .nil [])
theorem cC2_e (P:Pg) (a b:Int):cdF P cMi (cVi a b) cC2= .ok (cmF 2 a b):=by kernel_rfl
def cD20:Cd:=cC2
def cT20:List UInt8:=[102,110,32,102,40,120,44,32,121,41,32,123,32,112,116,114,32,113,59,32,105,102,32,40,120,32,60,32,121,41,32,123,32,114,101,116,117,114,110,32,49,59,32,125,32,114,101,116,117,114,110,32,50,59,32,125]
theorem cT20_e:prF 8 ogl [⟨[102],cT20⟩,⟨gloB,[]⟩]=cPi cD20:=by kernel_rfl
theorem cT20_u:okUn 50 8 ogl ⟨[102],cT20⟩:=okUn_f (by decide) (by have e:cT20.length=56:=rfl;unfold smallB;omega) (by kernel_rfl)
theorem cT20_b:okPb 50 8 (cPi cD20)=true:=by kernel_rfl
theorem cT20_r (a b:Int) (x:Bool) (h:cmF 2 a b=x):clF 10 (cPi cD20) [102] [⟨false,a,[]⟩,⟨false,b,[]⟩] ⟨[],[]⟩ 5=cOut (.ok x):=by refine ci_3 _ a b _ ?_;have h0:cdF (cPi cD20) cMi (cVi a b) cC2= .ok x:=(by rw[cC2_e,h]);exact h0
def cD21:Cd:=(.mk 8 .nil .nil cC2 .nil [])
def cT21:List UInt8:=[102,110,32,102,40,120,44,32,121,41,32,123,32,112,116,114,32,113,59,32,105,102,32,40,33,40,120,32,60,32,121,41,41,32,123,32,114,101,116,117,114,110,32,49,59,32,125,32,114,101,116,117,114,110,32,50,59,32,125]
theorem cT21_e:prF 8 ogl [⟨[102],cT21⟩,⟨gloB,[]⟩]=cPi cD21:=by kernel_rfl
theorem cT21_u:okUn 50 8 ogl ⟨[102],cT21⟩:=okUn_f (by decide) (by have e:cT21.length=59:=rfl;unfold smallB;omega) (by kernel_rfl)
theorem cT21_b:okPb 50 8 (cPi cD21)=true:=by kernel_rfl
theorem cT21_r (a b:Int) (x:Bool) (h:cmF 2 a b=x):clF 10 (cPi cD21) [102] [⟨false,a,[]⟩,⟨false,b,[]⟩] ⟨[],[]⟩ 5=cOut (.ok (!x)):=by refine ci_3 _ a b _ ?_;have h0:cdF (cPi cD21) cMi (cVi a b) cC2= .ok x:=(by rw[cC2_e,h]);exact cd_not _ _ _ _ _ _ _ _ _ h0
def cD22:Cd:=(.mk 6 .nil .nil cC2 (.mk 0 (.mk 5 0 [] (.mk 0 1 [] .nil .nil) (.mk 0 0 [] .nil .nil)) (.mk 0 1 [] .nil .nil) .nil .nil []) [])
def cT22:List UInt8:=[102,110,32,102,40,120,44,32,121,41,32,123,32,112,116,114,32,113,59,32,105,102,32,40,120,32,60,32,121,32,38,38,32,49,32,47,32,48,32,61,61,32,49,41,32,123,32,114,101,116,117,114,110,32,49,59,32,125,32,114,101,116,117,114,110,32,50,59,32,125]
theorem cT22_e:prF 8 ogl [⟨[102],cT22⟩,⟨gloB,[]⟩]=cPi cD22:=by kernel_rfl
theorem cT22_u:okUn 50 8 ogl ⟨[102],cT22⟩:=okUn_f (by decide) (by have e:cT22.length=70:=rfl;unfold smallB;omega) (by kernel_rfl)
theorem cT22_b:okPb 50 8 (cPi cD22)=true:=by kernel_rfl
theorem cT22_r (a b:Int) (x:Bool) (h:cmF 2 a b=x):clF 10 (cPi cD22) [102] [⟨false,a,[]⟩,⟨false,b,[]⟩] ⟨[],[]⟩ 5=cOut (if x=true then .no 0 else .ok false):=by refine ci_3 _ a b _ ?_;have h0:cdF (cPi cD22) cMi (cVi a b) cC2= .ok x:=(by rw[cC2_e,h]);refine(cd_an _ _ _ _ _ _ _ _ _ h0).trans ?_;cases x<;>kernel_rfl
def cD23:Cd:=(.mk 7 .nil .nil cC2 (.mk 0 (.mk 5 0 [] (.mk 0 1 [] .nil .nil) (.mk 0 0 [] .nil .nil)) (.mk 0 1 [] .nil .nil) .nil .nil []) [])
def cT23:List UInt8:=[102,110,32,102,40,120,44,32,121,41,32,123,32,112,116,114,32,113,59,32,105,102,32,40,120,32,60,32,121,32,124,124,32,49,32,47,32,48,32,61,61,32,49,41,32,123,32,114,101,116,117,114,110,32,49,59,32,125,32,114,101,116,117,114,110,32,50,59,32,125]
theorem cT23_e:prF 8 ogl [⟨[102],cT23⟩,⟨gloB,[]⟩]=cPi cD23:=by kernel_rfl
theorem cT23_u:okUn 50 8 ogl ⟨[102],cT23⟩:=okUn_f (by decide) (by have e:cT23.length=70:=rfl;unfold smallB;omega) (by kernel_rfl)
theorem cT23_b:okPb 50 8 (cPi cD23)=true:=by kernel_rfl
theorem cT23_r (a b:Int) (x:Bool) (h:cmF 2 a b=x):clF 10 (cPi cD23) [102] [⟨false,a,[]⟩,⟨false,b,[]⟩] ⟨[],[]⟩ 5=cOut (if x=true then .ok true else .no 0):=by refine ci_3 _ a b _ ?_;have h0:cdF (cPi cD23) cMi (cVi a b) cC2= .ok x:=(by rw[cC2_e,h]);refine(cd_or _ _ _ _ _ _ _ _ _ h0).trans ?_;cases x<;>kernel_rfl
def cD24:Cd:=(.mk 6 .nil .nil cC2 (.mk 9 .nil .nil .nil .nil [113]) [])
def cT24:List UInt8:=[102,110,32,102,40,120,44,32,121,41,32,123,32,112,116,114,32,113,59,32,105,102,32,40,40,120,32,60,32,121,41,32,38,38,32,113,32,61,61,32,110,117,108,108,41,32,123,32,114,101,116,117,114,110,32,49,59,32,125,32,114,101,116,117,114,110,32,50,59,32,125]
theorem cT24_e:prF 8 ogl [⟨[102],cT24⟩,⟨gloB,[]⟩]=cPi cD24:=by kernel_rfl
theorem cT24_u:okUn 50 8 ogl ⟨[102],cT24⟩:=okUn_f (by decide) (by have e:cT24.length=71:=rfl;unfold smallB;omega) (by kernel_rfl)
theorem cT24_b:okPb 50 8 (cPi cD24)=true:=by kernel_rfl
theorem cT24_r (a b:Int) (x:Bool) (h:cmF 2 a b=x):clF 10 (cPi cD24) [102] [⟨false,a,[]⟩,⟨false,b,[]⟩] ⟨[],[]⟩ 5=cOut (.ok x):=by refine ci_3 _ a b _ ?_;have h0:cdF (cPi cD24) cMi (cVi a b) cC2= .ok x:=(by rw[cC2_e,h]);refine(cd_an _ _ _ _ _ _ _ _ _ h0).trans ?_;cases x<;>kernel_rfl
def cD25:Cd:=(.mk 7 .nil .nil (.mk 8 .nil .nil (.mk 9 .nil .nil .nil .nil [113]) .nil []) cC2 [])
def cT25:List UInt8:=[102,110,32,102,40,120,44,32,121,41,32,123,32,112,116,114,32,113,59,32,105,102,32,40,113,32,33,61,32,110,117,108,108,32,124,124,32,120,32,60,32,121,41,32,123,32,114,101,116,117,114,110,32,49,59,32,125,32,114,101,116,117,114,110,32,50,59,32,125]
theorem cT25_e:prF 8 ogl [⟨[102],cT25⟩,⟨gloB,[]⟩]=cPi cD25:=by kernel_rfl
theorem cT25_u:okUn 50 8 ogl ⟨[102],cT25⟩:=okUn_f (by decide) (by have e:cT25.length=69:=rfl;unfold smallB;omega) (by kernel_rfl)
theorem cT25_b:okPb 50 8 (cPi cD25)=true:=by kernel_rfl
theorem cT25_r (a b:Int) (x:Bool) (h:cmF 2 a b=x):clF 10 (cPi cD25) [102] [⟨false,a,[]⟩,⟨false,b,[]⟩] ⟨[],[]⟩ 5=cOut (.ok x):=by refine ci_3 _ a b _ ?_;have h0:cdF (cPi cD25) cMi (cVi a b) cC2= .ok x:=(by rw[cC2_e,h]);refine(cd_or _ _ _ _ _ _ _ _ false (by kernel_rfl)).trans ?_;rw[if_neg (by decide)];exact h0
def cC3:Cd:=(.mk 3 (.mk 1 0 [120] .nil .nil) (.mk 1 0 [121] .nil .nil) .nil .nil [])
theorem cC3_e (P:Pg) (a b:Int):cdF P cMi (cVi a b) cC3= .ok (cmF 3 a b):=by kernel_rfl
def cD30:Cd:=cC3
def cT30:List UInt8:=[102,110,32,102,40,120,44,32,121,41,32,123,32,112,116,114,32,113,59,32,105,102,32,40,120,32,60,61,32,121,41,32,123,32,114,101,116,117,114,110,32,49,59,32,125,32,114,101,116,117,114,110,32,50,59,32,125]
theorem cT30_e:prF 8 ogl [⟨[102],cT30⟩,⟨gloB,[]⟩]=cPi cD30:=by kernel_rfl
theorem cT30_u:okUn 50 8 ogl ⟨[102],cT30⟩:=okUn_f (by decide) (by have e:cT30.length=57:=rfl;unfold smallB;omega) (by kernel_rfl)
theorem cT30_b:okPb 50 8 (cPi cD30)=true:=by kernel_rfl
theorem cT30_r (a b:Int) (x:Bool) (h:cmF 3 a b=x):clF 10 (cPi cD30) [102] [⟨false,a,[]⟩,⟨false,b,[]⟩] ⟨[],[]⟩ 5=cOut (.ok x):=by refine ci_3 _ a b _ ?_;have h0:cdF (cPi cD30) cMi (cVi a b) cC3= .ok x:=(by rw[cC3_e,h]);exact h0
def cD31:Cd:=(.mk 8 .nil .nil cC3 .nil [])
def cT31:List UInt8:=[102,110,32,102,40,120,44,32,121,41,32,123,32,112,116,114,32,113,59,32,105,102,32,40,33,40,120,32,60,61,32,121,41,41,32,123,32,114,101,116,117,114,110,32,49,59,32,125,32,114,101,116,117,114,110,32,50,59,32,125]
theorem cT31_e:prF 8 ogl [⟨[102],cT31⟩,⟨gloB,[]⟩]=cPi cD31:=by kernel_rfl
theorem cT31_u:okUn 50 8 ogl ⟨[102],cT31⟩:=okUn_f (by decide) (by have e:cT31.length=60:=rfl;unfold smallB;omega) (by kernel_rfl)
theorem cT31_b:okPb 50 8 (cPi cD31)=true:=by kernel_rfl
theorem cT31_r (a b:Int) (x:Bool) (h:cmF 3 a b=x):clF 10 (cPi cD31) [102] [⟨false,a,[]⟩,⟨false,b,[]⟩] ⟨[],[]⟩ 5=cOut (.ok (!x)):=by refine ci_3 _ a b _ ?_;have h0:cdF (cPi cD31) cMi (cVi a b) cC3= .ok x:=(by rw[cC3_e,h]);exact cd_not _ _ _ _ _ _ _ _ _ h0
def cD32:Cd:=(.mk 6 .nil .nil cC3 (.mk 0 (.mk 5 0 [] (.mk 0 1 [] .nil .nil) (.mk 0 0 [] .nil .nil)) (.mk 0 1 [] .nil .nil) .nil .nil []) [])
def cT32:List UInt8:=[102,110,32,102,40,120,44,32,121,41,32,123,32,112,116,114,32,113,59,32,105,102,32,40,120,32,60,61,32,121,32,38,38,32,49,32,47,32,48,32,61,61,32,49,41,32,123,32,114,101,116,117,114,110,32,49,59,32,125,32,114,101,116,117,114,110,32,50,59,32,125]
theorem cT32_e:prF 8 ogl [⟨[102],cT32⟩,⟨gloB,[]⟩]=cPi cD32:=by kernel_rfl
theorem cT32_u:okUn 50 8 ogl ⟨[102],cT32⟩:=okUn_f (by decide) (by have e:cT32.length=71:=rfl;unfold smallB;omega) (by kernel_rfl)
theorem cT32_b:okPb 50 8 (cPi cD32)=true:=by kernel_rfl
theorem cT32_r (a b:Int) (x:Bool) (h:cmF 3 a b=x):clF 10 (cPi cD32) [102] [⟨false,a,[]⟩,⟨false,b,[]⟩] ⟨[],[]⟩ 5=cOut (if x=true then .no 0 else .ok false):=by refine ci_3 _ a b _ ?_;have h0:cdF (cPi cD32) cMi (cVi a b) cC3= .ok x:=(by rw[cC3_e,h]);refine(cd_an _ _ _ _ _ _ _ _ _ h0).trans ?_;cases x<;>kernel_rfl
def cD33:Cd:=(.mk 7 .nil .nil cC3 (.mk 0 (.mk 5 0 [] (.mk 0 1 [] .nil .nil) (.mk 0 0 [] .nil .nil)) (.mk 0 1 [] .nil .nil) .nil .nil []) [])
def cT33:List UInt8:=[102,110,32,102,40,120,44,32,121,41,32,123,32,112,116,114,32,113,59,32,105,102,32,40,120,32,60,61,32,121,32,124,124,32,49,32,47,32,48,32,61,61,32,49,41,32,123,32,114,101,116,117,114,110,32,49,59,32,125,32,114,101,116,117,114,110,32,50,59,32,125]
theorem cT33_e:prF 8 ogl [⟨[102],cT33⟩,⟨gloB,[]⟩]=cPi cD33:=by kernel_rfl
theorem cT33_u:okUn 50 8 ogl ⟨[102],cT33⟩:=okUn_f (by decide) (by have e:cT33.length=71:=rfl;unfold smallB;omega) (by kernel_rfl)
theorem cT33_b:okPb 50 8 (cPi cD33)=true:=by kernel_rfl
theorem cT33_r (a b:Int) (x:Bool) (h:cmF 3 a b=x):clF 10 (cPi cD33) [102] [⟨false,a,[]⟩,⟨false,b,[]⟩] ⟨[],[]⟩ 5=cOut (if x=true then .ok true else .no 0):=by refine ci_3 _ a b _ ?_;have h0:cdF (cPi cD33) cMi (cVi a b) cC3= .ok x:=(by rw[cC3_e,h]);refine(cd_or _ _ _ _ _ _ _ _ _ h0).trans ?_;cases x<;>kernel_rfl
def cD34:Cd:=(.mk 6 .nil .nil cC3 (.mk 9 .nil .nil .nil .nil [113]) [])
def cT34:List UInt8:=[102,110,32,102,40,120,44,32,121,41,32,123,32,112,116,114,32,113,59,32,105,102,32,40,40,120,32,60,61,32,121,41,32,38,38,32,113,32,61,61,32,110,117,108,108,41,32,123,32,114,101,116,117,114,110,32,49,59,32,125,32,114,101,116,117,114,110,32,50,59,32,125]
theorem cT34_e:prF 8 ogl [⟨[102],cT34⟩,⟨gloB,[]⟩]=cPi cD34:=by kernel_rfl
theorem cT34_u:okUn 50 8 ogl ⟨[102],cT34⟩:=okUn_f (by decide) (by have e:cT34.length=72:=rfl;unfold smallB;omega) (by kernel_rfl)
theorem cT34_b:okPb 50 8 (cPi cD34)=true:=by kernel_rfl
theorem cT34_r (a b:Int) (x:Bool) (h:cmF 3 a b=x):clF 10 (cPi cD34) [102] [⟨false,a,[]⟩,⟨false,b,[]⟩] ⟨[],[]⟩ 5=cOut (.ok x):=by refine ci_3 _ a b _ ?_;have h0:cdF (cPi cD34) cMi (cVi a b) cC3= .ok x:=(by rw[cC3_e,h]);refine(cd_an _ _ _ _ _ _ _ _ _ h0).trans ?_;cases x<;>kernel_rfl
def cD35:Cd:=(.mk 7 .nil .nil (.mk 8 .nil .nil (.mk 9 .nil .nil .nil .nil [113]) .nil []) cC3 [])
def cT35:List UInt8:=[102,110,32,102,40,120,44,32,121,41,32,123,32,112,116,114,32,113,59,32,105,102,32,40,113,32,33,61,32,110,117,108,108,32,124,124,32,120,32,60,61,32,121,41,32,123,32,114,101,116,117,114,110,32,49,59,32,125,32,114,101,116,117,114,110,32,50,59,32,125]
theorem cT35_e:prF 8 ogl [⟨[102],cT35⟩,⟨gloB,[]⟩]=cPi cD35:=by kernel_rfl
theorem cT35_u:okUn 50 8 ogl ⟨[102],cT35⟩:=okUn_f (by decide) (by have e:cT35.length=70:=rfl;unfold smallB;omega) (by kernel_rfl)
theorem cT35_b:okPb 50 8 (cPi cD35)=true:=by kernel_rfl
theorem cT35_r (a b:Int) (x:Bool) (h:cmF 3 a b=x):clF 10 (cPi cD35) [102] [⟨false,a,[]⟩,⟨false,b,[]⟩] ⟨[],[]⟩ 5=cOut (.ok x):=by refine ci_3 _ a b _ ?_;have h0:cdF (cPi cD35) cMi (cVi a b) cC3= .ok x:=(by rw[cC3_e,h]);refine(cd_or _ _ _ _ _ _ _ _ false (by kernel_rfl)).trans ?_;rw[if_neg (by decide)];exact h0
def cC4:Cd:=(.mk 4 (.mk 1 0 [120] .nil .nil) (.mk 1 0 [121] .nil .nil) .nil .nil [])
theorem cC4_e (P:Pg) (a b:Int):cdF P cMi (cVi a b) cC4= .ok (cmF 4 a b):=by kernel_rfl
def cD40:Cd:=cC4
def cT40:List UInt8:=[102,110,32,102,40,120,44,32,121,41,32,123,32,112,116,114,32,113,59,32,105,102,32,40,120,32,62,32,121,41,32,123,32,114,101,116,117,114,110,32,49,59,32,125,32,114,101,116,117,114,110,32,50,59,32,125]
theorem cT40_e:prF 8 ogl [⟨[102],cT40⟩,⟨gloB,[]⟩]=cPi cD40:=by kernel_rfl
theorem cT40_u:okUn 50 8 ogl ⟨[102],cT40⟩:=okUn_f (by decide) (by have e:cT40.length=56:=rfl;unfold smallB;omega) (by kernel_rfl)
theorem cT40_b:okPb 50 8 (cPi cD40)=true:=by kernel_rfl
theorem cT40_r (a b:Int) (x:Bool) (h:cmF 4 a b=x):clF 10 (cPi cD40) [102] [⟨false,a,[]⟩,⟨false,b,[]⟩] ⟨[],[]⟩ 5=cOut (.ok x):=by refine ci_3 _ a b _ ?_;have h0:cdF (cPi cD40) cMi (cVi a b) cC4= .ok x:=(by rw[cC4_e,h]);exact h0
def cD41:Cd:=(.mk 8 .nil .nil cC4 .nil [])
def cT41:List UInt8:=[102,110,32,102,40,120,44,32,121,41,32,123,32,112,116,114,32,113,59,32,105,102,32,40,33,40,120,32,62,32,121,41,41,32,123,32,114,101,116,117,114,110,32,49,59,32,125,32,114,101,116,117,114,110,32,50,59,32,125]
theorem cT41_e:prF 8 ogl [⟨[102],cT41⟩,⟨gloB,[]⟩]=cPi cD41:=by kernel_rfl
theorem cT41_u:okUn 50 8 ogl ⟨[102],cT41⟩:=okUn_f (by decide) (by have e:cT41.length=59:=rfl;unfold smallB;omega) (by kernel_rfl)
theorem cT41_b:okPb 50 8 (cPi cD41)=true:=by kernel_rfl
theorem cT41_r (a b:Int) (x:Bool) (h:cmF 4 a b=x):clF 10 (cPi cD41) [102] [⟨false,a,[]⟩,⟨false,b,[]⟩] ⟨[],[]⟩ 5=cOut (.ok (!x)):=by refine ci_3 _ a b _ ?_;have h0:cdF (cPi cD41) cMi (cVi a b) cC4= .ok x:=(by rw[cC4_e,h]);exact cd_not _ _ _ _ _ _ _ _ _ h0
def cD42:Cd:=(.mk 6 .nil .nil cC4 (.mk 0 (.mk 5 0 [] (.mk 0 1 [] .nil .nil) (.mk 0 0 [] .nil .nil)) (.mk 0 1 [] .nil .nil) .nil .nil []) [])
def cT42:List UInt8:=[102,110,32,102,40,120,44,32,121,41,32,123,32,112,116,114,32,113,59,32,105,102,32,40,120,32,62,32,121,32,38,38,32,49,32,47,32,48,32,61,61,32,49,41,32,123,32,114,101,116,117,114,110,32,49,59,32,125,32,114,101,116,117,114,110,32,50,59,32,125]
theorem cT42_e:prF 8 ogl [⟨[102],cT42⟩,⟨gloB,[]⟩]=cPi cD42:=by kernel_rfl
theorem cT42_u:okUn 50 8 ogl ⟨[102],cT42⟩:=okUn_f (by decide) (by have e:cT42.length=70:=rfl;unfold smallB;omega) (by kernel_rfl)
theorem cT42_b:okPb 50 8 (cPi cD42)=true:=by kernel_rfl
theorem cT42_r (a b:Int) (x:Bool) (h:cmF 4 a b=x):clF 10 (cPi cD42) [102] [⟨false,a,[]⟩,⟨false,b,[]⟩] ⟨[],[]⟩ 5=cOut (if x=true then .no 0 else .ok false):=by refine ci_3 _ a b _ ?_;have h0:cdF (cPi cD42) cMi (cVi a b) cC4= .ok x:=(by rw[cC4_e,h]);refine(cd_an _ _ _ _ _ _ _ _ _ h0).trans ?_;cases x<;>kernel_rfl
def cD43:Cd:=(.mk 7 .nil .nil cC4 (.mk 0 (.mk 5 0 [] (.mk 0 1 [] .nil .nil) (.mk 0 0 [] .nil .nil)) (.mk 0 1 [] .nil .nil) .nil .nil []) [])
def cT43:List UInt8:=[102,110,32,102,40,120,44,32,121,41,32,123,32,112,116,114,32,113,59,32,105,102,32,40,120,32,62,32,121,32,124,124,32,49,32,47,32,48,32,61,61,32,49,41,32,123,32,114,101,116,117,114,110,32,49,59,32,125,32,114,101,116,117,114,110,32,50,59,32,125]
theorem cT43_e:prF 8 ogl [⟨[102],cT43⟩,⟨gloB,[]⟩]=cPi cD43:=by kernel_rfl
theorem cT43_u:okUn 50 8 ogl ⟨[102],cT43⟩:=okUn_f (by decide) (by have e:cT43.length=70:=rfl;unfold smallB;omega) (by kernel_rfl)
theorem cT43_b:okPb 50 8 (cPi cD43)=true:=by kernel_rfl
theorem cT43_r (a b:Int) (x:Bool) (h:cmF 4 a b=x):clF 10 (cPi cD43) [102] [⟨false,a,[]⟩,⟨false,b,[]⟩] ⟨[],[]⟩ 5=cOut (if x=true then .ok true else .no 0):=by refine ci_3 _ a b _ ?_;have h0:cdF (cPi cD43) cMi (cVi a b) cC4= .ok x:=(by rw[cC4_e,h]);refine(cd_or _ _ _ _ _ _ _ _ _ h0).trans ?_;cases x<;>kernel_rfl
def cD44:Cd:=(.mk 6 .nil .nil cC4 (.mk 9 .nil .nil .nil .nil [113]) [])
def cT44:List UInt8:=[102,110,32,102,40,120,44,32,121,41,32,123,32,112,116,114,32,113,59,32,105,102,32,40,40,120,32,62,32,121,41,32,38,38,32,113,32,61,61,32,110,117,108,108,41,32,123,32,114,101,116,117,114,110,32,49,59,32,125,32,114,101,116,117,114,110,32,50,59,32,125]
theorem cT44_e:prF 8 ogl [⟨[102],cT44⟩,⟨gloB,[]⟩]=cPi cD44:=by kernel_rfl
theorem cT44_u:okUn 50 8 ogl ⟨[102],cT44⟩:=okUn_f (by decide) (by have e:cT44.length=71:=rfl;unfold smallB;omega) (by kernel_rfl)
theorem cT44_b:okPb 50 8 (cPi cD44)=true:=by kernel_rfl
theorem cT44_r (a b:Int) (x:Bool) (h:cmF 4 a b=x):clF 10 (cPi cD44) [102] [⟨false,a,[]⟩,⟨false,b,[]⟩] ⟨[],[]⟩ 5=cOut (.ok x):=by refine ci_3 _ a b _ ?_;have h0:cdF (cPi cD44) cMi (cVi a b) cC4= .ok x:=(by rw[cC4_e,h]);refine(cd_an _ _ _ _ _ _ _ _ _ h0).trans ?_;cases x<;>kernel_rfl
def cD45:Cd:=(.mk 7 .nil .nil (.mk 8 .nil .nil (.mk 9 .nil .nil .nil .nil [113]) .nil []) cC4 [])
def cT45:List UInt8:=[102,110,32,102,40,120,44,32,121,41,32,123,32,112,116,114,32,113,59,32,105,102,32,40,113,32,33,61,32,110,117,108,108,32,124,124,32,120,32,62,32,121,41,32,123,32,114,101,116,117,114,110,32,49,59,32,125,32,114,101,116,117,114,110,32,50,59,32,125]
theorem cT45_e:prF 8 ogl [⟨[102],cT45⟩,⟨gloB,[]⟩]=cPi cD45:=by kernel_rfl
theorem cT45_u:okUn 50 8 ogl ⟨[102],cT45⟩:=okUn_f (by decide) (by have e:cT45.length=69:=rfl;unfold smallB;omega) (by kernel_rfl)
theorem cT45_b:okPb 50 8 (cPi cD45)=true:=by kernel_rfl
theorem cT45_r (a b:Int) (x:Bool) (h:cmF 4 a b=x):clF 10 (cPi cD45) [102] [⟨false,a,[]⟩,⟨false,b,[]⟩] ⟨[],[]⟩ 5=cOut (.ok x):=by refine ci_3 _ a b _ ?_;have h0:cdF (cPi cD45) cMi (cVi a b) cC4= .ok x:=(by rw[cC4_e,h]);refine(cd_or _ _ _ _ _ _ _ _ false (by kernel_rfl)).trans ?_;rw[if_neg (by decide)];exact h0
def cC5:Cd:=(.mk 5 (.mk 1 0 [120] .nil .nil) (.mk 1 0 [121] .nil .nil) .nil .nil [])
theorem cC5_e (P:Pg) (a b:Int):cdF P cMi (cVi a b) cC5= .ok (cmF 5 a b):=by kernel_rfl
def cD50:Cd:=cC5
def cT50:List UInt8:=[102,110,32,102,40,120,44,32,121,41,32,123,32,112,116,114,32,113,59,32,105,102,32,40,120,32,62,61,32,121,41,32,123,32,114,101,116,117,114,110,32,49,59,32,125,32,114,101,116,117,114,110,32,50,59,32,125]
theorem cT50_e:prF 8 ogl [⟨[102],cT50⟩,⟨gloB,[]⟩]=cPi cD50:=by kernel_rfl
theorem cT50_u:okUn 50 8 ogl ⟨[102],cT50⟩:=okUn_f (by decide) (by have e:cT50.length=57:=rfl;unfold smallB;omega) (by kernel_rfl)
theorem cT50_b:okPb 50 8 (cPi cD50)=true:=by kernel_rfl
theorem cT50_r (a b:Int) (x:Bool) (h:cmF 5 a b=x):clF 10 (cPi cD50) [102] [⟨false,a,[]⟩,⟨false,b,[]⟩] ⟨[],[]⟩ 5=cOut (.ok x):=by refine ci_3 _ a b _ ?_;have h0:cdF (cPi cD50) cMi (cVi a b) cC5= .ok x:=(by rw[cC5_e,h]);exact h0
def cD51:Cd:=(.mk 8 .nil .nil cC5 .nil [])
def cT51:List UInt8:=[102,110,32,102,40,120,44,32,121,41,32,123,32,112,116,114,32,113,59,32,105,102,32,40,33,40,120,32,62,61,32,121,41,41,32,123,32,114,101,116,117,114,110,32,49,59,32,125,32,114,101,116,117,114,110,32,50,59,32,125]
theorem cT51_e:prF 8 ogl [⟨[102],cT51⟩,⟨gloB,[]⟩]=cPi cD51:=by kernel_rfl
theorem cT51_u:okUn 50 8 ogl ⟨[102],cT51⟩:=okUn_f (by decide) (by have e:cT51.length=60:=rfl;unfold smallB;omega) (by kernel_rfl)
theorem cT51_b:okPb 50 8 (cPi cD51)=true:=by kernel_rfl
theorem cT51_r (a b:Int) (x:Bool) (h:cmF 5 a b=x):clF 10 (cPi cD51) [102] [⟨false,a,[]⟩,⟨false,b,[]⟩] ⟨[],[]⟩ 5=cOut (.ok (!x)):=by refine ci_3 _ a b _ ?_;have h0:cdF (cPi cD51) cMi (cVi a b) cC5= .ok x:=(by rw[cC5_e,h]);exact cd_not _ _ _ _ _ _ _ _ _ h0
def cD52:Cd:=(.mk 6 .nil .nil cC5 (.mk 0 (.mk 5 0 [] (.mk 0 1 [] .nil .nil) (.mk 0 0 [] .nil .nil)) (.mk 0 1 [] .nil .nil) .nil .nil []) [])
def cT52:List UInt8:=[102,110,32,102,40,120,44,32,121,41,32,123,32,112,116,114,32,113,59,32,105,102,32,40,120,32,62,61,32,121,32,38,38,32,49,32,47,32,48,32,61,61,32,49,41,32,123,32,114,101,116,117,114,110,32,49,59,32,125,32,114,101,116,117,114,110,32,50,59,32,125]
theorem cT52_e:prF 8 ogl [⟨[102],cT52⟩,⟨gloB,[]⟩]=cPi cD52:=by kernel_rfl
theorem cT52_u:okUn 50 8 ogl ⟨[102],cT52⟩:=okUn_f (by decide) (by have e:cT52.length=71:=rfl;unfold smallB;omega) (by kernel_rfl)
theorem cT52_b:okPb 50 8 (cPi cD52)=true:=by kernel_rfl
theorem cT52_r (a b:Int) (x:Bool) (h:cmF 5 a b=x):clF 10 (cPi cD52) [102] [⟨false,a,[]⟩,⟨false,b,[]⟩] ⟨[],[]⟩ 5=cOut (if x=true then .no 0 else .ok false):=by refine ci_3 _ a b _ ?_;have h0:cdF (cPi cD52) cMi (cVi a b) cC5= .ok x:=(by rw[cC5_e,h]);refine(cd_an _ _ _ _ _ _ _ _ _ h0).trans ?_;cases x<;>kernel_rfl
def cD53:Cd:=(.mk 7 .nil .nil cC5 (.mk 0 (.mk 5 0 [] (.mk 0 1 [] .nil .nil) (.mk 0 0 [] .nil .nil)) (.mk 0 1 [] .nil .nil) .nil .nil []) [])
def cT53:List UInt8:=[102,110,32,102,40,120,44,32,121,41,32,123,32,112,116,114,32,113,59,32,105,102,32,40,120,32,62,61,32,121,32,124,124,32,49,32,47,32,48,32,61,61,32,49,41,32,123,32,114,101,116,117,114,110,32,49,59,32,125,32,114,101,116,117,114,110,32,50,59,32,125]
theorem cT53_e:prF 8 ogl [⟨[102],cT53⟩,⟨gloB,[]⟩]=cPi cD53:=by kernel_rfl
theorem cT53_u:okUn 50 8 ogl ⟨[102],cT53⟩:=okUn_f (by decide) (by have e:cT53.length=71:=rfl;unfold smallB;omega) (by kernel_rfl)
theorem cT53_b:okPb 50 8 (cPi cD53)=true:=by kernel_rfl
theorem cT53_r (a b:Int) (x:Bool) (h:cmF 5 a b=x):clF 10 (cPi cD53) [102] [⟨false,a,[]⟩,⟨false,b,[]⟩] ⟨[],[]⟩ 5=cOut (if x=true then .ok true else .no 0):=by refine ci_3 _ a b _ ?_;have h0:cdF (cPi cD53) cMi (cVi a b) cC5= .ok x:=(by rw[cC5_e,h]);refine(cd_or _ _ _ _ _ _ _ _ _ h0).trans ?_;cases x<;>kernel_rfl
def cD54:Cd:=(.mk 6 .nil .nil cC5 (.mk 9 .nil .nil .nil .nil [113]) [])
def cT54:List UInt8:=[102,110,32,102,40,120,44,32,121,41,32,123,32,112,116,114,32,113,59,32,105,102,32,40,40,120,32,62,61,32,121,41,32,38,38,32,113,32,61,61,32,110,117,108,108,41,32,123,32,114,101,116,117,114,110,32,49,59,32,125,32,114,101,116,117,114,110,32,50,59,32,125]
theorem cT54_e:prF 8 ogl [⟨[102],cT54⟩,⟨gloB,[]⟩]=cPi cD54:=by kernel_rfl
theorem cT54_u:okUn 50 8 ogl ⟨[102],cT54⟩:=okUn_f (by decide) (by have e:cT54.length=72:=rfl;unfold smallB;omega) (by kernel_rfl)
theorem cT54_b:okPb 50 8 (cPi cD54)=true:=by kernel_rfl
theorem cT54_r (a b:Int) (x:Bool) (h:cmF 5 a b=x):clF 10 (cPi cD54) [102] [⟨false,a,[]⟩,⟨false,b,[]⟩] ⟨[],[]⟩ 5=cOut (.ok x):=by refine ci_3 _ a b _ ?_;have h0:cdF (cPi cD54) cMi (cVi a b) cC5= .ok x:=(by rw[cC5_e,h]);refine(cd_an _ _ _ _ _ _ _ _ _ h0).trans ?_;cases x<;>kernel_rfl
def cD55:Cd:=(.mk 7 .nil .nil (.mk 8 .nil .nil (.mk 9 .nil .nil .nil .nil [113]) .nil []) cC5 [])
def cT55:List UInt8:=[102,110,32,102,40,120,44,32,121,41,32,123,32,112,116,114,32,113,59,32,105,102,32,40,113,32,33,61,32,110,117,108,108,32,124,124,32,120,32,62,61,32,121,41,32,123,32,114,101,116,117,114,110,32,49,59,32,125,32,114,101,116,117,114,110,32,50,59,32,125]
theorem cT55_e:prF 8 ogl [⟨[102],cT55⟩,⟨gloB,[]⟩]=cPi cD55:=by kernel_rfl
theorem cT55_u:okUn 50 8 ogl ⟨[102],cT55⟩:=okUn_f (by decide) (by have e:cT55.length=70:=rfl;unfold smallB;omega) (by kernel_rfl)
theorem cT55_b:okPb 50 8 (cPi cD55)=true:=by kernel_rfl
theorem cT55_r (a b:Int) (x:Bool) (h:cmF 5 a b=x):clF 10 (cPi cD55) [102] [⟨false,a,[]⟩,⟨false,b,[]⟩] ⟨[],[]⟩ 5=cOut (.ok x):=by refine ci_3 _ a b _ ?_;have h0:cdF (cPi cD55) cMi (cVi a b) cC5= .ok x:=(by rw[cC5_e,h]);refine(cd_or _ _ _ _ _ _ _ _ false (by kernel_rfl)).trans ?_;rw[if_neg (by decide)];exact h0
end Go.Proofs.Ytjnnmindcbgjhaa
