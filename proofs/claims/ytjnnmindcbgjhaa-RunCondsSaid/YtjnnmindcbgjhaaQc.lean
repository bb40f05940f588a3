/- RunConds, walked. Conditions: those of the parameters' types. -/
import Derived.Test.YtjnnmindcbgjhaaQc1
set_option linter.unusedVariables false
set_option linter.unusedSimpArgs false
namespace Go.Proofs.Ytjnnmindcbgjhaa
open Go Go.Sy Go.RowKit
theorem mod6 {n:Int} (h:0≤n):n.tmod 6=0∨n.tmod 6=1∨n.tmod 6=2∨n.tmod 6=3∨n.tmod 6=4∨n.tmod 6=5:=by rw[Int.tmod_eq_emod_of_nonneg h];omega
abbrev yc_RunConds (a:Int) (b:Int) (op:Int) (how:Int):Prop:=i64R a∧i64R b∧u8R op∧u8R how
abbrev yr_RunConds (a:Int) (b:Int) (op:Int) (how:Int):Value:=Value.bool true
attribute [local go_sem] cPg_d cPg_e cSta_d cSta_e cSta_n cVas_d cVas_d1 cVas_d2 cVas_e cVas_n ouC pgR pg_eta pqR stR yg_Call yg_one yp_known20 yr_known20
set_option maxRecDepth 20000 in set_option maxHeartbeats 64000000 in
theorem y_RunConds:CallsR Try.prog 6 (ahS ((cInt .i64).H) (ahS ((cInt .i64).H) (ahS ((cInt .u8).H) (ahS ((cInt .u8).H) ah0)))) (fun p:(Int×(Int×(Int×(Int×Unit))))=>yc_RunConds p.1 p.2.1 p.2.2.1 p.2.2.2.1) (fun p:(Int×(Int×(Int×(Int×Unit))))=>ofV (yr_RunConds p.1 p.2.1 p.2.2.1 p.2.2.2.1)):=by
 rintro ⟨a,b,op,how,_u⟩ w fz xs hc hfz hl hx
 refine calls_toRL Try.func6 rfl w fz [yp_known20,(yg_one 50 8 ogl (y_one 50 8 ogl)),(yg_Call 50 10 (y_Call 50 10))] [(7,[.flag 73])] (ahS ((cInt .i64).H) (ahS ((cInt .i64).H) (ahS ((cInt .u8).H) (ahS ((cInt .u8).H) ah0)))) (fun p:(Int×(Int×(Int×(Int×Unit))))=>ofV (yr_RunConds p.1 p.2.1 p.2.2.1 p.2.2.2.1)) _ xs hfz hl hx (Nat.le_of_ble_eq_true rfl) ?_
 clear hx hl hfz xs
 simp only[Try.f6]
 have ho:0≤op:=hc.2.2.1.1
 have hh:0≤how:=hc.2.2.2.1
 have hgu:=og_u
 rcases mod6 ho with hk|hk|hk|hk|hk|hk
 ·cases ha:(a==b) with
  |false=>
   have hx:cmF 0 a b=false:=by show (a==b)=_;rw[ha]
   rcases mod6 hh with hj|hj|hj|hj|hj|hj
   ·have he:=cT00_e
    have hu:=cT00_u
    have hr:=cPi_r _ cT00_b
    have h1:=cT00_r a b _ hx
    simp only[cT00]at he hu
    simp only[if_true,if_false,Bool.false_eq_true,Bool.not_true,Bool.not_false,cOut]at h1
    simp only[↓eB,seval,go_sem,hk,hj,he,h1,ha,beq_self_eq_true]
    refine⟨⟨hu,hgu⟩,hr _ 5 (Nat.le_of_ble_eq_true rfl) (by decide),?_⟩
    refine ret_with [] ?_;simp only[↓eB,seval,go_sem,bne,yr_RunConds]
   ·have he:=cT01_e
    have hu:=cT01_u
    have hr:=cPi_r _ cT01_b
    have h1:=cT01_r a b _ hx
    simp only[cT01]at he hu
    simp only[if_true,if_false,Bool.false_eq_true,Bool.not_true,Bool.not_false,cOut]at h1
    simp only[↓eB,seval,go_sem,hk,hj,he,h1,ha,beq_self_eq_true]
    refine⟨⟨hu,hgu⟩,hr _ 5 (Nat.le_of_ble_eq_true rfl) (by decide),?_⟩
    refine ret_with [] ?_;simp only[↓eB,seval,go_sem,bne,yr_RunConds]
   ·have he:=cT02_e
    have hu:=cT02_u
    have hr:=cPi_r _ cT02_b
    have h1:=cT02_r a b _ hx
    simp only[cT02]at he hu
    simp only[if_true,if_false,Bool.false_eq_true,Bool.not_true,Bool.not_false,cOut]at h1
    simp only[↓eB,seval,go_sem,hk,hj,he,h1,ha,beq_self_eq_true]
    refine⟨⟨hu,hgu⟩,hr _ 5 (Nat.le_of_ble_eq_true rfl) (by decide),?_⟩
    refine ret_with [] ?_;simp only[↓eB,seval,go_sem,bne,yr_RunConds]
   ·have he:=cT03_e
    have hu:=cT03_u
    have hr:=cPi_r _ cT03_b
    have h1:=cT03_r a b _ hx
    simp only[cT03]at he hu
    simp only[if_true,if_false,Bool.false_eq_true,Bool.not_true,Bool.not_false,cOut]at h1
    simp only[↓eB,seval,go_sem,hk,hj,he,h1,ha,beq_self_eq_true]
    refine⟨⟨hu,hgu⟩,hr _ 5 (Nat.le_of_ble_eq_true rfl) (by decide),?_⟩
    refine ret_with [] ?_;simp only[↓eB,seval,go_sem,bne,yr_RunConds]
   ·have he:=cT04_e
    have hu:=cT04_u
    have hr:=cPi_r _ cT04_b
    have h1:=cT04_r a b _ hx
    simp only[cT04]at he hu
    simp only[if_true,if_false,Bool.false_eq_true,Bool.not_true,Bool.not_false,cOut]at h1
    simp only[↓eB,seval,go_sem,hk,hj,he,h1,ha,beq_self_eq_true]
    refine⟨⟨hu,hgu⟩,hr _ 5 (Nat.le_of_ble_eq_true rfl) (by decide),?_⟩
    refine ret_with [] ?_;simp only[↓eB,seval,go_sem,bne,yr_RunConds]
   ·have he:=cT05_e
    have hu:=cT05_u
    have hr:=cPi_r _ cT05_b
    have h1:=cT05_r a b _ hx
    simp only[cT05]at he hu
    simp only[if_true,if_false,Bool.false_eq_true,Bool.not_true,Bool.not_false,cOut]at h1
    simp only[↓eB,seval,go_sem,hk,hj,he,h1,ha,beq_self_eq_true]
    refine⟨⟨hu,hgu⟩,hr _ 5 (Nat.le_of_ble_eq_true rfl) (by decide),?_⟩
    refine ret_with [] ?_;simp only[↓eB,seval,go_sem,bne,yr_RunConds]
  |true=>
   have hx:cmF 0 a b=true:=by show (a==b)=_;rw[ha]
   rcases mod6 hh with hj|hj|hj|hj|hj|hj
   ·have he:=cT00_e
    have hu:=cT00_u
    have hr:=cPi_r _ cT00_b
    have h1:=cT00_r a b _ hx
    simp only[cT00]at he hu
    simp only[if_true,if_false,Bool.false_eq_true,Bool.not_true,Bool.not_false,cOut]at h1
    simp only[↓eB,seval,go_sem,hk,hj,he,h1,ha,beq_self_eq_true]
    refine⟨⟨hu,hgu⟩,hr _ 5 (Nat.le_of_ble_eq_true rfl) (by decide),?_⟩
    refine ret_with [] ?_;simp only[↓eB,seval,go_sem,bne,yr_RunConds]
   ·have he:=cT01_e
    have hu:=cT01_u
    have hr:=cPi_r _ cT01_b
    have h1:=cT01_r a b _ hx
    simp only[cT01]at he hu
    simp only[if_true,if_false,Bool.false_eq_true,Bool.not_true,Bool.not_false,cOut]at h1
    simp only[↓eB,seval,go_sem,hk,hj,he,h1,ha,beq_self_eq_true]
    refine⟨⟨hu,hgu⟩,hr _ 5 (Nat.le_of_ble_eq_true rfl) (by decide),?_⟩
    refine ret_with [] ?_;simp only[↓eB,seval,go_sem,bne,yr_RunConds]
   ·have he:=cT02_e
    have hu:=cT02_u
    have hr:=cPi_r _ cT02_b
    have h1:=cT02_r a b _ hx
    simp only[cT02]at he hu
    simp only[if_true,if_false,Bool.false_eq_true,Bool.not_true,Bool.not_false,cOut]at h1
    simp only[↓eB,seval,go_sem,hk,hj,he,h1,ha,beq_self_eq_true]
    refine⟨⟨hu,hgu⟩,hr _ 5 (Nat.le_of_ble_eq_true rfl) (by decide),?_⟩
    refine ret_with [] ?_;simp only[↓eB,seval,go_sem,bne,yr_RunConds]
   ·have he:=cT03_e
    have hu:=cT03_u
    have hr:=cPi_r _ cT03_b
    have h1:=cT03_r a b _ hx
    simp only[cT03]at he hu
    simp only[if_true,if_false,Bool.false_eq_true,Bool.not_true,Bool.not_false,cOut]at h1
    simp only[↓eB,seval,go_sem,hk,hj,he,h1,ha,beq_self_eq_true]
    refine⟨⟨hu,hgu⟩,hr _ 5 (Nat.le_of_ble_eq_true rfl) (by decide),?_⟩
    refine ret_with [] ?_;simp only[↓eB,seval,go_sem,bne,yr_RunConds]
   ·have he:=cT04_e
    have hu:=cT04_u
    have hr:=cPi_r _ cT04_b
    have h1:=cT04_r a b _ hx
    simp only[cT04]at he hu
    simp only[if_true,if_false,Bool.false_eq_true,Bool.not_true,Bool.not_false,cOut]at h1
    simp only[↓eB,seval,go_sem,hk,hj,he,h1,ha,beq_self_eq_true]
    refine⟨⟨hu,hgu⟩,hr _ 5 (Nat.le_of_ble_eq_true rfl) (by decide),?_⟩
    refine ret_with [] ?_;simp only[↓eB,seval,go_sem,bne,yr_RunConds]
   ·have he:=cT05_e
    have hu:=cT05_u
    have hr:=cPi_r _ cT05_b
    have h1:=cT05_r a b _ hx
    simp only[cT05]at he hu
    simp only[if_true,if_false,Bool.false_eq_true,Bool.not_true,Bool.not_false,cOut]at h1
    simp only[↓eB,seval,go_sem,hk,hj,he,h1,ha,beq_self_eq_true]
    refine⟨⟨hu,hgu⟩,hr _ 5 (Nat.le_of_ble_eq_true rfl) (by decide),?_⟩
    refine ret_with [] ?_;simp only[↓eB,seval,go_sem,bne,yr_RunConds]
 ·cases ha:(a==b) with
  |false=>
   have hx:cmF 1 a b=true:=by show (!(a==b))=_;rw[ha];rfl
   have hn:(a != b)=true:=by simp[bne,ha]
   rcases mod6 hh with hj|hj|hj|hj|hj|hj
   ·have he:=cT10_e
    have hu:=cT10_u
    have hr:=cPi_r _ cT10_b
    have h1:=cT10_r a b _ hx
    simp only[cT10]at he hu
    simp only[if_true,if_false,Bool.false_eq_true,Bool.not_true,Bool.not_false,cOut]at h1
    simp only[↓eB,seval,go_sem,hk,hj,he,h1,ha,beq_self_eq_true,hn]
    refine⟨⟨hu,hgu⟩,hr _ 5 (Nat.le_of_ble_eq_true rfl) (by decide),?_⟩
    refine ret_with [] ?_;simp only[↓eB,seval,go_sem,bne,yr_RunConds]
   ·have he:=cT11_e
    have hu:=cT11_u
    have hr:=cPi_r _ cT11_b
    have h1:=cT11_r a b _ hx
    simp only[cT11]at he hu
    simp only[if_true,if_false,Bool.false_eq_true,Bool.not_true,Bool.not_false,cOut]at h1
    simp only[↓eB,seval,go_sem,hk,hj,he,h1,ha,beq_self_eq_true,hn]
    refine⟨⟨hu,hgu⟩,hr _ 5 (Nat.le_of_ble_eq_true rfl) (by decide),?_⟩
    refine ret_with [] ?_;simp only[↓eB,seval,go_sem,bne,yr_RunConds]
   ·have he:=cT12_e
    have hu:=cT12_u
    have hr:=cPi_r _ cT12_b
    have h1:=cT12_r a b _ hx
    simp only[cT12]at he hu
    simp only[if_true,if_false,Bool.false_eq_true,Bool.not_true,Bool.not_false,cOut]at h1
    simp only[↓eB,seval,go_sem,hk,hj,he,h1,ha,beq_self_eq_true,hn]
    refine⟨⟨hu,hgu⟩,hr _ 5 (Nat.le_of_ble_eq_true rfl) (by decide),?_⟩
    refine ret_with [] ?_;simp only[↓eB,seval,go_sem,bne,yr_RunConds]
   ·have he:=cT13_e
    have hu:=cT13_u
    have hr:=cPi_r _ cT13_b
    have h1:=cT13_r a b _ hx
    simp only[cT13]at he hu
    simp only[if_true,if_false,Bool.false_eq_true,Bool.not_true,Bool.not_false,cOut]at h1
    simp only[↓eB,seval,go_sem,hk,hj,he,h1,ha,beq_self_eq_true,hn]
    refine⟨⟨hu,hgu⟩,hr _ 5 (Nat.le_of_ble_eq_true rfl) (by decide),?_⟩
    refine ret_with [] ?_;simp only[↓eB,seval,go_sem,bne,yr_RunConds]
   ·have he:=cT14_e
    have hu:=cT14_u
    have hr:=cPi_r _ cT14_b
    have h1:=cT14_r a b _ hx
    simp only[cT14]at he hu
    simp only[if_true,if_false,Bool.false_eq_true,Bool.not_true,Bool.not_false,cOut]at h1
    simp only[↓eB,seval,go_sem,hk,hj,he,h1,ha,beq_self_eq_true,hn]
    refine⟨⟨hu,hgu⟩,hr _ 5 (Nat.le_of_ble_eq_true rfl) (by decide),?_⟩
    refine ret_with [] ?_;simp only[↓eB,seval,go_sem,bne,yr_RunConds]
   ·have he:=cT15_e
    have hu:=cT15_u
    have hr:=cPi_r _ cT15_b
    have h1:=cT15_r a b _ hx
    simp only[cT15]at he hu
    simp only[if_true,if_false,Bool.false_eq_true,Bool.not_true,Bool.not_false,cOut]at h1
    simp only[↓eB,seval,go_sem,hk,hj,he,h1,ha,beq_self_eq_true,hn]
    refine⟨⟨hu,hgu⟩,hr _ 5 (Nat.le_of_ble_eq_true rfl) (by decide),?_⟩
    refine ret_with [] ?_;simp only[↓eB,seval,go_sem,bne,yr_RunConds]
  |true=>
   have hx:cmF 1 a b=false:=by show (!(a==b))=_;rw[ha];rfl
   have hn:(a != b)=false:=by simp[bne,ha]
   rcases mod6 hh with hj|hj|hj|hj|hj|hj
   ·have he:=cT10_e
    have hu:=cT10_u
    have hr:=cPi_r _ cT10_b
    have h1:=cT10_r a b _ hx
    simp only[cT10]at he hu
    simp only[if_true,if_false,Bool.false_eq_true,Bool.not_true,Bool.not_false,cOut]at h1
    simp only[↓eB,seval,go_sem,hk,hj,he,h1,ha,beq_self_eq_true,hn]
    refine⟨⟨hu,hgu⟩,hr _ 5 (Nat.le_of_ble_eq_true rfl) (by decide),?_⟩
    refine ret_with [] ?_;simp only[↓eB,seval,go_sem,bne,yr_RunConds]
   ·have he:=cT11_e
    have hu:=cT11_u
    have hr:=cPi_r _ cT11_b
    have h1:=cT11_r a b _ hx
    simp only[cT11]at he hu
    simp only[if_true,if_false,Bool.false_eq_true,Bool.not_true,Bool.not_false,cOut]at h1
    simp only[↓eB,seval,go_sem,hk,hj,he,h1,ha,beq_self_eq_true,hn]
    refine⟨⟨hu,hgu⟩,hr _ 5 (Nat.le_of_ble_eq_true rfl) (by decide),?_⟩
    refine ret_with [] ?_;simp only[↓eB,seval,go_sem,bne,yr_RunConds]
   ·have he:=cT12_e
    have hu:=cT12_u
    have hr:=cPi_r _ cT12_b
    have h1:=cT12_r a b _ hx
    simp only[cT12]at he hu
    simp only[if_true,if_false,Bool.false_eq_true,Bool.not_true,Bool.not_false,cOut]at h1
    simp only[↓eB,seval,go_sem,hk,hj,he,h1,ha,beq_self_eq_true,hn]
    refine⟨⟨hu,hgu⟩,hr _ 5 (Nat.le_of_ble_eq_true rfl) (by decide),?_⟩
    refine ret_with [] ?_;simp only[↓eB,seval,go_sem,bne,yr_RunConds]
   ·have he:=cT13_e
    have hu:=cT13_u
    have hr:=cPi_r _ cT13_b
    have h1:=cT13_r a b _ hx
    simp only[cT13]at he hu
    simp only[if_true,if_false,Bool.false_eq_true,Bool.not_true,Bool.not_false,cOut]at h1
    simp only[↓eB,seval,go_sem,hk,hj,he,h1,ha,beq_self_eq_true,hn]
    refine⟨⟨hu,hgu⟩,hr _ 5 (Nat.le_of_ble_eq_true rfl) (by decide),?_⟩
    refine ret_with [] ?_;simp only[↓eB,seval,go_sem,bne,yr_RunConds]
   ·have he:=cT14_e
    have hu:=cT14_u
    have hr:=cPi_r _ cT14_b
    have h1:=cT14_r a b _ hx
    simp only[cT14]at he hu
    simp only[if_true,if_false,Bool.false_eq_true,Bool.not_true,Bool.not_false,cOut]at h1
    simp only[↓eB,seval,go_sem,hk,hj,he,h1,ha,beq_self_eq_true,hn]
    refine⟨⟨hu,hgu⟩,hr _ 5 (Nat.le_of_ble_eq_true rfl) (by decide),?_⟩
    refine ret_with [] ?_;simp only[↓eB,seval,go_sem,bne,yr_RunConds]
   ·have he:=cT15_e
    have hu:=cT15_u
    have hr:=cPi_r _ cT15_b
    have h1:=cT15_r a b _ hx
    simp only[cT15]at he hu
    simp only[if_true,if_false,Bool.false_eq_true,Bool.not_true,Bool.not_false,cOut]at h1
    simp only[↓eB,seval,go_sem,hk,hj,he,h1,ha,beq_self_eq_true,hn]
    refine⟨⟨hu,hgu⟩,hr _ 5 (Nat.le_of_ble_eq_true rfl) (by decide),?_⟩
    refine ret_with [] ?_;simp only[↓eB,seval,go_sem,bne,yr_RunConds]
 ·cases ha:decide (a<b) with
  |false=>
   have hx:cmF 2 a b=false:=by show decide (a<b)=_;rw[ha]
   rcases mod6 hh with hj|hj|hj|hj|hj|hj
   ·have he:=cT20_e
    have hu:=cT20_u
    have hr:=cPi_r _ cT20_b
    have h1:=cT20_r a b _ hx
    simp only[cT20]at he hu
    simp only[if_true,if_false,Bool.false_eq_true,Bool.not_true,Bool.not_false,cOut]at h1
    simp only[↓eB,seval,go_sem,hk,hj,he,h1,ha,beq_self_eq_true]
    refine⟨⟨hu,hgu⟩,hr _ 5 (Nat.le_of_ble_eq_true rfl) (by decide),?_⟩
    refine ret_with [] ?_;simp only[↓eB,seval,go_sem,bne,yr_RunConds]
   ·have he:=cT21_e
    have hu:=cT21_u
    have hr:=cPi_r _ cT21_b
    have h1:=cT21_r a b _ hx
    simp only[cT21]at he hu
    simp only[if_true,if_false,Bool.false_eq_true,Bool.not_true,Bool.not_false,cOut]at h1
    simp only[↓eB,seval,go_sem,hk,hj,he,h1,ha,beq_self_eq_true]
    refine⟨⟨hu,hgu⟩,hr _ 5 (Nat.le_of_ble_eq_true rfl) (by decide),?_⟩
    refine ret_with [] ?_;simp only[↓eB,seval,go_sem,bne,yr_RunConds]
   ·have he:=cT22_e
    have hu:=cT22_u
    have hr:=cPi_r _ cT22_b
    have h1:=cT22_r a b _ hx
    simp only[cT22]at he hu
    simp only[if_true,if_false,Bool.false_eq_true,Bool.not_true,Bool.not_false,cOut]at h1
    simp only[↓eB,seval,go_sem,hk,hj,he,h1,ha,beq_self_eq_true]
    refine⟨⟨hu,hgu⟩,hr _ 5 (Nat.le_of_ble_eq_true rfl) (by decide),?_⟩
    refine ret_with [] ?_;simp only[↓eB,seval,go_sem,bne,yr_RunConds]
   ·have he:=cT23_e
    have hu:=cT23_u
    have hr:=cPi_r _ cT23_b
    have h1:=cT23_r a b _ hx
    simp only[cT23]at he hu
    simp only[if_true,if_false,Bool.false_eq_true,Bool.not_true,Bool.not_false,cOut]at h1
    simp only[↓eB,seval,go_sem,hk,hj,he,h1,ha,beq_self_eq_true]
    refine⟨⟨hu,hgu⟩,hr _ 5 (Nat.le_of_ble_eq_true rfl) (by decide),?_⟩
    refine ret_with [] ?_;simp only[↓eB,seval,go_sem,bne,yr_RunConds]
   ·have he:=cT24_e
    have hu:=cT24_u
    have hr:=cPi_r _ cT24_b
    have h1:=cT24_r a b _ hx
    simp only[cT24]at he hu
    simp only[if_true,if_false,Bool.false_eq_true,Bool.not_true,Bool.not_false,cOut]at h1
    simp only[↓eB,seval,go_sem,hk,hj,he,h1,ha,beq_self_eq_true]
    refine⟨⟨hu,hgu⟩,hr _ 5 (Nat.le_of_ble_eq_true rfl) (by decide),?_⟩
    refine ret_with [] ?_;simp only[↓eB,seval,go_sem,bne,yr_RunConds]
   ·have he:=cT25_e
    have hu:=cT25_u
    have hr:=cPi_r _ cT25_b
    have h1:=cT25_r a b _ hx
    simp only[cT25]at he hu
    simp only[if_true,if_false,Bool.false_eq_true,Bool.not_true,Bool.not_false,cOut]at h1
    simp only[↓eB,seval,go_sem,hk,hj,he,h1,ha,beq_self_eq_true]
    refine⟨⟨hu,hgu⟩,hr _ 5 (Nat.le_of_ble_eq_true rfl) (by decide),?_⟩
    refine ret_with [] ?_;simp only[↓eB,seval,go_sem,bne,yr_RunConds]
  |true=>
   have hx:cmF 2 a b=true:=by show decide (a<b)=_;rw[ha]
   rcases mod6 hh with hj|hj|hj|hj|hj|hj
   ·have he:=cT20_e
    have hu:=cT20_u
    have hr:=cPi_r _ cT20_b
    have h1:=cT20_r a b _ hx
    simp only[cT20]at he hu
    simp only[if_true,if_false,Bool.false_eq_true,Bool.not_true,Bool.not_false,cOut]at h1
    simp only[↓eB,seval,go_sem,hk,hj,he,h1,ha,beq_self_eq_true]
    refine⟨⟨hu,hgu⟩,hr _ 5 (Nat.le_of_ble_eq_true rfl) (by decide),?_⟩
    refine ret_with [] ?_;simp only[↓eB,seval,go_sem,bne,yr_RunConds]
   ·have he:=cT21_e
    have hu:=cT21_u
    have hr:=cPi_r _ cT21_b
    have h1:=cT21_r a b _ hx
    simp only[cT21]at he hu
    simp only[if_true,if_false,Bool.false_eq_true,Bool.not_true,Bool.not_false,cOut]at h1
    simp only[↓eB,seval,go_sem,hk,hj,he,h1,ha,beq_self_eq_true]
    refine⟨⟨hu,hgu⟩,hr _ 5 (Nat.le_of_ble_eq_true rfl) (by decide),?_⟩
    refine ret_with [] ?_;simp only[↓eB,seval,go_sem,bne,yr_RunConds]
   ·have he:=cT22_e
    have hu:=cT22_u
    have hr:=cPi_r _ cT22_b
    have h1:=cT22_r a b _ hx
    simp only[cT22]at he hu
    simp only[if_true,if_false,Bool.false_eq_true,Bool.not_true,Bool.not_false,cOut]at h1
    simp only[↓eB,seval,go_sem,hk,hj,he,h1,ha,beq_self_eq_true]
    refine⟨⟨hu,hgu⟩,hr _ 5 (Nat.le_of_ble_eq_true rfl) (by decide),?_⟩
    refine ret_with [] ?_;simp only[↓eB,seval,go_sem,bne,yr_RunConds]
   ·have he:=cT23_e
    have hu:=cT23_u
    have hr:=cPi_r _ cT23_b
    have h1:=cT23_r a b _ hx
    simp only[cT23]at he hu
    simp only[if_true,if_false,Bool.false_eq_true,Bool.not_true,Bool.not_false,cOut]at h1
    simp only[↓eB,seval,go_sem,hk,hj,he,h1,ha,beq_self_eq_true]
    refine⟨⟨hu,hgu⟩,hr _ 5 (Nat.le_of_ble_eq_true rfl) (by decide),?_⟩
    refine ret_with [] ?_;simp only[↓eB,seval,go_sem,bne,yr_RunConds]
   ·have he:=cT24_e
    have hu:=cT24_u
    have hr:=cPi_r _ cT24_b
    have h1:=cT24_r a b _ hx
    simp only[cT24]at he hu
    simp only[if_true,if_false,Bool.false_eq_true,Bool.not_true,Bool.not_false,cOut]at h1
    simp only[↓eB,seval,go_sem,hk,hj,he,h1,ha,beq_self_eq_true]
    refine⟨⟨hu,hgu⟩,hr _ 5 (Nat.le_of_ble_eq_true rfl) (by decide),?_⟩
    refine ret_with [] ?_;simp only[↓eB,seval,go_sem,bne,yr_RunConds]
   ·have he:=cT25_e
    have hu:=cT25_u
    have hr:=cPi_r _ cT25_b
    have h1:=cT25_r a b _ hx
    simp only[cT25]at he hu
    simp only[if_true,if_false,Bool.false_eq_true,Bool.not_true,Bool.not_false,cOut]at h1
    simp only[↓eB,seval,go_sem,hk,hj,he,h1,ha,beq_self_eq_true]
    refine⟨⟨hu,hgu⟩,hr _ 5 (Nat.le_of_ble_eq_true rfl) (by decide),?_⟩
    refine ret_with [] ?_;simp only[↓eB,seval,go_sem,bne,yr_RunConds]
 ·cases ha:decide (a≤b) with
  |false=>
   have hx:cmF 3 a b=false:=by show decide (a≤b)=_;rw[ha]
   rcases mod6 hh with hj|hj|hj|hj|hj|hj
   ·have he:=cT30_e
    have hu:=cT30_u
    have hr:=cPi_r _ cT30_b
    have h1:=cT30_r a b _ hx
    simp only[cT30]at he hu
    simp only[if_true,if_false,Bool.false_eq_true,Bool.not_true,Bool.not_false,cOut]at h1
    simp only[↓eB,seval,go_sem,hk,hj,he,h1,ha,beq_self_eq_true]
    refine⟨⟨hu,hgu⟩,hr _ 5 (Nat.le_of_ble_eq_true rfl) (by decide),?_⟩
    refine ret_with [] ?_;simp only[↓eB,seval,go_sem,bne,yr_RunConds]
   ·have he:=cT31_e
    have hu:=cT31_u
    have hr:=cPi_r _ cT31_b
    have h1:=cT31_r a b _ hx
    simp only[cT31]at he hu
    simp only[if_true,if_false,Bool.false_eq_true,Bool.not_true,Bool.not_false,cOut]at h1
    simp only[↓eB,seval,go_sem,hk,hj,he,h1,ha,beq_self_eq_true]
    refine⟨⟨hu,hgu⟩,hr _ 5 (Nat.le_of_ble_eq_true rfl) (by decide),?_⟩
    refine ret_with [] ?_;simp only[↓eB,seval,go_sem,bne,yr_RunConds]
   ·have he:=cT32_e
    have hu:=cT32_u
    have hr:=cPi_r _ cT32_b
    have h1:=cT32_r a b _ hx
    simp only[cT32]at he hu
    simp only[if_true,if_false,Bool.false_eq_true,Bool.not_true,Bool.not_false,cOut]at h1
    simp only[↓eB,seval,go_sem,hk,hj,he,h1,ha,beq_self_eq_true]
    refine⟨⟨hu,hgu⟩,hr _ 5 (Nat.le_of_ble_eq_true rfl) (by decide),?_⟩
    refine ret_with [] ?_;simp only[↓eB,seval,go_sem,bne,yr_RunConds]
   ·have he:=cT33_e
    have hu:=cT33_u
    have hr:=cPi_r _ cT33_b
    have h1:=cT33_r a b _ hx
    simp only[cT33]at he hu
    simp only[if_true,if_false,Bool.false_eq_true,Bool.not_true,Bool.not_false,cOut]at h1
    simp only[↓eB,seval,go_sem,hk,hj,he,h1,ha,beq_self_eq_true]
    refine⟨⟨hu,hgu⟩,hr _ 5 (Nat.le_of_ble_eq_true rfl) (by decide),?_⟩
    refine ret_with [] ?_;simp only[↓eB,seval,go_sem,bne,yr_RunConds]
   ·have he:=cT34_e
    have hu:=cT34_u
    have hr:=cPi_r _ cT34_b
    have h1:=cT34_r a b _ hx
    simp only[cT34]at he hu
    simp only[if_true,if_false,Bool.false_eq_true,Bool.not_true,Bool.not_false,cOut]at h1
    simp only[↓eB,seval,go_sem,hk,hj,he,h1,ha,beq_self_eq_true]
    refine⟨⟨hu,hgu⟩,hr _ 5 (Nat.le_of_ble_eq_true rfl) (by decide),?_⟩
    refine ret_with [] ?_;simp only[↓eB,seval,go_sem,bne,yr_RunConds]
   ·have he:=cT35_e
    have hu:=cT35_u
    have hr:=cPi_r _ cT35_b
    have h1:=cT35_r a b _ hx
    simp only[cT35]at he hu
    simp only[if_true,if_false,Bool.false_eq_true,Bool.not_true,Bool.not_false,cOut]at h1
    simp only[↓eB,seval,go_sem,hk,hj,he,h1,ha,beq_self_eq_true]
    refine⟨⟨hu,hgu⟩,hr _ 5 (Nat.le_of_ble_eq_true rfl) (by decide),?_⟩
    refine ret_with [] ?_;simp only[↓eB,seval,go_sem,bne,yr_RunConds]
  |true=>
   have hx:cmF 3 a b=true:=by show decide (a≤b)=_;rw[ha]
   rcases mod6 hh with hj|hj|hj|hj|hj|hj
   ·have he:=cT30_e
    have hu:=cT30_u
    have hr:=cPi_r _ cT30_b
    have h1:=cT30_r a b _ hx
    simp only[cT30]at he hu
    simp only[if_true,if_false,Bool.false_eq_true,Bool.not_true,Bool.not_false,cOut]at h1
    simp only[↓eB,seval,go_sem,hk,hj,he,h1,ha,beq_self_eq_true]
    refine⟨⟨hu,hgu⟩,hr _ 5 (Nat.le_of_ble_eq_true rfl) (by decide),?_⟩
    refine ret_with [] ?_;simp only[↓eB,seval,go_sem,bne,yr_RunConds]
   ·have he:=cT31_e
    have hu:=cT31_u
    have hr:=cPi_r _ cT31_b
    have h1:=cT31_r a b _ hx
    simp only[cT31]at he hu
    simp only[if_true,if_false,Bool.false_eq_true,Bool.not_true,Bool.not_false,cOut]at h1
    simp only[↓eB,seval,go_sem,hk,hj,he,h1,ha,beq_self_eq_true]
    refine⟨⟨hu,hgu⟩,hr _ 5 (Nat.le_of_ble_eq_true rfl) (by decide),?_⟩
    refine ret_with [] ?_;simp only[↓eB,seval,go_sem,bne,yr_RunConds]
   ·have he:=cT32_e
    have hu:=cT32_u
    have hr:=cPi_r _ cT32_b
    have h1:=cT32_r a b _ hx
    simp only[cT32]at he hu
    simp only[if_true,if_false,Bool.false_eq_true,Bool.not_true,Bool.not_false,cOut]at h1
    simp only[↓eB,seval,go_sem,hk,hj,he,h1,ha,beq_self_eq_true]
    refine⟨⟨hu,hgu⟩,hr _ 5 (Nat.le_of_ble_eq_true rfl) (by decide),?_⟩
    refine ret_with [] ?_;simp only[↓eB,seval,go_sem,bne,yr_RunConds]
   ·have he:=cT33_e
    have hu:=cT33_u
    have hr:=cPi_r _ cT33_b
    have h1:=cT33_r a b _ hx
    simp only[cT33]at he hu
    simp only[if_true,if_false,Bool.false_eq_true,Bool.not_true,Bool.not_false,cOut]at h1
    simp only[↓eB,seval,go_sem,hk,hj,he,h1,ha,beq_self_eq_true]
    refine⟨⟨hu,hgu⟩,hr _ 5 (Nat.le_of_ble_eq_true rfl) (by decide),?_⟩
    refine ret_with [] ?_;simp only[↓eB,seval,go_sem,bne,yr_RunConds]
   ·have he:=cT34_e
    have hu:=cT34_u
    have hr:=cPi_r _ cT34_b
    have h1:=cT34_r a b _ hx
    simp only[cT34]at he hu
    simp only[if_true,if_false,Bool.false_eq_true,Bool.not_true,Bool.not_false,cOut]at h1
    simp only[↓eB,seval,go_sem,hk,hj,he,h1,ha,beq_self_eq_true]
    refine⟨⟨hu,hgu⟩,hr _ 5 (Nat.le_of_ble_eq_true rfl) (by decide),?_⟩
    refine ret_with [] ?_;simp only[↓eB,seval,go_sem,bne,yr_RunConds]
   ·have he:=cT35_e
    have hu:=cT35_u
    have hr:=cPi_r _ cT35_b
    have h1:=cT35_r a b _ hx
    simp only[cT35]at he hu
    simp only[if_true,if_false,Bool.false_eq_true,Bool.not_true,Bool.not_false,cOut]at h1
    simp only[↓eB,seval,go_sem,hk,hj,he,h1,ha,beq_self_eq_true]
    refine⟨⟨hu,hgu⟩,hr _ 5 (Nat.le_of_ble_eq_true rfl) (by decide),?_⟩
    refine ret_with [] ?_;simp only[↓eB,seval,go_sem,bne,yr_RunConds]
 ·cases ha:decide (b<a) with
  |false=>
   have hx:cmF 4 a b=false:=by show decide (b<a)=_;rw[ha]
   rcases mod6 hh with hj|hj|hj|hj|hj|hj
   ·have he:=cT40_e
    have hu:=cT40_u
    have hr:=cPi_r _ cT40_b
    have h1:=cT40_r a b _ hx
    simp only[cT40]at he hu
    simp only[if_true,if_false,Bool.false_eq_true,Bool.not_true,Bool.not_false,cOut]at h1
    simp only[↓eB,seval,go_sem,hk,hj,he,h1,ha,beq_self_eq_true]
    refine⟨⟨hu,hgu⟩,hr _ 5 (Nat.le_of_ble_eq_true rfl) (by decide),?_⟩
    refine ret_with [] ?_;simp only[↓eB,seval,go_sem,bne,yr_RunConds]
   ·have he:=cT41_e
    have hu:=cT41_u
    have hr:=cPi_r _ cT41_b
    have h1:=cT41_r a b _ hx
    simp only[cT41]at he hu
    simp only[if_true,if_false,Bool.false_eq_true,Bool.not_true,Bool.not_false,cOut]at h1
    simp only[↓eB,seval,go_sem,hk,hj,he,h1,ha,beq_self_eq_true]
    refine⟨⟨hu,hgu⟩,hr _ 5 (Nat.le_of_ble_eq_true rfl) (by decide),?_⟩
    refine ret_with [] ?_;simp only[↓eB,seval,go_sem,bne,yr_RunConds]
   ·have he:=cT42_e
    have hu:=cT42_u
    have hr:=cPi_r _ cT42_b
    have h1:=cT42_r a b _ hx
    simp only[cT42]at he hu
    simp only[if_true,if_false,Bool.false_eq_true,Bool.not_true,Bool.not_false,cOut]at h1
    simp only[↓eB,seval,go_sem,hk,hj,he,h1,ha,beq_self_eq_true]
    refine⟨⟨hu,hgu⟩,hr _ 5 (Nat.le_of_ble_eq_true rfl) (by decide),?_⟩
    refine ret_with [] ?_;simp only[↓eB,seval,go_sem,bne,yr_RunConds]
   ·have he:=cT43_e
    have hu:=cT43_u
    have hr:=cPi_r _ cT43_b
    have h1:=cT43_r a b _ hx
    simp only[cT43]at he hu
    simp only[if_true,if_false,Bool.false_eq_true,Bool.not_true,Bool.not_false,cOut]at h1
    simp only[↓eB,seval,go_sem,hk,hj,he,h1,ha,beq_self_eq_true]
    refine⟨⟨hu,hgu⟩,hr _ 5 (Nat.le_of_ble_eq_true rfl) (by decide),?_⟩
    refine ret_with [] ?_;simp only[↓eB,seval,go_sem,bne,yr_RunConds]
   ·have he:=cT44_e
    have hu:=cT44_u
    have hr:=cPi_r _ cT44_b
    have h1:=cT44_r a b _ hx
    simp only[cT44]at he hu
    simp only[if_true,if_false,Bool.false_eq_true,Bool.not_true,Bool.not_false,cOut]at h1
    simp only[↓eB,seval,go_sem,hk,hj,he,h1,ha,beq_self_eq_true]
    refine⟨⟨hu,hgu⟩,hr _ 5 (Nat.le_of_ble_eq_true rfl) (by decide),?_⟩
    refine ret_with [] ?_;simp only[↓eB,seval,go_sem,bne,yr_RunConds]
   ·have he:=cT45_e
    have hu:=cT45_u
    have hr:=cPi_r _ cT45_b
    have h1:=cT45_r a b _ hx
    simp only[cT45]at he hu
    simp only[if_true,if_false,Bool.false_eq_true,Bool.not_true,Bool.not_false,cOut]at h1
    simp only[↓eB,seval,go_sem,hk,hj,he,h1,ha,beq_self_eq_true]
    refine⟨⟨hu,hgu⟩,hr _ 5 (Nat.le_of_ble_eq_true rfl) (by decide),?_⟩
    refine ret_with [] ?_;simp only[↓eB,seval,go_sem,bne,yr_RunConds]
  |true=>
   have hx:cmF 4 a b=true:=by show decide (b<a)=_;rw[ha]
   rcases mod6 hh with hj|hj|hj|hj|hj|hj
   ·have he:=cT40_e
    have hu:=cT40_u
    have hr:=cPi_r _ cT40_b
    have h1:=cT40_r a b _ hx
    simp only[cT40]at he hu
    simp only[if_true,if_false,Bool.false_eq_true,Bool.not_true,Bool.not_false,cOut]at h1
    simp only[↓eB,seval,go_sem,hk,hj,he,h1,ha,beq_self_eq_true]
    refine⟨⟨hu,hgu⟩,hr _ 5 (Nat.le_of_ble_eq_true rfl) (by decide),?_⟩
    refine ret_with [] ?_;simp only[↓eB,seval,go_sem,bne,yr_RunConds]
   ·have he:=cT41_e
    have hu:=cT41_u
    have hr:=cPi_r _ cT41_b
    have h1:=cT41_r a b _ hx
    simp only[cT41]at he hu
    simp only[if_true,if_false,Bool.false_eq_true,Bool.not_true,Bool.not_false,cOut]at h1
    simp only[↓eB,seval,go_sem,hk,hj,he,h1,ha,beq_self_eq_true]
    refine⟨⟨hu,hgu⟩,hr _ 5 (Nat.le_of_ble_eq_true rfl) (by decide),?_⟩
    refine ret_with [] ?_;simp only[↓eB,seval,go_sem,bne,yr_RunConds]
   ·have he:=cT42_e
    have hu:=cT42_u
    have hr:=cPi_r _ cT42_b
    have h1:=cT42_r a b _ hx
    simp only[cT42]at he hu
    simp only[if_true,if_false,Bool.false_eq_true,Bool.not_true,Bool.not_false,cOut]at h1
    simp only[↓eB,seval,go_sem,hk,hj,he,h1,ha,beq_self_eq_true]
    refine⟨⟨hu,hgu⟩,hr _ 5 (Nat.le_of_ble_eq_true rfl) (by decide),?_⟩
    refine ret_with [] ?_;simp only[↓eB,seval,go_sem,bne,yr_RunConds]
   ·have he:=cT43_e
    have hu:=cT43_u
    have hr:=cPi_r _ cT43_b
    have h1:=cT43_r a b _ hx
    simp only[cT43]at he hu
    simp only[if_true,if_false,Bool.false_eq_true,Bool.not_true,Bool.not_false,cOut]at h1
    simp only[↓eB,seval,go_sem,hk,hj,he,h1,ha,beq_self_eq_true]
    refine⟨⟨hu,hgu⟩,hr _ 5 (Nat.le_of_ble_eq_true rfl) (by decide),?_⟩
    refine ret_with [] ?_;simp only[↓eB,seval,go_sem,bne,yr_RunConds]
   ·have he:=cT44_e
    have hu:=cT44_u
    have hr:=cPi_r _ cT44_b
    have h1:=cT44_r a b _ hx
    simp only[cT44]at he hu
    simp only[if_true,if_false,Bool.false_eq_true,Bool.not_true,Bool.not_false,cOut]at h1
    simp only[↓eB,seval,go_sem,hk,hj,he,h1,ha,beq_self_eq_true]
    refine⟨⟨hu,hgu⟩,hr _ 5 (Nat.le_of_ble_eq_true rfl) (by decide),?_⟩
    refine ret_with [] ?_;simp only[↓eB,seval,go_sem,bne,yr_RunConds]
   ·have he:=cT45_e
    have hu:=cT45_u
    have hr:=cPi_r _ cT45_b
    have h1:=cT45_r a b _ hx
    simp only[cT45]at he hu
    simp only[if_true,if_false,Bool.false_eq_true,Bool.not_true,Bool.not_false,cOut]at h1
    simp only[↓eB,seval,go_sem,hk,hj,he,h1,ha,beq_self_eq_true]
    refine⟨⟨hu,hgu⟩,hr _ 5 (Nat.le_of_ble_eq_true rfl) (by decide),?_⟩
    refine ret_with [] ?_;simp only[↓eB,seval,go_sem,bne,yr_RunConds]
 ·cases ha:decide (b≤a) with
  |false=>
   have hx:cmF 5 a b=false:=by show decide (b≤a)=_;rw[ha]
   rcases mod6 hh with hj|hj|hj|hj|hj|hj
   ·have he:=cT50_e
    have hu:=cT50_u
    have hr:=cPi_r _ cT50_b
    have h1:=cT50_r a b _ hx
    simp only[cT50]at he hu
    simp only[if_true,if_false,Bool.false_eq_true,Bool.not_true,Bool.not_false,cOut]at h1
    simp only[↓eB,seval,go_sem,hk,hj,he,h1,ha,beq_self_eq_true]
    refine⟨⟨hu,hgu⟩,hr _ 5 (Nat.le_of_ble_eq_true rfl) (by decide),?_⟩
    refine ret_with [] ?_;simp only[↓eB,seval,go_sem,bne,yr_RunConds]
   ·have he:=cT51_e
    have hu:=cT51_u
    have hr:=cPi_r _ cT51_b
    have h1:=cT51_r a b _ hx
    simp only[cT51]at he hu
    simp only[if_true,if_false,Bool.false_eq_true,Bool.not_true,Bool.not_false,cOut]at h1
    simp only[↓eB,seval,go_sem,hk,hj,he,h1,ha,beq_self_eq_true]
    refine⟨⟨hu,hgu⟩,hr _ 5 (Nat.le_of_ble_eq_true rfl) (by decide),?_⟩
    refine ret_with [] ?_;simp only[↓eB,seval,go_sem,bne,yr_RunConds]
   ·have he:=cT52_e
    have hu:=cT52_u
    have hr:=cPi_r _ cT52_b
    have h1:=cT52_r a b _ hx
    simp only[cT52]at he hu
    simp only[if_true,if_false,Bool.false_eq_true,Bool.not_true,Bool.not_false,cOut]at h1
    simp only[↓eB,seval,go_sem,hk,hj,he,h1,ha,beq_self_eq_true]
    refine⟨⟨hu,hgu⟩,hr _ 5 (Nat.le_of_ble_eq_true rfl) (by decide),?_⟩
    refine ret_with [] ?_;simp only[↓eB,seval,go_sem,bne,yr_RunConds]
   ·have he:=cT53_e
    have hu:=cT53_u
    have hr:=cPi_r _ cT53_b
    have h1:=cT53_r a b _ hx
    simp only[cT53]at he hu
    simp only[if_true,if_false,Bool.false_eq_true,Bool.not_true,Bool.not_false,cOut]at h1
    simp only[↓eB,seval,go_sem,hk,hj,he,h1,ha,beq_self_eq_true]
    refine⟨⟨hu,hgu⟩,hr _ 5 (Nat.le_of_ble_eq_true rfl) (by decide),?_⟩
    refine ret_with [] ?_;simp only[↓eB,seval,go_sem,bne,yr_RunConds]
   ·have he:=cT54_e
    have hu:=cT54_u
    have hr:=cPi_r _ cT54_b
    have h1:=cT54_r a b _ hx
    simp only[cT54]at he hu
    simp only[if_true,if_false,Bool.false_eq_true,Bool.not_true,Bool.not_false,cOut]at h1
    simp only[↓eB,seval,go_sem,hk,hj,he,h1,ha,beq_self_eq_true]
    refine⟨⟨hu,hgu⟩,hr _ 5 (Nat.le_of_ble_eq_true rfl) (by decide),?_⟩
    refine ret_with [] ?_;simp only[↓eB,seval,go_sem,bne,yr_RunConds]
   ·have he:=cT55_e
    have hu:=cT55_u
    have hr:=cPi_r _ cT55_b
    have h1:=cT55_r a b _ hx
    simp only[cT55]at he hu
    simp only[if_true,if_false,Bool.false_eq_true,Bool.not_true,Bool.not_false,cOut]at h1
    simp only[↓eB,seval,go_sem,hk,hj,he,h1,ha,beq_self_eq_true]
    refine⟨⟨hu,hgu⟩,hr _ 5 (Nat.le_of_ble_eq_true rfl) (by decide),?_⟩
    refine ret_with [] ?_;simp only[↓eB,seval,go_sem,bne,yr_RunConds]
  |true=>
   have hx:cmF 5 a b=true:=by show decide (b≤a)=_;rw[ha]
   rcases mod6 hh with hj|hj|hj|hj|hj|hj
   ·have he:=cT50_e
    have hu:=cT50_u
    have hr:=cPi_r _ cT50_b
    have h1:=cT50_r a b _ hx
    simp only[cT50]at he hu
    simp only[if_true,if_false,Bool.false_eq_true,Bool.not_true,Bool.not_false,cOut]at h1
    simp only[↓eB,seval,go_sem,hk,hj,he,h1,ha,beq_self_eq_true]
    refine⟨⟨hu,hgu⟩,hr _ 5 (Nat.le_of_ble_eq_true rfl) (by decide),?_⟩
    refine ret_with [] ?_;simp only[↓eB,seval,go_sem,bne,yr_RunConds]
   ·have he:=cT51_e
    have hu:=cT51_u
    have hr:=cPi_r _ cT51_b
    have h1:=cT51_r a b _ hx
    simp only[cT51]at he hu
    simp only[if_true,if_false,Bool.false_eq_true,Bool.not_true,Bool.not_false,cOut]at h1
    simp only[↓eB,seval,go_sem,hk,hj,he,h1,ha,beq_self_eq_true]
    refine⟨⟨hu,hgu⟩,hr _ 5 (Nat.le_of_ble_eq_true rfl) (by decide),?_⟩
    refine ret_with [] ?_;simp only[↓eB,seval,go_sem,bne,yr_RunConds]
   ·have he:=cT52_e
    have hu:=cT52_u
    have hr:=cPi_r _ cT52_b
    have h1:=cT52_r a b _ hx
    simp only[cT52]at he hu
    simp only[if_true,if_false,Bool.false_eq_true,Bool.not_true,Bool.not_false,cOut]at h1
    simp only[↓eB,seval,go_sem,hk,hj,he,h1,ha,beq_self_eq_true]
    refine⟨⟨hu,hgu⟩,hr _ 5 (Nat.le_of_ble_eq_true rfl) (by decide),?_⟩
    refine ret_with [] ?_;simp only[↓eB,seval,go_sem,bne,yr_RunConds]
   ·have he:=cT53_e
    have hu:=cT53_u
    have hr:=cPi_r _ cT53_b
    have h1:=cT53_r a b _ hx
    simp only[cT53]at he hu
    simp only[if_true,if_false,Bool.false_eq_true,Bool.not_true,Bool.not_false,cOut]at h1
    simp only[↓eB,seval,go_sem,hk,hj,he,h1,ha,beq_self_eq_true]
    refine⟨⟨hu,hgu⟩,hr _ 5 (Nat.le_of_ble_eq_true rfl) (by decide),?_⟩
    refine ret_with [] ?_;simp only[↓eB,seval,go_sem,bne,yr_RunConds]
   ·have he:=cT54_e
    have hu:=cT54_u
    have hr:=cPi_r _ cT54_b
    have h1:=cT54_r a b _ hx
    simp only[cT54]at he hu
    simp only[if_true,if_false,Bool.false_eq_true,Bool.not_true,Bool.not_false,cOut]at h1
    simp only[↓eB,seval,go_sem,hk,hj,he,h1,ha,beq_self_eq_true]
    refine⟨⟨hu,hgu⟩,hr _ 5 (Nat.le_of_ble_eq_true rfl) (by decide),?_⟩
    refine ret_with [] ?_;simp only[↓eB,seval,go_sem,bne,yr_RunConds]
   ·have he:=cT55_e
    have hu:=cT55_u
    have hr:=cPi_r _ cT55_b
    have h1:=cT55_r a b _ hx
    simp only[cT55]at he hu
    simp only[if_true,if_false,Bool.false_eq_true,Bool.not_true,Bool.not_false,cOut]at h1
    simp only[↓eB,seval,go_sem,hk,hj,he,h1,ha,beq_self_eq_true]
    refine⟨⟨hu,hgu⟩,hr _ 5 (Nat.le_of_ble_eq_true rfl) (by decide),?_⟩
    refine ret_with [] ?_;simp only[↓eB,seval,go_sem,bne,yr_RunConds]
end Go.Proofs.Ytjnnmindcbgjhaa
