/- Slices of bytes that come in. No conditions but those in each statement. -/
import Derived.Test.YtkbclcnbfahhkaaDoorSyC
import Derived.Test.YtkbclcnbfahhkaaDoorTy2
import Derived.Deep.Draws
import Derived.LaidMore
import Derived.ProofKit
import Derived.OpenShut
set_option linter.unusedVariables false
set_option linter.unusedSimpArgs false
namespace Go.Proofs.YtkbclcnbfahhkaaDoor
open Go Go.Sy Go.RowKit Go.ChangeShapes Go.WideShapes Go.ChangeAt

theorem to_plainR {P : Program} {f : FuncId} {A : Type} {ac : ArgH A} {Cd : A → Prop} {F : A → SV} (h : CallsR P f ac Cd F) (a : A) (w : World) (hc : Cd a) (vals : List Value) (val : Value) (hl : vals.length = (ac.e a).length)
    (h1 : ∀ (j : Nat) (v : SV) (x : Value), (ac.e a)[j]? = some v → vals[j]? = some x → CD (hp w) (fun b => b < w.heap.size) v x)
    (h2 : clos (F a) = some val) : Calls P f vals.toArray w (fun e w' => e = .returned val ∧ Below w.heap.size w w') := by
  refine (h a w (fun b => b < w.heap.size) vals hc (fun _ h => h) hl h1).mono ?_
  rintro e w' ⟨v, x, fz', rfl, rfl, g1, g2, g3, g4, g5, g6⟩
  rw [sd_clos g5 h2]
  exact ⟨rfl, g6⟩

def zU8 : List D := [.v (.int .u8 0)]
def dU8 (n : Int) : List D := [.v (.int .u8 n)]
def rwU8 : List D → Option Int
  | [.v (.int .u8 n)] => some n
  | _ => none
def rU8 : RowC Int where
  z := zU8
  d := rwU8
  e := dU8
  h r b h := by
    unfold rwU8 at h
    split at h
    · simp only [Option.some.injEq] at h; subst h; rfl
    · cases h
  i b := rfl
  n b := rfl
theorem rU8_d : rU8.d = rwU8 := rfl
theorem rU8_e : rU8.e = dU8 := rfl
theorem rU8_z : rU8.z = zU8 := rfl
theorem getB_map (l : List Int) (i : Nat) (h : i < l.length) : (l.map dU8).getD i zU8 = dU8 (l.getD i 0) := by simp [List.getD, h]

theorem wf_u8' {n : Int} (h : (Lit.int .u8 n).wf = true) : 0 ≤ n ∧ n ≤ 255 := by
  have := bounds_u8 h; omega
theorem sd_d {h : Heap} {fz : Nat → Prop} {d : D} {x : Value} (r : Rd h fz d x) : CD h fz (.one (.d d)) x := sc_of (H := fun _ => none) (c := .d d) rfl (.d _ _ _ r)
theorem open_y {H : Type} {enc : TypeId × Value → H} {W : World} {base : Nat} {v : Value} {d : DataW H} {p : List MemPlace} (hv : Value.okWide Tryd.prog W .any base 31 v) (h : DataW.Trod enc Tryd.prog W 0 (fun _ => true) true 31 v d p) :
    ∃ ns : List Int, (∀ n ∈ ns, 0 ≤ n ∧ n ≤ 255) ∧ CD (hp W) (fun b => b < W.heap.size) (.one (.d (.sl zU8 (ns.map dU8)))) v := by
  obtain ⟨fuel, hf⟩ := h
  have c1 : Tryd.prog.cellsOf 5 = 1 := by kernel_rfl
  rcases DataW.trod_slice Tryd.underlying31 hf with ⟨hcs, _⟩ | ⟨a, len, cap, elems, rest, n, _, hcs, _, _, hlc, _, hlen, hel, _, _⟩
  · refine ⟨[], by simp, ?_⟩
    obtain rfl : v = .slice none 0 0 := by
      obtain ⟨a0, l0, k0, rfl⟩ := okWide_slice Tryd.underlying31 hv
      exact List.singleton_inj.1 hcs
    exact sd_d (.nil _)
  · obtain rfl : v = .slice (some a) len cap := by
      obtain ⟨a0, l0, k0, rfl⟩ := okWide_slice Tryd.underlying31 hv
      exact List.singleton_inj.1 hcs
    have hok : Cell.ok Tryd.prog W .any base 31 (.slice (some a) len cap) := by
      unfold Value.okWide at hv
      rw [Tryd.underlying31] at hv
      unfold Cell.okWide at hv
      rw [Tryd.underlying31] at hv
      exact hv
    unfold Cell.ok at hok
    rw [Tryd.underlying31] at hok
    obtain ⟨_, _, _, hspot, row, cells, hsh, _⟩ := hok
    obtain ⟨b, off, spot⟩ := a
    have hspot : spot = none := hspot
    subst hspot
    have hb : ∃ arr T m, W.heap[b]? = some (.cells arr T m) := by
      unfold World.shape? at hsh
      split at hsh
      · rename_i c e fz he
        exact ⟨c, e, fz, he⟩
      · cases hsh
    obtain ⟨arr, T, m, hb⟩ := hb
    have hlt : b < W.heap.size := (Array.getElem?_eq_some_iff.1 hb).1
    have hE : ∀ i, i < len → ∃ n : Int, (elems[i]?.map (·.1)) = some (.lit (.int .u8 n)) ∧ arr[off + i]? = some (.int .u8 n) ∧ 0 ≤ n ∧ n ≤ 255 := fun i hi => by
      have h0 := hel i hi
      rw [c1, Nat.mul_one, List.getElem?_eq_getElem (by omega)] at h0
      obtain ⟨cs, hcs1, hcs2⟩ := Option.bind_eq_some_iff.1 h0
      obtain ⟨z, e1, e2, e3⟩ := DataW.trod_int Tryd.underlying5 hcs2
      subst e1
      refine ⟨z, by rw [List.getElem?_eq_getElem (by omega), Option.map_some, e2], ?_, ?_⟩
      · unfold World.cells? at hcs1
        rw [if_pos (Nat.zero_le _)] at hcs1
        have hcell : W.cell? ((⟨b, off, none⟩ : Addr).add i) = some (.int .u8 z) := by
          have e0 : ((⟨b, off, none⟩ : Addr).add i).add 0 = (⟨b, off, none⟩ : Addr).add i := by simp [Addr.add]
          simp only [List.range_succ, List.range_zero, List.nil_append, List.mapM_cons, List.mapM_nil, e0] at hcs1
          cases hcc : W.cell? ((⟨b, off, none⟩ : Addr).add i) with
          | none => simp [hcc] at hcs1
          | some c => simp [hcc] at hcs1; rw [hcs1]
        have e1 : (⟨b, off, none⟩ : Addr).add i = ⟨b, off + i, none⟩ := by
          unfold Addr.add
          split
          · rename_i h0
            have h0 : i = 0 := by simpa using h0
            subst h0; rfl
          · rfl
        rw [e1] at hcell
        unfold World.cell? at hcell
        simpa [hb] using hcell
      · exact wf_u8' e3
    let ns : List Int := elems.map fun x => match x.1 with | .lit (.int _ n) => n | _ => 0
    have hns : ∀ i, i < len → ∃ n, ns[i]? = some n ∧ arr[off + i]? = some (.int .u8 n) ∧ 0 ≤ n ∧ n ≤ 255 := fun i hi => by
      obtain ⟨n, h1, h2, h3⟩ := hE i hi
      refine ⟨n, ?_, h2, h3⟩
      obtain ⟨x, hx, hx1⟩ := Option.map_eq_some_iff.1 h1
      simp only [ns, List.getElem?_map, hx, Option.map_some, hx1]
    have hnl : ns.length = len := by simp [ns, hlen]
    clear_value ns
    refine ⟨ns, fun n hn => ?_, ?_⟩
    · obtain ⟨i, hi⟩ := List.mem_iff_getElem?.1 hn
      have hil := (List.getElem?_eq_some_iff.1 hi).1
      obtain ⟨k, k1, _, k3⟩ := hns i (by omega)
      rw [k1] at hi
      obtain rfl := Option.some.inj hi
      exact k3
    · have key : Rd (hp W) (fun b => b < W.heap.size) (.sl zU8 (ns.map dU8)) (.slice (some ⟨b, off, none⟩) (ns.map dU8).length cap) := by
        refine .sl zU8 (ns.map dU8) b off cap arr T m (fun i _ => .int .u8 (ns.getD i 0)) hlt hb (by simp; omega) ?_ ?_ ?_
        · intro i cs hcs
          obtain ⟨n, _, rfl⟩ := List.mem_map.1 (List.mem_of_getElem? hcs)
          rfl
        · intro i j cs d0 hcs hd
          rw [List.getElem?_map] at hcs
          obtain ⟨n, hn, rfl⟩ := Option.map_eq_some_iff.1 hcs
          have hil := (List.getElem?_eq_some_iff.1 hn).1
          obtain ⟨k, k1, k2, _⟩ := hns i (by omega)
          have hj : j = 0 := by
            have := (List.getElem?_eq_some_iff.1 hd).1
            simp [dU8] at this
            exact this
          subst hj
          rw [List.getD, k1]
          simpa [zU8] using k2
        · intro i j cs d0 hcs hd
          rw [List.getElem?_map] at hcs
          obtain ⟨n, hn, rfl⟩ := Option.map_eq_some_iff.1 hcs
          have hj : j = 0 := by
            have := (List.getElem?_eq_some_iff.1 hd).1
            simp [dU8] at this
            exact this
          subst hj
          rw [List.getD, hn]
          have : d0 = .v (.int .u8 n) := by simpa [dU8] using hd.symm
          subst this
          exact .v _ rfl
      have hk : (ns.map dU8).length = len := by simp [hnl]
      rw [hk] at key
      exact sd_d key
end Go.Proofs.YtkbclcnbfahhkaaDoor
