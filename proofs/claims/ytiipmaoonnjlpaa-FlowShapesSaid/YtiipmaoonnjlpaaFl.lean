/- From a walk that returns true and leaves what was there to the row's statement; arguments opened. No conditions but those in each statement. -/
import Derived.Test.YtiipmaoonnjlpaaOp
import Derived.Test.YtiipmaoonnjlpaaGr1
import Derived.Lib.SmallJoins
import Derived.Carry
set_option linter.unusedVariables false
set_option linter.unusedSimpArgs false
namespace Go.Proofs.Ytiipmaoonnjlpaa
open Go Go.Sy Go.RowKit Go.ChangeShapes Go.WideShapes Go.ChangeAt

theorem ownK : ownKnob Try.prog.godebug = none := by kernel_rfl
theorem laidK : laidOutB Try.prog = true := by kernel_rfl

theorem trodAll_below {H : Type} {enc : TypeId × Value → H} {P : Program} (hl : laidOutB P = true) {W W' : World} (hb : Below W.heap.size W W') : ∀ (ts : List TypeId) (vs : List Value) (ds : List (DataW H)) (ps : List MemPlace),
    (∀ t ∈ ts, P.readableRec t = true ∧ t < P.types.size) → DataW.TrodAll enc P W 0 (fun _ => true) true ts vs ds ps → (∀ x ∈ ps, x.block < W.heap.size) → DataW.TrodAll enc P W' 0 (fun b => decide (b < W.heap.size)) true ts vs ds ps
  | [], vs, ds, ps, _, h, _ => by
    obtain ⟨rfl, rfl, rfl⟩ := trodAll_nil h
    exact trodAll_mk0
  | t :: ts, vs, ds, ps, hts, h, hlt => by
    obtain ⟨v, vs', d, ds', p, q, rfl, rfl, rfl, h1, h2⟩ := trodAll_cons h
    have ht := hts t (List.mem_cons_self ..)
    exact trodAll_cons_mk (Below.trod hl ht.1 ht.2 h1 hb fun x hx => hlt x (List.mem_append_left _ hx))
      (trodAll_below hl hb ts vs' ds' q (fun t' ht' => hts t' (List.mem_cons_of_mem _ ht')) h2 fun x hx => hlt x (List.mem_append_right _ hx))

theorem law_post {H : Type} {enc : TypeId × Value → H} {f : Func} {s : ChangeSpec} {W W' : World} {args : Array Value} {ds gs : List (DataW H)} {before : List MemPlace} (hW : DataW.Whole enc Try.prog f.params.toList s.vars false W args.toList ds gs before)
    (hv : s.vars = []) (hr : f.resultTypes = #[4]) (hts : ∀ t ∈ f.params.toList, Try.prog.readableRec t = true ∧ t < Try.prog.types.size)
    (hf : gs = [] → (s.fn H (ds ++ gs)).results = [.lit (.bool true)] ∧ (s.fn H (ds ++ gs)).args = ds ∧ (s.fn H (ds ++ gs)).vars = []) (hb : Below W.heap.size W W') :
    s.post enc Try.prog f false true false false W args (.bool true) W' := by
  have hlt := hW.lt
  have hW0 := hW
  obtain ⟨p, q, hA, hV, rfl, _, _⟩ := hW
  rw [hv] at hV
  obtain ⟨rfl, rfl⟩ := trodVars_none hV
  obtain ⟨f1, f2, f3⟩ := hf rfl
  refine ⟨ds, [], p ++ [], [], p, [], hW0, ?_, ?_, ?_, hb.frame _, fun h => by cases h⟩
  · rw [f1, hr]
    exact trodAll_cons_mk (shut_bool Try.underlying4 true) trodAll_mk0
  · rw [f2]
    exact trodAll_below laidK hb _ _ _ _ hts hA fun x hx => by simpa using hlt x (List.mem_append_left _ hx)
  · rw [f3, hv]; rfl

theorem to_plainR {P : Program} {f : FuncId} {A : Type} {ac : ArgH A} {Cd : A → Prop} {F : A → SV} (h : CallsR P f ac Cd F) (a : A) (w : World) (hc : Cd a) (vals : List Value) (val : Value) (hl : vals.length = (ac.e a).length)
    (h1 : ∀ (j : Nat) (v : SV) (x : Value), (ac.e a)[j]? = some v → vals[j]? = some x → CD (hp w) (fun b => b < w.heap.size) v x)
    (h2 : clos (F a) = some val) : Calls P f vals.toArray w (fun e w' => e = .returned val ∧ Below w.heap.size w w') := by
  refine (h a w (fun b => b < w.heap.size) vals hc (fun _ h => h) hl h1).mono ?_
  rintro e w' ⟨v, x, fz', rfl, rfl, g1, g2, g3, g4, g5, g6⟩
  rw [sd_clos g5 h2]
  exact ⟨rfl, g6⟩

/- rows of lists of numbers, as they come in -/
def plD (l : List Int) : List D := [.sl zID (l.map inD)]
def zPl : List D := [dL0]
theorem pl_inj (a b : List Int) (h : plD a = plD b) : a = b := by
  simp only [plD, List.cons.injEq, D.sl.injEq, true_and, and_true] at h
  exact map_inj inD_inj h
noncomputable def rPl : RowC (List Int) := rowOf zPl plD pl_inj fun _ => rfl
theorem rPl_e : rPl.e = plD := rfl
theorem rPl_z : rPl.z = zPl := rfl
theorem zPl_ln : zPl.length = 1 := rfl
theorem decL_pl (l : List (List Int)) : decL rPl.d (l.map plD) = some l := decL_map rPl l
theorem pl_at {l : List (List Int)} {i : Nat} {x : List Int} (h : l[i]? = some x) (z : List D) : (l.map plD).getD i z = [.sl zID (x.map inD)] := by simp [List.getD, h, plD]
/- bytes, as they come in -/
def byD' (n : Int) : List D := [.v (.int .u8 n)]
def zBy' : List D := [.v (.int .u8 0)]

section
variable {H : Type} {enc : TypeId × Value → H} {W : World} {base : Nat} {v : Value} {d : DataW H} {p : List MemPlace}
theorem wf_i64' {n : Int} (h : (Lit.int .i64 n).wf = true) : -9223372036854775808 ≤ n ∧ n ≤ 9223372036854775807 := by
  have := bounds_i64 h; omega
theorem wf_u8' {n : Int} (h : (Lit.int .u8 n).wf = true) : 0 ≤ n ∧ n ≤ 255 := by
  have := bounds_u8 h; omega
theorem opn_ints : Opn enc Try.prog W 40 (fun l : List Int => [.sl zID (l.map inD)]) (fun l => l.length ≤ maxLen) := by
  intro fuel
  cases fuel with
  | zero => exact opnF_zero
  | succ n => exact opnF_map id _ _ (opnF_slice Try.underlying40 zID (by kernel_rfl) (by decide) (opnF_int Try.underlying3)) (fun _ => rfl) (fun _ h => h.1)
theorem opn_intss : Opn enc Try.prog W 54 (fun l : List (List Int) => [.sl zPl (l.map plD)]) (fun l => l.length ≤ maxLen ∧ ∀ a ∈ l, a.length ≤ maxLen) := by
  intro fuel
  cases fuel with
  | zero => exact opnF_zero
  | succ n => exact opnF_slice Try.underlying54 zPl (by kernel_rfl) (by decide) (opn_ints n)
theorem opn_bools : Opn enc Try.prog W 48 (fun l : List Bool => [.sl zBl (l.map blD)]) (fun l => l.length ≤ maxLen) := by
  intro fuel
  cases fuel with
  | zero => exact opnF_zero
  | succ n => exact opnF_map id _ _ (opnF_slice Try.underlying48 zBl (by kernel_rfl) (by decide) (opnF_bool Try.underlying4)) (fun _ => rfl) (fun _ h => h.1)
theorem opn_bytes : Opn enc Try.prog W 22 (fun l : List Int => [.sl zBy' (l.map byD')]) (fun l => l.length ≤ maxLen ∧ ∀ x ∈ l, 0 ≤ x ∧ x < 256) := by
  intro fuel
  cases fuel with
  | zero => exact opnF_zero
  | succ n => exact opnF_map id _ _ (opnF_slice Try.underlying22 zBy' (by kernel_rfl) (by decide) (opnF_int Try.underlying5)) (fun _ => rfl) (fun _ h => ⟨h.1, fun x hx => by have := wf_u8' (h.2 x hx); omega⟩)
set_option maxRecDepth 100000 in
theorem open_intss (hv : Value.okWide Try.prog W .any base 54 v) (h : DataW.Trod enc Try.prog W 0 (fun _ => true) true 54 v d p) :
    ∃ a : List (List Int), (a.length ≤ maxLen ∧ ∀ x ∈ a, x.length ≤ maxLen) ∧ CD (hp W) (fun b => b < W.heap.size) (.one (.d (.sl zPl (a.map plD)))) v :=
  open_one (r := .any) (base := base) (f := fun l : List (List Int) => .sl zPl (l.map plD)) (okWide_sl Try.underlying54 hv) h opn_intss
set_option maxRecDepth 100000 in
theorem open_bools (hv : Value.okWide Try.prog W .any base 48 v) (h : DataW.Trod enc Try.prog W 0 (fun _ => true) true 48 v d p) :
    ∃ a : List Bool, a.length ≤ maxLen ∧ CD (hp W) (fun b => b < W.heap.size) (.one (.d (.sl zBl (a.map blD)))) v :=
  open_one (r := .any) (base := base) (f := fun l : List Bool => .sl zBl (l.map blD)) (okWide_sl Try.underlying48 hv) h opn_bools
set_option maxRecDepth 100000 in
theorem open_bytes (hv : Value.okWide Try.prog W .any base 22 v) (h : DataW.Trod enc Try.prog W 0 (fun _ => true) true 22 v d p) :
    ∃ a : List Int, (a.length ≤ maxLen ∧ ∀ x ∈ a, 0 ≤ x ∧ x < 256) ∧ CD (hp W) (fun b => b < W.heap.size) (.one (.d (.sl zBy' (a.map byD')))) v :=
  open_one (r := .any) (base := base) (f := fun l : List Int => .sl zBy' (l.map byD')) (okWide_sl Try.underlying22 hv) h opn_bytes
end
end Go.Proofs.Ytiipmaoonnjlpaa
