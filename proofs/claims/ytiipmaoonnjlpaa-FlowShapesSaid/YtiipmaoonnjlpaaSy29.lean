/- Cutting a walk in two. No conditions but those in each statement. -/
import Derived.Test.YtiipmaoonnjlpaaSy28
namespace Go.Sy
open Go Go.RowKit

section
variable {P : Program} {X : Ctx} {w0 : World} {n : Nat}
theorem tri_mono {c : Code} {s : St} {Q Q' : Exit → St → Prop} (h : Tri (P := P) X w0 n c s Q) (hq : ∀ e s, Q e s → Q' e s) : Tri (P := P) X w0 n c s Q' := by
  intro a w hs
  refine Code.wp_mono ?_ (h a w hs)
  rintro e a' w' ⟨s', h1, h2⟩
  exact ⟨s', hq e s' h1, h2⟩
theorem tri_seq {a b : Code} {s : St} {Q : Exit → St → Prop} (h : Tri (P := P) X w0 n a s (thenQ (fun s' => Tri (P := P) X w0 n b s' Q) Q)) : Tri (P := P) X w0 n (.seq a b) s Q := by
  intro act w hs
  refine wp_seq ?_
  refine Code.wp_mono ?_ (h act w hs)
  rintro e a' w' ⟨s', hq, hs'⟩
  cases e with
  | normal => exact hq a' w' hs'
  | _ => exact ⟨s', hq, hs'⟩
theorem tri_to {c : Code} {s t : St} {Q : Exit → St → Prop} (h : Tri (P := P) X w0 n c t Q) (hs : To X s t) : Tri (P := P) X w0 n c s Q := fun a w hh => h a w (hs w0 n a w hh)
/-- up to a place at which only so much is known -/
theorem tri_cut {Y : Type} {a b : Code} {s : St} {Q : Exit → St → Prop} (J : Y → Prop) (S : Y → St) (sp : List (Spec P X w0)) (g : Gh) (h1 : vc X w0 sp n g a s (thenQ (fun s' => ∃ y, J y ∧ To X s' (S y)) Q)) (h2 : ∀ y, J y → Tri (P := P) X w0 n b (S y) Q) : Tri (P := P) X w0 n (.seq a b) s Q := by
  refine tri_seq (tri_mono (vc_ok sp g a s _ h1) ?_)
  intro e s' hq
  cases e with
  | normal => obtain ⟨y, hy, hto⟩ := hq; exact tri_to (h2 y hy) hto
  | _ => exact hq
/-- one step of a sequence -/
theorem tri_next {a b : Code} {s : St} {Q : Exit → St → Prop} (sp : List (Spec P X w0)) (g : Gh) (h1 : vc X w0 sp n g a s (thenQ (fun s' => Tri (P := P) X w0 n b s' Q) Q)) : Tri (P := P) X w0 n (.seq a b) s Q := tri_seq (vc_ok sp g a s _ h1)
end
section
variable {P : Program}
theorem calls_tri {f : FuncId} {fn : Func} {c : Code} (hf : P.funcs[f]? = some fn) (hb : fn.body = some c) (w : World) (fz : Nat → Prop) (args : List SV) (hnm : ∀ v ∈ args, v.names = []) (hfz : ∀ b, fz b → b < w.heap.size)
    (xs : List Value) (hlen : xs.length = args.length) (hx : ∀ (j : Nat) (v : SV) (x : Value), args[j]? = some v → xs[j]? = some x → CD (hp w) fz v x) (R : SV → Prop)
    (hn : args.length ≤ fn.ntmps) (h : Tri (P := P) (clX fz) w fn.ntmps c ⟨argE 0 args, []⟩ (retQ P (clX fz) fn.results.toList (fun _ vs => (resV vs).names = [] ∧ R (resV vs)))) :
    Calls P f xs.toArray w (DPost w fz R) := by
  refine calls_of_wp hf hb (Code.wp_mono ?_ (h _ w ?_))
  · rintro e a w' ⟨s, hq, hs⟩
    have fin : RetP P (clX fz) fn.results.toList (fun _ vs => (resV vs).names = [] ∧ R (resV vs)) s → a.defers = [] ∧ ∃ v, (results fn a.tmps).run P w' = .ok v w' ∧ DPost w fz R (Ending.returned v) w' := by
      rintro ⟨cs, s', vs, h1, h2, h3, h4, h5⟩
      refine ⟨hs.defers, ?_⟩
      obtain ⟨_, I, lab, fz', hA⟩ := runCs_ent h1 a w' hs
      obtain ⟨x, x1, x2⟩ := results_ok hA h2 h3
      refine ⟨x, x1, resV vs, x, fun b => fz' b ∨ fz b, rfl, h5, h4, fun b hb => .inr hb, fun b hb => ?_, fun b hb => ?_, sd_closed (fun b hb => ⟨.inl hb, rfl⟩) h4 x2, hA.m.kept.below (fun _ _ hf => hf)⟩
      · rcases hb with hb | hb
        · rcases hA.m.fzo b hb with h | h | h
          · exact .inl h
          · exact .inr h
          · exact h.elim
        · exact .inl hb
      · rcases hb with hb | hb
        · exact (hA.m.fzl b hb).1
        · exact Nat.lt_of_lt_of_le (hfz b hb) hA.m.kept.size
    cases e with
    | normal => exact fin hq
    | ret => exact fin hq
    | _ => exact hq.elim
  · have hE0 : ∀ t g v, lkp (argE 0 args) t = some (g, v) → g = true ∧ args[t]? = some v := by
      intro t g v ht
      rw [argE_lkp] at ht
      simp only [Nat.zero_le, if_true, Nat.sub_zero, Option.map_eq_some_iff, Prod.mk.injEq] at ht
      obtain ⟨u, hu, rfl, rfl⟩ := ht
      exact ⟨rfl, hu⟩
    refine ⟨?_, nm0, fun _ => none, fz, ?_, rfl, ?_, ⟨?_, ?_, ?_, fun b hb => ⟨hfz b hb, rfl⟩, fun b hb => .inl hb, Kept.refl _ _, by intro p hp; cases hp⟩⟩
    · intro t g v ht _
      have := (hE0 t g v ht).2
      rw [hnm v (List.mem_of_getElem? this)]
      intro k hk; cases hk
    · simp [hlen]; omega
    · intro t g v ht
      obtain ⟨rfl, hv⟩ := hE0 t g v ht
      have hlt : t < args.length := (List.getElem?_eq_some_iff.1 hv).1
      have hlt2 : t < xs.length := by omega
      refine ⟨xs[t], ?_, ?_⟩
      · rw [Array.getElem?_append_left (by simpa using hlt2)]
        simp [hlt2]
      · simp only [if_true]
        exact sd_closed (fun b hb => ⟨hb, rfl⟩) (hnm v (List.mem_of_getElem? hv)) (hx t v _ hv (List.getElem?_eq_getElem hlt2))
    · intro k ch hk; simp [lkp] at hk
    · intro k ch hk; simp [lkp] at hk
    · intro b π hb; cases hb
theorem calls_triL {f : FuncId} {fn : Func} {c : Code} (hf : P.funcs[f]? = some fn) (hb : fn.body = some c) (w : World) (fz : Nat → Prop) {A : Type} (ac : ArgC A) (F : A → SV) (a : A) (xs : List Value) (hfz : ∀ b, fz b → b < w.heap.size) (hl : xs.length = (ac.e a).length)
    (hx : ∀ (j : Nat) (v : SV) (x : Value), (ac.e a)[j]? = some v → xs[j]? = some x → CD (hp w) fz v x) (hn : (ac.e a).length ≤ fn.ntmps)
    (h : Tri (P := P) (clX fz) w fn.ntmps c ⟨argE 0 (ac.e a), []⟩ (retQ P (clX fz) fn.results.toList (RESL (F a)))) : Calls P f xs.toArray w (DPost w fz (fun v => v = F a)) :=
  (calls_tri hf hb w fz (ac.e a) (ac.n a) hfz xs hl hx (fun v => leV v (F a)) hn h).mono fun _ _ h => dpost_le h
theorem calls_triRL {f : FuncId} {fn : Func} {c : Code} (hf : P.funcs[f]? = some fn) (hb : fn.body = some c) (w : World) (fz : Nat → Prop) {A : Type} (ac : ArgH A) (F : A → SV) (a : A) (xs : List Value) (hfz : ∀ b, fz b → b < w.heap.size) (hl : xs.length = (ac.e a).length)
    (hx : ∀ (j : Nat) (v : SV) (x : Value), (ac.e a)[j]? = some v → xs[j]? = some x → CD (hp w) fz v x) (hn : (ac.e a).length ≤ fn.ntmps)
    (h : Tri (P := P) (clX fz) w fn.ntmps c ⟨argE 0 (ac.e a), []⟩ (retQ P (clX fz) fn.results.toList (RESL (F a)))) : Calls P f xs.toArray w (DPost w fz (fun v => v = F a)) :=
  (calls_tri hf hb w fz (ac.e a) (ac.n a) hfz xs hl hx (fun v => leV v (F a)) hn h).mono fun _ _ h => dpost_le h
end
end Go.Sy
