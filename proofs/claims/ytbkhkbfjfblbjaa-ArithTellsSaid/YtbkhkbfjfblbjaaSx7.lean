import Derived.Test.YtbkhkbfjfblbjaaSx6
namespace Go.Sx
open Go.RowKit

/-- the operations of a region in the order of the text -/
def RunL {P : Program} (sp : List (Spec P)) (n : Nat) (ops : Array Oper) : List Oper → Env → Hp → List Wr → List (Option (List Nat)) → Prop
  | [], _, _, [], [] => True
  | o :: r, E, H, x :: xs, f :: fs => ∃ c, opG sp n ops o E H = some (c, x, f) ∧ c ∧ RunL sp n ops r (x.E E) (x.H H) xs fs
  | _, _, _, _, _ => False

def foldE : List Wr → Nat → (Nat → Bool) → Env → Env
  | [], _, _, E => E
  | x :: xs, i, D, E => foldE xs (i + 1) D (if D i then x.E E else E)
def foldH : List Wr → Nat → (Nat → Bool) → Hp → Hp
  | [], _, _, H => H
  | x :: xs, i, D, H => foldH xs (i + 1) D (if D i then x.H H else H)

theorem foldE_agree (t : Nat) : ∀ (xs : List Wr) (i : Nat) (D D' : Nat → Bool) (E E' : Env), E t = E' t →
    (∀ j x e, xs[j]? = some x → x.slot = some (t, e) → D (i + j) = D' (i + j)) → foldE xs i D E t = foldE xs i D' E' t
  | [], i, D, D', E, E', h, _ => h
  | x :: xs, i, D, D', E, E', h, hD => by
    simp only [foldE]
    refine foldE_agree t xs (i + 1) D D' _ _ ?_ (fun j y e hy he => by have := hD (j + 1) y e (by simpa using hy) he; rwa [show i + (j + 1) = i + 1 + j by omega] at this)
    cases hs : x.slot with
    | none => simp only [Wr.E, hs]; (repeat' split) <;> exact h
    | some p =>
      obtain ⟨t', e⟩ := p
      by_cases ht : t' = t
      · subst ht
        have := hD 0 x e (by simp) hs
        rw [Nat.add_zero] at this
        rw [this]
        split
        · simp [Wr.E, hs, upd]
        · exact h
      · have hne : x.E E t = E t := by simp only [Wr.E, hs, upd]; rw [if_neg (Ne.symm ht)]
        have hne' : x.E E' t = E' t := by simp only [Wr.E, hs, upd]; rw [if_neg (Ne.symm ht)]
        (repeat' split) <;> simp only [hne, hne', h]
theorem foldH_agree (t : Nat) : ∀ (xs : List Wr) (i : Nat) (D D' : Nat → Bool) (E E' : Hp), E t = E' t →
    (∀ j x e, xs[j]? = some x → x.blk = some (t, e) → D (i + j) = D' (i + j)) → foldH xs i D E t = foldH xs i D' E' t
  | [], i, D, D', E, E', h, _ => h
  | x :: xs, i, D, D', E, E', h, hD => by
    simp only [foldH]
    refine foldH_agree t xs (i + 1) D D' _ _ ?_ (fun j y e hy he => by have := hD (j + 1) y e (by simpa using hy) he; rwa [show i + (j + 1) = i + 1 + j by omega] at this)
    cases hs : x.blk with
    | none => simp only [Wr.H, hs]; (repeat' split) <;> exact h
    | some p =>
      obtain ⟨t', e⟩ := p
      by_cases ht : t' = t
      · subst ht
        have := hD 0 x e (by simp) hs
        rw [Nat.add_zero] at this
        rw [this]
        split
        · simp [Wr.H, hs, upd]
        · exact h
      · have hne : x.H E t = E t := by simp only [Wr.H, hs, upd]; rw [if_neg (Ne.symm ht)]
        have hne' : x.H E' t = E' t := by simp only [Wr.H, hs, upd]; rw [if_neg (Ne.symm ht)]
        (repeat' split) <;> simp only [hne, hne', h]
/-- the last that writes a slot -/
theorem foldE_last (t : Nat) (e : Bool × SV) : ∀ (xs : List Wr) (i : Nat) (D : Nat → Bool) (E : Env) (j : Nat) (x : Wr), xs[j]? = some x → x.slot = some (t, e) → D (i + j) = true →
    (∀ k y e', j < k → xs[k]? = some y → y.slot = some (t, e') → D (i + k) = false) → foldE xs i D E t = some e
  | [], i, D, E, j, x, hx, _, _, _ => by simp at hx
  | x0 :: xs, i, D, E, 0, x, hx, hs, hD, hl => by
    simp only [List.getElem?_cons_zero, Option.some.injEq] at hx
    subst hx
    simp only [foldE]
    rw [Nat.add_zero] at hD
    rw [hD]
    simp only [if_true]
    rw [foldE_agree t xs (i + 1) D (fun _ => false) (x0.E E) (x0.E E) rfl (fun k y e' hy he => by have := hl (k + 1) y e' (by omega) (by simpa using hy) he; rwa [show i + (k + 1) = i + 1 + k by omega] at this)]
    have : ∀ (ys : List Wr) (i : Nat) (E : Env), foldE ys i (fun _ => false) E = E := by
      intro ys
      induction ys with
      | nil => intro i E; rfl
      | cons y ys ih => intro i E; simp [foldE, ih]
    rw [this]
    simp [Wr.E, hs, upd]
  | x0 :: xs, i, D, E, j + 1, x, hx, hs, hD, hl => by
    simp only [foldE]
    exact foldE_last t e xs (i + 1) D _ j x (by simpa using hx) hs (by rwa [show i + 1 + j = i + (j + 1) by omega]) (fun k y e' hk hy he => by
      have := hl (k + 1) y e' (by omega) (by simpa using hy) he
      rwa [show i + (k + 1) = i + 1 + k by omega] at this)
theorem foldH_last (t : Nat) (e : Blk) : ∀ (xs : List Wr) (i : Nat) (D : Nat → Bool) (E : Hp) (j : Nat) (x : Wr), xs[j]? = some x → x.blk = some (t, e) → D (i + j) = true →
    (∀ k y e', j < k → xs[k]? = some y → y.blk = some (t, e') → D (i + k) = false) → foldH xs i D E t = some e
  | [], i, D, E, j, x, hx, _, _, _ => by simp at hx
  | x0 :: xs, i, D, E, 0, x, hx, hs, hD, hl => by
    simp only [List.getElem?_cons_zero, Option.some.injEq] at hx
    subst hx
    simp only [foldH]
    rw [Nat.add_zero] at hD
    rw [hD]
    simp only [if_true]
    rw [foldH_agree t xs (i + 1) D (fun _ => false) (x0.H E) (x0.H E) rfl (fun k y e' hy he => by have := hl (k + 1) y e' (by omega) (by simpa using hy) he; rwa [show i + (k + 1) = i + 1 + k by omega] at this)]
    have : ∀ (ys : List Wr) (i : Nat) (E : Hp), foldH ys i (fun _ => false) E = E := by
      intro ys
      induction ys with
      | nil => intro i E; rfl
      | cons y ys ih => intro i E; simp [foldH, ih]
    rw [this]
    simp [Wr.H, hs, upd]
  | x0 :: xs, i, D, E, j + 1, x, hx, hs, hD, hl => by
    simp only [foldH]
    exact foldH_last t e xs (i + 1) D _ j x (by simpa using hx) hs (by rwa [show i + 1 + j = i + (j + 1) by omega]) (fun k y e' hk hy he => by
      have := hl (k + 1) y e' (by omega) (by simpa using hy) he
      rwa [show i + (k + 1) = i + 1 + k by omega] at this)

/-- ancestors: bit k of the j-th number: j hangs on k -/
def maskOf (o : Oper) (acc : List Nat) : Nat :=
  o.after.toList.foldr (fun e m => if Region.binds .any e then m ||| (2 ^ e.on ||| acc.getD e.on 0) else m) 0
def ancL : List Oper → List Nat → List Nat
  | [], acc => acc
  | o :: r, acc => ancL r (acc ++ [maskOf o acc])

/-- what hangs on what, directly -/
def Dep (ops : Array Oper) (j k : Nat) : Prop := ∃ o, ops[j]? = some o ∧ ∃ e ∈ o.after, Region.binds .any e = true ∧ e.on = k
def Closed (ops : Array Oper) (D : Nat → Bool) : Prop := ∀ j k, D j = true → Dep ops j k → D k = true

theorem mask_ok {ops : Array Oper} {D : Nat → Bool} (hc : Closed ops D) (acc : List Nat) (hacc : ∀ j m k, acc[j]? = some m → m.testBit k = true → D j = true → D k = true) (o : Oper) (i : Nat) (ho : ops[i]? = some o) (hi : D i = true) (k : Nat)
    (hk : (maskOf o acc).testBit k = true) : D k = true := by
  have : ∀ (l : List Edge), (∀ e ∈ l, e ∈ o.after) → (l.foldr (fun e m => if Region.binds .any e then m ||| (2 ^ e.on ||| acc.getD e.on 0) else m) 0).testBit k = true → D k = true := by
    intro l
    induction l with
    | nil => intro _ h; simp at h
    | cons e l ih =>
      intro hl h
      simp only [List.foldr_cons] at h
      split at h
      · rename_i hb
        simp only [Nat.testBit_or, Bool.or_eq_true] at h
        have hon : D e.on = true := hc i e.on hi ⟨o, ho, e, hl e (List.mem_cons_self ..), hb, rfl⟩
        rcases h with h | h | h
        · exact ih (fun e' he' => hl e' (List.mem_cons_of_mem _ he')) h
        · rw [Nat.testBit_two_pow] at h
          simp only [decide_eq_true_eq] at h
          rw [← h]; exact hon
        · cases hg : acc[e.on]? with
          | none => simp [List.getD, hg] at h
          | some m => simp only [List.getD, hg, Option.getD_some] at h; exact hacc e.on m k hg h hon
      · exact ih (fun e' he' => hl e' (List.mem_cons_of_mem _ he')) h
  exact this o.after.toList (fun e he => Array.mem_toList_iff.1 he) hk

theorem anc_ok {ops : Array Oper} {D : Nat → Bool} (hc : Closed ops D) : ∀ (l : List Oper) (acc : List Nat), (∀ j, l[j]? = ops[acc.length + j]?) →
    (∀ j m k, acc[j]? = some m → m.testBit k = true → D j = true → D k = true) → ∀ j m k, (ancL l acc)[j]? = some m → m.testBit k = true → D j = true → D k = true
  | [], acc, _, h => h
  | o :: l, acc, hl, h => by
    refine anc_ok hc l (acc ++ [maskOf o acc]) (fun j => by have := hl (j + 1); simp only [List.getElem?_cons_succ] at this; rw [this]; congr 1; simp; omega) ?_
    intro j m k hj hm hD
    rw [List.getElem?_append] at hj
    split at hj
    · exact h j m k hj hm hD
    · rename_i hge
      have hj0 : j = acc.length := by
        rcases Nat.lt_or_ge acc.length j with h' | h'
        · rw [List.getElem?_eq_none (by simp; omega)] at hj; simp at hj
        · omega
      subst hj0
      simp only [Nat.sub_self, List.getElem?_cons_zero, Option.some.injEq] at hj
      subst hj
      have ho : ops[acc.length]? = some o := by have := hl 0; simp only [List.getElem?_cons_zero, Nat.add_zero] at this; exact this.symm
      exact mask_ok hc acc h o acc.length ho hD k hm

/-- what an operation touches -/
structure Tch where
  d : Option Nat
  r : List Nat
  wb : Option Nat
  fp : Option (List Nat)

def tch (ops : Array Oper) : List Oper → List Wr → List (Option (List Nat)) → List Tch
  | o :: l, x :: xs, f :: fs => ⟨o.dst, o.looksAt ops, x.blk.map (·.1), f⟩ :: tch ops l xs fs
  | _, _, _ => []

def apartS (x y : Tch) : Bool :=
  match x.d with
  | some d => !(y.r.contains d) && y.d != some d
  | none => true
def apartB (x y : Tch) : Bool :=
  match x.wb with
  | some b => y.wb != some b && (match y.fp with
    | none => false
    | some l => !(l.contains b))
  | none => true
def indep (x y : Tch) : Bool := apartS x y && apartS y x && apartB x y && apartB y x

def chkRow (x : Tch) (i : Nat) : List Tch → List Nat → Bool
  | y :: ys, m :: ms => (m.testBit i || indep x y) && chkRow x i ys ms
  | _, _ => true
def chkAll (i : Nat) : List Tch → List Nat → Bool
  | x :: xs, _ :: ms => chkRow x i xs ms && chkAll (i + 1) xs ms
  | _, _ => true
/-- in a mode, each hangs on such of a lower rank alone -/
def fwdM (md : Region.Mode) (m : Nat) (rk : Nat → Nat) (i : Nat) : List Oper → Bool
  | [] => true
  | o :: l => o.after.toList.all (fun e => !Region.binds md e || (decide (e.on < m) && decide (rk e.on < rk i))) && fwdM md m rk (i + 1) l
def rkOf (l : List Nat) (i : Nat) : Nat := l.idxOf i
def fwd (ops : Array Oper) : Bool :=
  fwdM .any ops.size id 0 ops.toList && fwdM .text ops.size id 0 ops.toList && fwdM .gc ops.size (rkOf (Region.linearise .gc ops 0)) 0 ops.toList
def chk (ops : Array Oper) (xs : List Wr) (fs : List (Option (List Nat))) : Bool :=
  fwd ops && chkAll 0 (tch ops ops.toList xs fs) (ancL ops.toList [])

theorem chkRow_spec {x : Tch} {i : Nat} : ∀ {ys : List Tch} {ms : List Nat}, chkRow x i ys ms = true → ∀ (j : Nat) (y : Tch) (m : Nat), ys[j]? = some y → ms[j]? = some m → m.testBit i = true ∨ indep x y = true
  | [], _, _, j, y, m, hy, _ => by simp at hy
  | y0 :: ys, [], _, j, y, m, _, hm => by simp at hm
  | y0 :: ys, m0 :: ms, h, 0, y, m, hy, hm => by
    simp only [List.getElem?_cons_zero, Option.some.injEq] at hy hm
    subst hy; subst hm
    simp only [chkRow, Bool.and_eq_true, Bool.or_eq_true] at h
    exact h.1
  | y0 :: ys, m0 :: ms, h, j + 1, y, m, hy, hm => by
    simp only [chkRow, Bool.and_eq_true] at h
    exact chkRow_spec h.2 j y m (by simpa using hy) (by simpa using hm)
theorem chkAll_spec : ∀ {xs : List Tch} {ms : List Nat} {s : Nat}, chkAll s xs ms = true → ∀ (i j : Nat) (x y : Tch) (m : Nat), i < j → xs[i]? = some x → xs[j]? = some y → ms[j]? = some m → m.testBit (s + i) = true ∨ indep x y = true
  | [], _, _, _, i, j, x, y, m, _, hx, _, _ => by simp at hx
  | x0 :: xs, [], _, _, i, j, x, y, m, _, _, _, hm => by simp at hm
  | x0 :: xs, m0 :: ms, s, h, 0, j + 1, x, y, m, _, hx, hy, hm => by
    simp only [List.getElem?_cons_zero, Option.some.injEq] at hx
    subst hx
    simp only [chkAll, Bool.and_eq_true] at h
    exact chkRow_spec h.1 j y m (by simpa using hy) (by simpa using hm)
  | x0 :: xs, m0 :: ms, s, h, i + 1, j + 1, x, y, m, hij, hx, hy, hm => by
    simp only [chkAll, Bool.and_eq_true] at h
    have := chkAll_spec h.2 i j x y m (by omega) (by simpa using hx) (by simpa using hy) (by simpa using hm)
    rwa [show s + (i + 1) = s + 1 + i by omega]
theorem ancL_length : ∀ (l : List Oper) (acc : List Nat), (ancL l acc).length = acc.length + l.length
  | [], acc => rfl
  | o :: l, acc => by simp only [ancL, ancL_length l, List.length_append, List.length_nil, List.length_cons]; omega
theorem fwdM_spec {md : Region.Mode} {m : Nat} {rk : Nat → Nat} : ∀ {l : List Oper} {s : Nat}, fwdM md m rk s l = true → ∀ i o, l[i]? = some o → ∀ e ∈ o.after, Region.binds md e = true → e.on < m ∧ rk e.on < rk (s + i)
  | [], _, _, i, o, ho => by simp at ho
  | o0 :: l, s, h, 0, o, ho => by
    simp only [List.getElem?_cons_zero, Option.some.injEq] at ho
    subst ho
    simp only [fwdM, Bool.and_eq_true, List.all_eq_true, Bool.or_eq_true, Bool.not_eq_true', decide_eq_true_eq] at h
    intro e he hb
    rcases h.1 e (Array.mem_toList_iff.2 he) with h1 | h1
    · rw [hb] at h1; simp at h1
    · exact h1
  | o0 :: l, s, h, i + 1, o, ho => by
    simp only [fwdM, Bool.and_eq_true] at h
    intro e he hb
    have := fwdM_spec h.2 i o (by simpa using ho) e he hb
    rwa [show s + (i + 1) = s + 1 + i by omega]
theorem fwd_rank {ops : Array Oper} (h : fwd ops = true) (md : Region.Mode) : ∃ rk : Nat → Nat, ∀ i o, ops[i]? = some o → ∀ e ∈ o.after, Region.binds md e = true → e.on < ops.size ∧ rk e.on < rk i := by
  simp only [fwd, Bool.and_eq_true] at h
  obtain ⟨⟨h1, h2⟩, h3⟩ := h
  have key : ∀ (md : Region.Mode) (rk : Nat → Nat), fwdM md ops.size rk 0 ops.toList = true → ∀ i o, ops[i]? = some o → ∀ e ∈ o.after, Region.binds md e = true → e.on < ops.size ∧ rk e.on < rk i := by
    intro md rk hm i o ho e he hb
    have := fwdM_spec hm i o (by rw [Array.getElem?_toList]; exact ho) e he hb
    rwa [Nat.zero_add] at this
  cases md with
  | any => exact ⟨id, key _ _ h1⟩
  | text => exact ⟨id, key _ _ h2⟩
  | gc => exact ⟨_, key _ _ h3⟩
theorem plain_lt {ops : Array Oper} (h : fwd ops = true) {i : Nat} {o : Oper} (ho : ops[i]? = some o) {e : Edge} (he : e ∈ o.after) (hb : Region.binds .any e = true) : e.on < ops.size := by
  obtain ⟨rk, hrk⟩ := fwd_rank h .any
  exact (hrk i o ho e he hb).1

theorem tch_spec (ops : Array Oper) : ∀ (l : List Oper) (xs : List Wr) (fs : List (Option (List Nat))) (i : Nat) (o : Oper) (x : Wr) (f : Option (List Nat)), l[i]? = some o → xs[i]? = some x → fs[i]? = some f →
    (tch ops l xs fs)[i]? = some ⟨o.dst, o.looksAt ops, x.blk.map (·.1), f⟩
  | o :: l, x :: xs, f :: fs, 0, o', x', f', h1, h2, h3 => by
    simp only [List.getElem?_cons_zero, Option.some.injEq] at h1 h2 h3
    subst h1; subst h2; subst h3
    simp [tch]
  | o :: l, x :: xs, f :: fs, i + 1, o', x', f', h1, h2, h3 => by
    simp only [tch, List.getElem?_cons_succ]
    exact tch_spec ops l xs fs i o' x' f' (by simpa using h1) (by simpa using h2) (by simpa using h3)
  | [], _, _, i, _, _, _, h1, _, _ => by simp at h1
  | _ :: _, [], _, i, _, _, _, _, h2, _ => by simp at h2
  | _ :: _, _ :: _, [], i, _, _, _, _, _, h3 => by simp at h3

section
variable {P : Program} {sp : List (Spec P)} {n : Nat} {ops : Array Oper}

theorem RunL_len : ∀ {l : List Oper} {E : Env} {H : Hp} {xs : List Wr} {fs : List (Option (List Nat))}, RunL sp n ops l E H xs fs → xs.length = l.length ∧ fs.length = l.length
  | [], _, _, [], [], _ => ⟨rfl, rfl⟩
  | o :: l, E, H, x :: xs, f :: fs, h => by
    obtain ⟨c, _, _, hr⟩ := h
    have := RunL_len hr
    simp [this.1, this.2]
  | [], _, _, _ :: _, _, h => by simp [RunL] at h
  | [], _, _, [], _ :: _, h => by simp [RunL] at h
  | _ :: _, _, _, [], _, h => by simp [RunL] at h
  | _ :: _, _, _, _ :: _, [], h => by simp [RunL] at h

theorem foldE_false (xs : List Wr) : ∀ (i : Nat) (D : Nat → Bool) (E : Env), (∀ j, D (i + j) = false) → foldE xs i D E = E := by
  induction xs with
  | nil => intro i D E _; rfl
  | cons x xs ih =>
    intro i D E h
    simp only [foldE]
    rw [show D i = false from h 0]
    exact ih (i + 1) D E (fun j => by have := h (j + 1); rwa [show i + (j + 1) = i + 1 + j by omega] at this)
theorem foldH_false (xs : List Wr) : ∀ (i : Nat) (D : Nat → Bool) (E : Hp), (∀ j, D (i + j) = false) → foldH xs i D E = E := by
  induction xs with
  | nil => intro i D E _; rfl
  | cons x xs ih =>
    intro i D E h
    simp only [foldH]
    rw [show D i = false from h 0]
    exact ih (i + 1) D E (fun j => by have := h (j + 1); rwa [show i + (j + 1) = i + 1 + j by omega] at this)

/-- what each operation of the text does, from the state of those before it in the text -/
theorem RunL_at : ∀ {l : List Oper} {E : Env} {H : Hp} {xs : List Wr} {fs : List (Option (List Nat))} (s : Nat), RunL sp n ops l E H xs fs → ∀ (i : Nat) (o : Oper) (x : Wr) (f : Option (List Nat)), l[i]? = some o → xs[i]? = some x → fs[i]? = some f →
    ∃ c, opG sp n ops o (foldE xs s (fun j => decide (j < s + i)) E) (foldH xs s (fun j => decide (j < s + i)) H) = some (c, x, f) ∧ c
  | o :: l, E, H, x :: xs, f :: fs, s, h, 0, o', x', f', h1, h2, h3 => by
    simp only [List.getElem?_cons_zero, Option.some.injEq] at h1 h2 h3
    subst h1; subst h2; subst h3
    obtain ⟨c, hs, hc, hr⟩ := h
    rw [foldE_false _ s _ E (fun j => by simp), foldH_false _ s _ H (fun j => by simp)]
    exact ⟨c, hs, hc⟩
  | o :: l, E, H, x :: xs, f :: fs, s, h, i + 1, o', x', f', h1, h2, h3 => by
    obtain ⟨c, hs, hc, hr⟩ := h
    have ih := RunL_at (s + 1) hr i o' x' f' (by simpa using h1) (by simpa using h2) (by simpa using h3)
    have e : (fun j => decide (j < s + 1 + i)) = fun j => decide (j < s + (i + 1)) := by funext j; congr 1; rw [Nat.add_right_comm, Nat.add_assoc]
    rw [e] at ih
    have h0 : decide (s < s + (i + 1)) = true := by simp
    simp only [foldE, foldH, h0, if_true]
    simpa only [List.getElem?_cons_succ] using ih
  | [], _, _, _, _, _, _, i, _, _, _, h1, _, _ => by simp at h1
  | _ :: _, _, _, [], _, _, _, i, _, _, _, _, h2, _ => by simp at h2
  | _ :: _, _, _, _ :: _, [], _, _, i, _, _, _, _, _, h3 => by simp at h3

def stFinE (xs : List Wr) (E : Env) : Env := foldE xs 0 (fun _ => true) E
def stFinH (xs : List Wr) (H : Hp) : Hp := foldH xs 0 (fun _ => true) H

variable {M : Ctx} {w0 : World} {E : Env} {H : Hp} {xs : List Wr} {fs : List (Option (List Nat))} {Q : Exit → Act → World → Prop}

/-- one more operation, whichever stands ready, takes the state of those that have been to that of those and it -/
theorem any_step (hrun : RunL sp n ops ops.toList E H xs fs) (hchk : chk ops xs fs = true) {D : Nat → Bool} (hcl : Closed ops D) {i : Nat} {o : Oper} (ho : ops[i]? = some o) (hi : D i = false) (hdep : ∀ k, Dep ops i k → D k = true)
    {I : Nat → Nat} {a : Act} {w : World} (hW : WF (foldE xs 0 D E) (foldH xs 0 D H)) (hA : At M w0 n I (foldE xs 0 D E) (foldH xs 0 D H) a w) :
    wpOp P ops Q i (fun a' w' => WF (foldE xs 0 (fun j => D j || j == i) E) (foldH xs 0 (fun j => D j || j == i) H) ∧ ∃ I', At M w0 n I' (foldE xs 0 (fun j => D j || j == i) E) (foldH xs 0 (fun j => D j || j == i) H) a' w') a w := by
  have hlt : i < ops.size := (Array.getElem?_eq_some_iff.1 ho).1
  obtain ⟨hl1, hl2⟩ := RunL_len hrun
  have hsz : ops.toList.length = ops.size := Array.length_toList
  rw [hsz] at hl1 hl2
  obtain ⟨x, hx⟩ : ∃ x, xs[i]? = some x := ⟨_, List.getElem?_eq_getElem (by omega)⟩
  obtain ⟨f, hf⟩ : ∃ f, fs[i]? = some f := ⟨_, List.getElem?_eq_getElem (by omega)⟩
  have hol : ops.toList[i]? = some o := by rw [Array.getElem?_toList]; exact ho
  obtain ⟨c, hs, hc⟩ := RunL_at 0 hrun i o x f hol hx hf
  simp only [chk, Bool.and_eq_true] at hchk
  obtain ⟨_, hall⟩ := hchk
  -- D with i
  have hcl' : Closed ops (fun j => D j || j == i) := by
    intro j k hj hd
    simp only [Bool.or_eq_true, beq_iff_eq] at hj ⊢
    rcases hj with hj | rfl
    · exact .inl (hcl j k hj hd)
    · exact .inl (hdep k hd)
  -- pairs
  have pair : ∀ (j : Nat) (y : Wr) (g : Option (List Nat)) (oj : Oper), ops[j]? = some oj → xs[j]? = some y → fs[j]? = some g → j ≠ i → D j = decide (j < i) ∨
      indep ⟨o.dst, o.looksAt ops, x.blk.map (·.1), f⟩ ⟨oj.dst, oj.looksAt ops, y.blk.map (·.1), g⟩ = true ∨ indep ⟨oj.dst, oj.looksAt ops, y.blk.map (·.1), g⟩ ⟨o.dst, o.looksAt ops, x.blk.map (·.1), f⟩ = true := by
    intro j y g oj hoj hy hg hne
    have hjl : ops.toList[j]? = some oj := by rw [Array.getElem?_toList]; exact hoj
    have hjs : j < ops.size := (Array.getElem?_eq_some_iff.1 hoj).1
    have t1 := tch_spec ops ops.toList xs fs i o x f hol hx hf
    have t2 := tch_spec ops ops.toList xs fs j oj y g hjl hy hg
    have hlen := ancL_length ops.toList []
    simp only [List.length_nil, Nat.zero_add, Array.length_toList] at hlen
    have hanc := fun (D' : Nat → Bool) (h : Closed ops D') => anc_ok h ops.toList [] (fun j => by simp [Array.getElem?_toList]) (by simp)
    rcases Nat.lt_or_ge j i with hji | hij
    · obtain ⟨m, hm⟩ : ∃ m, (ancL ops.toList [])[i]? = some m := ⟨_, List.getElem?_eq_getElem (by omega)⟩
      rcases chkAll_spec hall j i _ _ m hji t2 t1 hm with hb | hb
      · rw [Nat.zero_add] at hb
        have := hanc _ hcl' i m j hm hb (by simp)
        simp only [Bool.or_eq_true, beq_iff_eq, hne, or_false] at this
        exact .inl (by rw [this]; simp [hji])
      · exact .inr (.inr hb)
    · have hij' : i < j := by omega
      obtain ⟨m, hm⟩ : ∃ m, (ancL ops.toList [])[j]? = some m := ⟨_, List.getElem?_eq_getElem (by omega)⟩
      rcases chkAll_spec hall i j _ _ m hij' t1 t2 hm with hb | hb
      · rw [Nat.zero_add] at hb
        cases hD : D j with
        | false => exact .inl (by simp; omega)
        | true =>
          have := hanc _ hcl j m i hm hb hD
          rw [hi] at this; simp at this
      · exact .inr (.inl hb)
  have ops_at : ∀ (j : Nat) (y : Wr), xs[j]? = some y → ∃ oj g, ops[j]? = some oj ∧ fs[j]? = some g := by
    intro j y hy
    have : j < xs.length := (List.getElem?_eq_some_iff.1 hy).1
    exact ⟨_, _, Array.getElem?_eq_getElem (by omega), List.getElem?_eq_getElem (by omega)⟩
  have slot_dst : ∀ (j : Nat) (y : Wr) (oj : Oper) (g : Option (List Nat)), ops[j]? = some oj → xs[j]? = some y → fs[j]? = some g → ∀ t e, y.slot = some (t, e) → oj.dst = some t := by
    intro j y oj g hoj hy hg t e he
    obtain ⟨c', hs', _⟩ := RunL_at 0 hrun j oj y g (by rw [Array.getElem?_toList]; exact hoj) hy hg
    exact opG_dst hs' t e he
  -- what it looks at is as in the text
  have hEq : ∀ t ∈ o.looksAt ops, foldE xs 0 D E t = foldE xs 0 (fun j => decide (j < 0 + i)) E t := by
    intro t ht
    refine foldE_agree t xs 0 D _ E E rfl (fun j y e hy he => ?_)
    simp only [Nat.zero_add]
    by_cases hne : j = i
    · subst hne; rw [hi]; simp
    · obtain ⟨oj, g, hoj, hg⟩ := ops_at j y hy
      have hdj := slot_dst j y oj g hoj hy hg t e he
      rcases pair j y g oj hoj hy hg hne with h | h | h
      · exact h
      · simp only [indep, apartS, hdj, Bool.and_eq_true] at h
        have := h.1.1.2.1
        simp [ht] at this
      · simp only [indep, apartS, hdj, Bool.and_eq_true] at h
        have := h.1.1.1.1
        simp [ht] at this
  have hFp : FpOK f (foldH xs 0 (fun j => decide (j < 0 + i)) H) (foldH xs 0 D H) := by
    have hk : ∀ k, (∀ l, f = some l → k ∈ l) → foldH xs 0 D H k = foldH xs 0 (fun j => decide (j < 0 + i)) H k := by
      intro k hkf
      refine foldH_agree k xs 0 D _ H H rfl (fun j y e hy he => ?_)
      simp only [Nat.zero_add]
      by_cases hne : j = i
      · subst hne; rw [hi]; simp
      · obtain ⟨oj, g, hoj, hg⟩ := ops_at j y hy
        rcases pair j y g oj hoj hy hg hne with h | h | h
        · exact h
        · simp only [indep, Bool.and_eq_true] at h
          have := h.2
          simp only [apartB, he, Option.map_some, Bool.and_eq_true] at this
          cases f with
          | none => simp at this
          | some l => have hm := hkf l rfl; simp [hm] at this
        · simp only [indep, Bool.and_eq_true] at h
          have := h.1.2
          simp only [apartB, he, Option.map_some, Bool.and_eq_true] at this
          cases f with
          | none => simp at this
          | some l => have hm := hkf l rfl; simp [hm] at this
    cases f with
    | none => exact funext fun k => hk k (by simp)
    | some l => exact fun k hkl => hk k (by intro l' hl'; simp only [Option.some.injEq] at hl'; subst hl'; exact hkl)
  have hs' := opG_local hEq hs hFp
  -- what it leaves is as in the text
  have hE' : x.E (foldE xs 0 D E) = foldE xs 0 (fun j => D j || j == i) E := by
    funext t
    cases hsl : x.slot with
    | none =>
      simp only [Wr.E, hsl]
      refine foldE_agree t xs 0 D _ E E rfl (fun j y e hy he => ?_)
      by_cases hne : j = i
      · subst hne; rw [hx] at hy; simp only [Option.some.injEq] at hy; subst hy; rw [hsl] at he; simp at he
      · simp [hne]
    | some p =>
      obtain ⟨t', e'⟩ := p
      simp only [Wr.E, hsl, upd]
      by_cases ht : t = t'
      · subst ht
        rw [if_pos rfl]
        refine (foldE_last t e' xs 0 _ E i x hx hsl (by simp) (fun k y e2 hk hy he => ?_)).symm
        simp only [Nat.zero_add]
        have hne : k ≠ i := by omega
        obtain ⟨oj, g, hoj, hg⟩ := ops_at k y hy
        have hdj := slot_dst k y oj g hoj hy hg t e2 he
        have hdi := slot_dst i x o f ho hx hf t e' hsl
        rcases pair k y g oj hoj hy hg hne with h | h | h
        · rw [h]; simp [hne]; omega
        · simp [indep, apartS, hdj, hdi] at h
        · simp [indep, apartS, hdj, hdi] at h
      · rw [if_neg ht]
        refine foldE_agree t xs 0 D _ E E rfl (fun j y e hy he => ?_)
        by_cases hne : j = i
        · subst hne; rw [hx] at hy; simp only [Option.some.injEq] at hy; subst hy; rw [hsl] at he; simp at he; exact absurd he.1.symm ht
        · simp [hne]
  have hH' : x.H (foldH xs 0 D H) = foldH xs 0 (fun j => D j || j == i) H := by
    funext t
    cases hsl : x.blk with
    | none =>
      simp only [Wr.H, hsl]
      refine foldH_agree t xs 0 D _ H H rfl (fun j y e hy he => ?_)
      by_cases hne : j = i
      · subst hne; rw [hx] at hy; simp only [Option.some.injEq] at hy; subst hy; rw [hsl] at he; simp at he
      · simp [hne]
    | some p =>
      obtain ⟨t', e'⟩ := p
      simp only [Wr.H, hsl, upd]
      by_cases ht : t = t'
      · subst ht
        rw [if_pos rfl]
        refine (foldH_last t e' xs 0 _ H i x hx hsl (by simp) (fun k y e2 hk hy he => ?_)).symm
        simp only [Nat.zero_add]
        have hne : k ≠ i := by omega
        obtain ⟨oj, g, hoj, hg⟩ := ops_at k y hy
        rcases pair k y g oj hoj hy hg hne with h | h | h
        · rw [h]; simp [hne]; omega
        · simp [indep, apartB, he, hsl] at h
        · simp [indep, apartB, he, hsl] at h
      · rw [if_neg ht]
        refine foldH_agree t xs 0 D _ H H rfl (fun j y e hy he => ?_)
        by_cases hne : j = i
        · subst hne; rw [hx] at hy; simp only [Option.some.injEq] at hy; subst hy; rw [hsl] at he; simp at he; exact absurd he.1.symm ht
        · simp [hne]
  rw [← hE', ← hH']
  exact opG_ok ho hA hW hs' hc
end
end Go.Sx
