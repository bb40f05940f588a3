/- The program's parser: its start. No conditions but those in each statement. -/
import Derived.Test.YtodppgiaimihfabDoorPq11
set_option linter.unusedVariables false
set_option linter.unusedSimpArgs false
namespace Go.Proofs.YtodppgiaimihfabDoor
open Go Go.Sy Go.RowKit
theorem toks_eq (s : List UInt8) : toksV (lxT s) = .tup [.inl (.d (.sl zTk ((rxT s).1.map Tok.r))), .inl (.v (.int .i64 (rxT s).2.1)), .inl (.v (.int .i64 (rxT s).2.2))] := by rw [lx_rx]; rfl
theorem y_qTok : CallsY Tryd.prog 20 (acS cStr ac0) (fun p : List UInt8 × Unit => smallB p.1) (fun p => .tup [.inl (.d (.sl zTk ((rxT p.1).1.map Tok.r))), .inl (.v (.int .i64 (rxT p.1).2.1)), .inl (.v (.int .i64 (rxT p.1).2.2))]) := by
  have h : (fun p : List UInt8 × Unit => yr_Tokens p.1) = (fun p => .tup [.inl (.d (.sl zTk ((rxT p.1).1.map Tok.r))), .inl (.v (.int .i64 (rxT p.1).2.1)), .inl (.v (.int .i64 (rxT p.1).2.2))]) := by
    funext p; exact toks_eq p.1
  rw [← h]; exact y_Tokens
noncomputable def yp_qTok {X : Ctx} {w0 : World} : Sy.Spec Tryd.prog X w0 := specD 20 Tryd.call20 (acS cStr ac0) (fun p => smallB p.1) (fun p => .tup [.inl (.d (.sl zTk ((rxT p.1).1.map Tok.r))), .inl (.v (.int .i64 (rxT p.1).2.1)), .inl (.v (.int .i64 (rxT p.1).2.2))]) (by intro p; rfl) y_qTok
/-- the parser at a text's begin, or what is wrong with the text -/
def pofB (s : List UInt8) : Bool := (rxT s).2.2 != 0
def pofR (s : List UInt8) : SV := if pofB s = true then .tup [.inl (.v (.pointer none)), .inl (.v (.int .i64 (rxT s).2.1)), .inl (.v (.int .i64 (rxT s).2.2))] else .tup [.inl (.p 0 0 0), .inl (.v (.int .i64 0)), .inl (.v (.int .i64 0))]
def pofM (s : List UInt8) : List (Option MV) := if pofB s = true then [] else [some (zPq, [(p0 (rxT s).1 (s.length : Int)).q])]
theorem pof_t {s : List UInt8} (h : pofB s = true) : pofR s = .tup [.inl (.v (.pointer none)), .inl (.v (.int .i64 (rxT s).2.1)), .inl (.v (.int .i64 (rxT s).2.2))] ∧ pofM s = [] := by unfold pofR pofM; rw [h]; exact ⟨rfl, rfl⟩
theorem pof_f {s : List UInt8} (h : pofB s = false) : pofR s = .tup [.inl (.p 0 0 0), .inl (.v (.int .i64 0)), .inl (.v (.int .i64 0))] ∧ pofM s = [some (zPq, [(p0 (rxT s).1 (s.length : Int)).q])] := by unfold pofR pofM; rw [h]; exact ⟨rfl, rfl⟩
theorem pof_len (s : List UInt8) : lenM 0 (pofM s) = true := by
  cases h : pofB s with
  | true => rw [(pof_t h).2]; rfl
  | false => rw [(pof_f h).2]; rfl
theorem pof_out (s : List UInt8) : outV (pofM s).length (pofR s) = true := by
  cases h : pofB s with
  | true => rw [(pof_t h).1, (pof_t h).2]; rfl
  | false => rw [(pof_f h).1, (pof_f h).2]; rfl
theorem pof_nm (s : List UInt8) : ∀ q, some q ∈ pofM s → ∀ r ∈ q.2, ∀ c ∈ r, c.names = [] := by
  cases h : pofB s with
  | true => rw [(pof_t h).2]; intro q hq; cases hq
  | false => rw [(pof_f h).2]; exact memq_nm _
abbrev yc_qparserOf (s : List UInt8) : Prop := smallB s
abbrev yr_qparserOf (s : List UInt8) : SV := pofR s
abbrev ym_qparserOf (s : List UInt8) : List (Option MV) := pofM s
noncomputable abbrev ya_qparserOf : ArgM ((List UInt8) × Unit) := (amD (cStr) am0)
abbrev yq_qparserOf : Prop := CallsM Tryd.prog 12 ((ya_qparserOf).args 0) (ya_qparserOf).mem (fun p : (List UInt8) × Unit => yc_qparserOf p.1) (fun p : (List UInt8) × Unit => yr_qparserOf p.1) (fun p : (List UInt8) × Unit => ym_qparserOf p.1)
theorem yl_qparserOf : ∀ p, (fun p : (List UInt8) × Unit => yc_qparserOf p.1) p → lenM ((ya_qparserOf).mem p).length ((fun p : (List UInt8) × Unit => ym_qparserOf p.1) p) = true := by intro p _; exact pof_len _
theorem yo_qparserOf : ∀ p, (fun p : (List UInt8) × Unit => yc_qparserOf p.1) p → outV ((fun p : (List UInt8) × Unit => ym_qparserOf p.1) p).length ((fun p : (List UInt8) × Unit => yr_qparserOf p.1) p) = true := by intro p _; exact pof_out _
theorem yn_qparserOf : ∀ p, (fun p : (List UInt8) × Unit => yc_qparserOf p.1) p → ∀ q, some q ∈ (fun p : (List UInt8) × Unit => ym_qparserOf p.1) p → ∀ r ∈ q.2, ∀ c ∈ r, c.names = [] := by intro p _; exact pof_nm _
theorem y_qparserOf : yq_qparserOf := by
  rintro ⟨s, _u⟩ w M I lab fz xs hc hA hl hx
  refine calls_toML Tryd.func12 rfl ((ya_qparserOf).mem ⟨s, _u⟩) w M I lab fz [yp_qTok] [] ((ya_qparserOf).args 0 ⟨s, _u⟩) ((fun p : (List UInt8) × Unit => ym_qparserOf p.1) ⟨s, _u⟩) ((fun p : (List UInt8) × Unit => yr_qparserOf p.1) ⟨s, _u⟩) xs hA hl hx (fun v hv k hk => by have := (ya_qparserOf).an 0 ⟨s, _u⟩ v hv k hk; omega) (Nat.le_of_ble_eq_true rfl) (lenM_len (yl_qparserOf ⟨s, _u⟩ hc) |>.1) ?_
  clear hx hl hA xs
  simp only [Tryd.f12]
  have hs : smallB s := hc
  cases h : pofB s with
  | true =>
    obtain ⟨e1, e2⟩ := pof_t h
    unfold pofB at h
    simp only [↓eB, seval, go_sem, yp_qTok, mPq_e, mPq_z, mPq_d, Pr.q, tkq_at, Tok.r, zTk, cPt_d, cPt_e, ptR, rPq_e, rPq_z, Pr.s, rPq_d, mPq_d', rPq_d', pr_eta, pnOf_t, pnOf_f, h]
    try simp only [impB, impN]
    repeat' first | exact ck | with_reducible apply And.intro | intro _
    all_goals first | exact hs | (rename_i h; first | exact oI h | exact nah h) | (rename_i _ h _ g; exact sL h g) | decide | omega | (refine ret_with [] ?_; simp only [↓eB, seval, go_sem, bne, yr_qparserOf, ym_qparserOf, e1, e2])
  | false =>
    obtain ⟨e1, e2⟩ := pof_f h
    unfold pofB at h
    simp only [↓eB, seval, go_sem, yp_qTok, mPq_e, mPq_z, mPq_d, Pr.q, tkq_at, Tok.r, zTk, cPt_d, cPt_e, ptR, rPq_e, rPq_z, Pr.s, rPq_d, mPq_d', rPq_d', pr_eta, pnOf_t, pnOf_f, h]
    try simp only [impB, impN]
    repeat' first | exact ck | with_reducible apply And.intro | intro _
    all_goals first | exact hs | (rename_i h; first | exact oI h | exact nah h) | (rename_i _ h _ g; exact sL h g) | decide | omega | (refine ret_with [.mv 23 0] ?_; simp only [↓eB, seval, go_sem, bne, yr_qparserOf, ym_qparserOf, e1, e2, zTk, Pr.q, Pr.x, p0])
noncomputable def yp_qparserOf {X : Ctx} {w0 : World} : Sy.Spec Tryd.prog X w0 := specM 12 Tryd.call12 (ya_qparserOf) (fun p : (List UInt8) × Unit => yc_qparserOf p.1) (fun p : (List UInt8) × Unit => yr_qparserOf p.1) (fun p : (List UInt8) × Unit => ym_qparserOf p.1) yl_qparserOf yo_qparserOf yn_qparserOf y_qparserOf
end Go.Proofs.YtodppgiaimihfabDoor
