import Derived.Test.YtfadafgnahhmdaaD
namespace Go.Proofs.Ytfadafgnahhmdaa.X
open Go.RowKit Go.Proofs.YtfadafgnahhmdaaW.PrintWords Go.Proofs.YtfadafgnahhmdaaW.PrintLast Go.Proofs.YtfadafgnahhmdaaW.PrintMore Go.Proofs.Ytfadafgnahhmdaa.E
attribute [local go_sem] max2_int min2_int max_two min_two max_three min_three max_four min_four
set_option linter.unusedVariables false
set_option linter.unusedSimpArgs false

theorem wrap64_0 : wrap64 0 = 0 := by unfold wrap64; decide
theorem wrap64_1 : wrap64 1 = 1 := by unfold wrap64; decide
/-! ### the timers' steps on their cells, as numbers -/
/-- what the names of a timer's variables hold -/
structure Tm (f : ByteArray → Int) (i : Bool) (pt : Int) (q : Bool) (et : Int) (m : Bool) (s : Int) : Prop where
  h1 : f ⟨#[73, 78]⟩ = B.b2i i
  h2 : f ⟨#[80, 84]⟩ = pt
  h3 : f ⟨#[81]⟩ = B.b2i q
  h4 : f ⟨#[69, 84]⟩ = et
  h5 : f ⟨#[77]⟩ = B.b2i m
  h6 : f ⟨#[83]⟩ = s
theorem clamp_in (now : Int) (h5 : 0 ≤ now) (h7 : now ≤ 4611686018427387904) : B.clampT now = now := by unfold B.clampT; rw [if_neg (show ¬ now < 0 by omega), if_neg (by omega)]
/-- a timer's step, by what it does on the names -/
theorem tm_step (k : Int) (hk : k = 8 ∨ k = 9 ∨ k = 10) (i b0 : Bool) (pt p0 : Int) (q : Bool) (et : Int) (m : Bool) (s now : Int) (h1 : 0 ≤ pt) (h2 : pt ≤ 4611686018427387904) (h3 : 0 ≤ et) (h4 : et ≤ 4611686018427387904) (h5 : 0 ≤ s) (h6 : s ≤ now) (h7 : now ≤ 4611686018427387904)
    (q' : Bool) (et' : Int) (s' : Int) (h : ∀ f, Tm f i pt q et m s → Tm (B.stepF k f now) i pt q' et' i s') :
    B.stepC k (([bv i, tv pt] ++ [bv b0, tv p0, bv q, tv et, bv m, tv s].drop 2).map tup) now = ([bv i, tv pt, bv q', tv et', bv i, tv s'].map tup, 0) := by
  have e1 := w64_u pt (by omega) (by omega)
  have e2 := w64_u et (by omega) (by omega)
  have e3 := w64_u s (by omega) (by omega)
  have e4 := clamp_in now (by omega) h7
  have hv : B.varsU k = [(⟨#[73, 78]⟩, 1, 1, false), (⟨#[80, 84]⟩, 1, 14, false), (⟨#[81]⟩, 2, 1, false), (⟨#[69, 84]⟩, 2, 14, false), (⟨#[77]⟩, 4, 1, false), (⟨#[83]⟩, 4, 14, false)] := by
    rcases hk with rfl | rfl | rfl <;> simp [B.varsU, B.vars]
  have hT := h (B.loadF (B.pairs (B.varsU k) (([bv i, tv pt] ++ [bv b0, tv p0, bv q, tv et, bv m, tv s].drop 2).map tup))) (by
    rw [hv]
    cases i <;> cases q <;> cases m <;> constructor <;> simp [B.pairs, B.loadF, B.upd, tup, bv, tv, B.b2i, e1, e2, e3, wrap64_0, wrap64_1])
  have hok : B.okAll (B.varsU k) (([bv i, tv pt] ++ [bv b0, tv p0, bv q, tv et, bv m, tv s].drop 2).map tup) = true := by
    rw [hv]
    cases i <;> cases q <;> cases m <;> simp [B.okAll, B.okC, B.mayP, tup, bv, tv, B.b2i, bytes0]
  unfold B.stepC
  rw [if_neg (by rw [hv]; simp), if_pos hok, e4]
  generalize B.stepF k _ now = g at hT
  rw [hv]
  simp [B.outs, hT.h1, hT.h2, hT.h3, hT.h4, hT.h5, hT.h6, tup, bv, tv]
  cases i <;> cases q' <;> simp [B.b2i, u64_0, u64_1]
section
variable {f : ByteArray → Int} {i : Bool} {pt : Int} {q : Bool} {et : Int} {m : Bool} {s now : Int}
theorem Tm.isq (h : Tm f i pt q et m s) : (f ⟨#[81]⟩ == 1) = q := by rw [h.h3]; cases q <;> rfl
theorem Tm.ism (h : Tm f i pt q et m s) : (f ⟨#[77]⟩ == 1) = m := by rw [h.h5]; cases m <;> rfl
theorem Tm.isi (h : Tm f i pt q et m s) : (f ⟨#[73, 78]⟩ == 1) = i := by rw [h.h1]; cases i <;> rfl
theorem Tm.span (h : Tm f i pt q et m s) (hp : 0 ≤ pt) : B.spanF f = pt := by
  unfold B.spanF; rw [h.h2]; split <;> omega
theorem Tm.since (h : Tm f i pt q et m s) (h0 : 0 ≤ s) (h1 : s ≤ now) : B.sinceF f now = now - s := by
  unfold B.sinceF; rw [h.h6, if_neg (by omega), if_neg (by omega)]
theorem Tm.setq (h : Tm f i pt q et m s) (q' : Bool) (v : Int) (hv : v = B.b2i q') : Tm (B.upd f ⟨#[81]⟩ v) i pt q' et m s := by
  subst hv; obtain ⟨a, b, c, d, e, g⟩ := h; constructor <;> simp [B.upd, a, b, c, d, e, g]
theorem Tm.sete (h : Tm f i pt q et m s) (e' : Int) : Tm (B.setET f e') i pt q e' m s := by
  obtain ⟨a, b, c, d, e, g⟩ := h; constructor <;> simp [B.setET, B.upd, a, b, c, d, e, g]
theorem Tm.sets (h : Tm f i pt q et m s) (s' : Int) : Tm (B.upd f ⟨#[83]⟩ s') i pt q et m s' := by
  obtain ⟨a, b, c, d, e, g⟩ := h; constructor <;> simp [B.upd, a, b, c, d, e, g]
theorem Tm.setm (h : Tm f i pt q et m s) : Tm (B.after ⟨#[77]⟩ ⟨#[73, 78]⟩ f) i pt q et i s := by
  have hi := h.isi
  obtain ⟨a, b, c, d, e, g⟩ := h; constructor <;> simp [B.after, B.upd, a, b, c, d, e, g, hi]
  cases i <;> simp [B.b2i]
end
def tpS (i : Bool) (pt : Int) (q : Bool) (et : Int) (m : Bool) (s now : Int) : Bool × Int × Int :=
  if q = true ∧ ¬ pt ≤ now - s then (true, now - s, s)
  else if i = true ∧ m = false then (decide (0 < pt), 0, now)
  else if i = true then (false, if q = true then pt else et, s) else (false, 0, s)
theorem tpB_abs (f : ByteArray → Int) (i : Bool) (pt : Int) (et : Int) (m : Bool) (s now : Int) (hf : Tm f i pt false et m s) (h1 : 0 ≤ pt) :
    Tm (B.tpB f now) i pt (if i = true ∧ m = false then decide (0 < pt) else false) (if i = true ∧ m = false then 0 else if i = true then et else 0) m (if i = true ∧ m = false then now else s) := by
  have hq := hf.isq
  cases i with
  | true =>
    cases m with
    | false =>
      rw [B.tpB_2 hq (by rw [hf.isi, hf.ism]; rfl)]
      have h2 := (hf.sets now).sete 0
      rw [h2.span h1]
      exact h2.setq (decide (0 < pt)) _ rfl
    | true =>
      rw [B.tpB_3 hq (by rw [hf.isi, hf.ism]; rfl) hf.isi]
      exact hf
  | false =>
    rw [B.tpB_4 hq (by rw [hf.isi]; rfl) hf.isi]
    exact hf.sete 0
theorem tp_abs (f : ByteArray → Int) (i : Bool) (pt : Int) (q : Bool) (et : Int) (m : Bool) (s now : Int) (hf : Tm f i pt q et m s) (h1 : 0 ≤ pt) (h5 : 0 ≤ s) (h6 : s ≤ now) :
    Tm (B.tpF f now) i pt (tpS i pt q et m s now).1 (tpS i pt q et m s now).2.1 i (tpS i pt q et m s now).2.2 := by
  unfold B.tpF
  have hfin : ∀ (q2 : Bool) (e2 : Int) (m2 : Bool) (s2 : Int), Tm (B.tpB (B.tpA f now) now) i pt q2 e2 m2 s2 → (q2, e2, s2) = tpS i pt q et m s now → Tm (B.after ⟨#[77]⟩ ⟨#[73, 78]⟩ (B.tpB (B.tpA f now) now)) i pt (tpS i pt q et m s now).1 (tpS i pt q et m s now).2.1 i (tpS i pt q et m s now).2.2 := by
    intro q2 e2 m2 s2 h e
    rw [← e]
    exact h.setm
  cases q with
  | true =>
    by_cases hp : pt ≤ now - s
    · have hA : Tm (B.tpA f now) i pt false pt m s := by
        rw [B.tpA_1 hf.isq (by rw [hf.span h1, hf.since h5 h6]; exact decide_eq_true hp)]
        have h2 := hf.setq false 0 rfl
        rw [h2.span h1]
        exact h2.sete pt
      exact hfin _ _ _ _ (tpB_abs _ i pt pt m s now hA h1) (by cases i <;> cases m <;> simp [tpS, hp])
    · have hA : Tm (B.tpA f now) i pt true (now - s) m s := by
        rw [B.tpA_2 hf.isq (by rw [hf.span h1, hf.since h5 h6]; exact decide_eq_false hp), hf.since h5 h6]
        exact hf.sete _
      rw [B.tpB_1 hA.isq] at hfin
      exact hfin _ _ _ _ hA (by simp [tpS, hp]) |> (by rw [B.tpB_1 hA.isq]; exact ·)
  | false =>
    have hA : B.tpA f now = f := B.tpA_3 hf.isq
    rw [hA] at hfin ⊢
    exact hfin _ _ _ _ (tpB_abs f i pt et m s now hf h1) (by cases i <;> cases m <;> simp [tpS])
theorem tp_step (i b0 : Bool) (pt p0 : Int) (q : Bool) (et : Int) (m : Bool) (s now : Int) (h1 : 0 ≤ pt) (h2 : pt ≤ 4611686018427387904) (h3 : 0 ≤ et) (h4 : et ≤ 4611686018427387904) (h5 : 0 ≤ s) (h6 : s ≤ now) (h7 : now ≤ 4611686018427387904) :
    B.stepC 8 (([bv i, tv pt] ++ [bv b0, tv p0, bv q, tv et, bv m, tv s].drop 2).map tup) now = ([bv i, tv pt, bv (tpS i pt q et m s now).1, tv (tpS i pt q et m s now).2.1, bv i, tv (tpS i pt q et m s now).2.2].map tup, 0) :=
  tm_step 8 (.inl rfl) i b0 pt p0 q et m s now h1 h2 h3 h4 h5 h6 h7 _ _ _ (fun f hf => tp_abs f i pt q et m s now hf h1 h5 h6)
def tonS (i : Bool) (pt : Int) (q : Bool) (et : Int) (m : Bool) (s now : Int) : Bool × Int × Int :=
  if i = true then (decide (pt ≤ now - (if m = true then s else now)), B.mnI (now - (if m = true then s else now)) pt, if m = true then s else now) else (false, 0, s)
theorem tonB_abs (f : ByteArray → Int) (i : Bool) (pt : Int) (q : Bool) (et : Int) (m : Bool) (s now : Int) (hf : Tm f i pt q et m s) (h1 : 0 ≤ pt) (h5 : 0 ≤ s) (h6 : s ≤ now) :
    Tm (B.tonB f now) i pt (decide (pt ≤ now - s)) (B.mnI (now - s) pt) m s := by
  unfold B.tonB
  rw [hf.span h1, hf.since h5 h6]
  have h2 := hf.setq (decide (pt ≤ now - s)) _ rfl
  rw [h2.span h1, h2.since h5 h6]
  exact h2.sete _
theorem ton_abs (f : ByteArray → Int) (i : Bool) (pt : Int) (q : Bool) (et : Int) (m : Bool) (s now : Int) (hf : Tm f i pt q et m s) (h1 : 0 ≤ pt) (h5 : 0 ≤ s) (h6 : s ≤ now) :
    Tm (B.tonF f now) i pt (tonS i pt q et m s now).1 (tonS i pt q et m s now).2.1 i (tonS i pt q et m s now).2.2 := by
  unfold B.tonF
  cases i with
  | true =>
    rw [if_pos hf.isi]
    cases m with
    | true =>
      rw [if_pos hf.ism]
      exact (tonB_abs f true pt q et true s now hf h1 h5 h6).setm
    | false =>
      rw [if_neg (by rw [hf.ism]; decide)]
      exact (tonB_abs _ true pt q et false now now (hf.sets now) h1 (by omega) (Int.le_refl _)).setm
  | false =>
    rw [if_neg (by rw [hf.isi]; decide)]
    exact ((hf.setq false 0 rfl).sete 0).setm
theorem ton_step (i b0 : Bool) (pt p0 : Int) (q : Bool) (et : Int) (m : Bool) (s now : Int) (h1 : 0 ≤ pt) (h2 : pt ≤ 4611686018427387904) (h3 : 0 ≤ et) (h4 : et ≤ 4611686018427387904) (h5 : 0 ≤ s) (h6 : s ≤ now) (h7 : now ≤ 4611686018427387904) :
    B.stepC 9 (([bv i, tv pt] ++ [bv b0, tv p0, bv q, tv et, bv m, tv s].drop 2).map tup) now = ([bv i, tv pt, bv (tonS i pt q et m s now).1, tv (tonS i pt q et m s now).2.1, bv i, tv (tonS i pt q et m s now).2.2].map tup, 0) :=
  tm_step 9 (.inr (.inl rfl)) i b0 pt p0 q et m s now h1 h2 h3 h4 h5 h6 h7 _ _ _ (fun f hf => ton_abs f i pt q et m s now hf h1 h5 h6)
def tofS (i : Bool) (pt : Int) (q : Bool) (et : Int) (m : Bool) (s now : Int) : Bool × Int × Int :=
  if i = true then (true, 0, s) else if q = true then (decide (now - (if m = true then now else s) < pt), B.mnI (now - (if m = true then now else s)) pt, if m = true then now else s) else (false, et, if m = true then now else s)
theorem tofB_abs (f : ByteArray → Int) (i : Bool) (pt : Int) (q : Bool) (et : Int) (m : Bool) (s now : Int) (hf : Tm f i pt q et m s) (h1 : 0 ≤ pt) (h5 : 0 ≤ s) (h6 : s ≤ now) :
    Tm (B.tofB f now) i pt (if q = true then decide (now - s < pt) else false) (if q = true then B.mnI (now - s) pt else et) m s := by
  unfold B.tofB
  cases q with
  | true =>
    rw [if_pos hf.isq]
    unfold B.tofC
    rw [hf.span h1, hf.since h5 h6]
    have h2 := hf.setq (decide (now - s < pt)) _ rfl
    rw [h2.span h1, h2.since h5 h6]
    exact h2.sete _
  | false =>
    rw [if_neg (by rw [hf.isq]; decide)]
    exact hf
theorem tof_abs (f : ByteArray → Int) (i : Bool) (pt : Int) (q : Bool) (et : Int) (m : Bool) (s now : Int) (hf : Tm f i pt q et m s) (h1 : 0 ≤ pt) (h5 : 0 ≤ s) (h6 : s ≤ now) :
    Tm (B.tofF f now) i pt (tofS i pt q et m s now).1 (tofS i pt q et m s now).2.1 i (tofS i pt q et m s now).2.2 := by
  unfold B.tofF
  cases i with
  | true =>
    rw [if_pos hf.isi]
    exact ((hf.setq true 1 rfl).sete 0).setm
  | false =>
    rw [if_neg (by rw [hf.isi]; decide)]
    cases m with
    | true =>
      rw [if_pos hf.ism]
      have h := (tofB_abs _ false pt q et true now now (hf.sets now) h1 (by omega) (Int.le_refl _)).setm
      cases q <;> exact h
    | false =>
      rw [if_neg (by rw [hf.ism]; decide)]
      have h := (tofB_abs _ false pt q et false s now hf h1 h5 h6).setm
      cases q <;> exact h
theorem tof_step (i b0 : Bool) (pt p0 : Int) (q : Bool) (et : Int) (m : Bool) (s now : Int) (h1 : 0 ≤ pt) (h2 : pt ≤ 4611686018427387904) (h3 : 0 ≤ et) (h4 : et ≤ 4611686018427387904) (h5 : 0 ≤ s) (h6 : s ≤ now) (h7 : now ≤ 4611686018427387904) :
    B.stepC 10 (([bv i, tv pt] ++ [bv b0, tv p0, bv q, tv et, bv m, tv s].drop 2).map tup) now = ([bv i, tv pt, bv (tofS i pt q et m s now).1, tv (tofS i pt q et m s now).2.1, bv i, tv (tofS i pt q et m s now).2.2].map tup, 0) :=
  tm_step 10 (.inr (.inr rfl)) i b0 pt p0 q et m s now h1 h2 h3 h4 h5 h6 h7 _ _ _ (fun f hf => tof_abs f i pt q et m s now hf h1 h5 h6)
theorem mod_bd (n M : Int) (h0 : 0 < M) (h1 : M ≤ 1125899906842624) : 0 ≤ wrap64 ((IntKind.u64.wrap n).tmod M) ∧ wrap64 ((IntKind.u64.wrap n).tmod M) < M := by
  rw [u64_w, Int.tmod_eq_emod_of_nonneg (Int.emod_nonneg _ (by decide))]
  have a := Int.emod_nonneg (n % 18446744073709551616) (show M ≠ 0 by omega)
  have b := Int.emod_lt_of_pos (n % 18446744073709551616) h0
  unfold wrap64
  omega

end Go.Proofs.Ytfadafgnahhmdaa.X

