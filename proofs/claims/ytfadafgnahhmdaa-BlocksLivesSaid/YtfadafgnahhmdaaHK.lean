import Derived.Test.YtfadafgnahhmdaaHI
import Derived.Test.YtfadafgnahhmdaaHJ
import Derived.Deep.RegionHeld3
set_option linter.unusedVariables false
set_option linter.unusedSimpArgs false
namespace Go.Proofs.Ytfadafgnahhmdaa.X
open Go.RowKit Go.Proofs.YtfadafgnahhmdaaW.PrintWords Go.Proofs.YtfadafgnahhmdaaW.PrintLast Go.Proofs.YtfadafgnahhmdaaW.PrintMore Go.Proofs.Ytfadafgnahhmdaa.E
attribute [local go_sem] max2_int min2_int max_two min_two max_three min_three max_four min_four
set_option linter.unusedVariables false
set_option linter.unusedSimpArgs false

open B (b2i upd)
/-! ### What a step makes of a block's numbers, in the order of its variables -/
def n1 : List ByteArray := [(⟨#[83, 49]⟩ : ByteArray), (⟨#[82]⟩ : ByteArray), (⟨#[81, 49]⟩ : ByteArray)]
def n2 : List ByteArray := [(⟨#[83]⟩ : ByteArray), (⟨#[82, 49]⟩ : ByteArray), (⟨#[81, 49]⟩ : ByteArray)]
def n3 : List ByteArray := [(⟨#[67, 76, 75]⟩ : ByteArray), (⟨#[81]⟩ : ByteArray), (⟨#[77]⟩ : ByteArray)]
def n4 : List ByteArray := [(⟨#[67, 76, 75]⟩ : ByteArray), (⟨#[81]⟩ : ByteArray), (⟨#[77]⟩ : ByteArray)]
def n5 : List ByteArray := [(⟨#[67, 85]⟩ : ByteArray), (⟨#[82]⟩ : ByteArray), (⟨#[80, 86]⟩ : ByteArray), (⟨#[81]⟩ : ByteArray), (⟨#[67, 86]⟩ : ByteArray), (⟨#[77]⟩ : ByteArray)]
def n6 : List ByteArray := [(⟨#[67, 68]⟩ : ByteArray), (⟨#[76, 68]⟩ : ByteArray), (⟨#[80, 86]⟩ : ByteArray), (⟨#[81]⟩ : ByteArray), (⟨#[67, 86]⟩ : ByteArray), (⟨#[77]⟩ : ByteArray)]
def n7 : List ByteArray := [(⟨#[67, 85]⟩ : ByteArray), (⟨#[67, 68]⟩ : ByteArray), (⟨#[82]⟩ : ByteArray), (⟨#[76, 68]⟩ : ByteArray), (⟨#[80, 86]⟩ : ByteArray), (⟨#[81, 85]⟩ : ByteArray), (⟨#[81, 68]⟩ : ByteArray), (⟨#[67, 86]⟩ : ByteArray), (⟨#[77]⟩ : ByteArray), (⟨#[78]⟩ : ByteArray)]
def n8 : List ByteArray := [(⟨#[73, 78]⟩ : ByteArray), (⟨#[80, 84]⟩ : ByteArray), (⟨#[81]⟩ : ByteArray), (⟨#[69, 84]⟩ : ByteArray), (⟨#[77]⟩ : ByteArray), (⟨#[83]⟩ : ByteArray)]
def n9 : List ByteArray := [(⟨#[73, 78]⟩ : ByteArray), (⟨#[80, 84]⟩ : ByteArray), (⟨#[81]⟩ : ByteArray), (⟨#[69, 84]⟩ : ByteArray), (⟨#[77]⟩ : ByteArray), (⟨#[83]⟩ : ByteArray)]
def n10 : List ByteArray := [(⟨#[73, 78]⟩ : ByteArray), (⟨#[80, 84]⟩ : ByteArray), (⟨#[81]⟩ : ByteArray), (⟨#[69, 84]⟩ : ByteArray), (⟨#[77]⟩ : ByteArray), (⟨#[83]⟩ : ByteArray)]
theorem n_varsU : (B.varsU 1).map (·.1) = n1 ∧ (B.varsU 2).map (·.1) = n2 ∧ (B.varsU 3).map (·.1) = n3 ∧ (B.varsU 4).map (·.1) = n4 ∧ (B.varsU 5).map (·.1) = n5 ∧ (B.varsU 6).map (·.1) = n6 ∧ (B.varsU 7).map (·.1) = n7 ∧ (B.varsU 8).map (·.1) = n8 ∧ (B.varsU 9).map (·.1) = n9 ∧ (B.varsU 10).map (·.1) = n10 := by
  refine ⟨?_, ?_, ?_, ?_, ?_, ?_, ?_, ?_, ?_, ?_⟩ <;> simp [B.varsU, B.vars, n1, n2, n3, n4, n5, n6, n7, n8, n9, n10]
def spanN (pt : Int) : Int := if 0 < pt then pt else 0
def tpG (i : Bool) (pt : Int) (q : Bool) (et : Int) (m : Bool) (s now : Int) : Bool × Int × Int :=
  if q = true ∧ ¬ spanN pt ≤ sinceN s now then (true, sinceN s now, s)
  else if i = true ∧ m = false then (decide (0 < spanN pt), 0, now)
  else if i = true then (false, if q = true then spanN pt else et, s) else (false, 0, s)
def tonG (i : Bool) (pt : Int) (q : Bool) (et : Int) (m : Bool) (s now : Int) : Bool × Int × Int :=
  if i = true then (decide (spanN pt ≤ sinceN (if m = true then s else now) now), B.mnI (sinceN (if m = true then s else now) now) (spanN pt), if m = true then s else now) else (false, 0, s)
def tofG (i : Bool) (pt : Int) (q : Bool) (et : Int) (m : Bool) (s now : Int) : Bool × Int × Int :=
  if i = true then (true, 0, s) else if q = true then (decide (sinceN (if m = true then now else s) now < spanN pt), B.mnI (sinceN (if m = true then now else s) now) (spanN pt), if m = true then now else s) else (false, et, if m = true then now else s)
section
variable {f : ByteArray → Int} {i : Bool} {pt : Int} {q : Bool} {et : Int} {m : Bool} {s now : Int}
theorem Tm.spanG (h : Tm f i pt q et m s) : B.spanF f = spanN pt := by unfold B.spanF spanN; rw [h.h2]
theorem Tm.sinceG (h : Tm f i pt q et m s) : B.sinceF f now = sinceN s now := by unfold B.sinceF sinceN; rw [h.h6]
end
theorem tpB_gen (f : ByteArray → Int) (i : Bool) (pt : Int) (et : Int) (m : Bool) (s now : Int) (hf : Tm f i pt false et m s) :
    Tm (B.tpB f now) i pt (if i = true ∧ m = false then decide (0 < spanN pt) else false) (if i = true ∧ m = false then 0 else if i = true then et else 0) m (if i = true ∧ m = false then now else s) := by
  have hq := hf.isq
  cases i with
  | true =>
    cases m with
    | false =>
      rw [B.tpB_2 hq (by rw [hf.isi, hf.ism]; rfl)]
      have h2 := (hf.sets now).sete 0
      rw [h2.spanG]
      exact h2.setq (decide (0 < spanN pt)) _ rfl
    | true =>
      rw [B.tpB_3 hq (by rw [hf.isi, hf.ism]; rfl) hf.isi]
      exact hf
  | false =>
    rw [B.tpB_4 hq (by rw [hf.isi]; rfl) hf.isi]
    exact hf.sete 0
theorem tp_gen (f : ByteArray → Int) (i : Bool) (pt : Int) (q : Bool) (et : Int) (m : Bool) (s now : Int) (hf : Tm f i pt q et m s) :
    Tm (B.tpF f now) i pt (tpG i pt q et m s now).1 (tpG i pt q et m s now).2.1 i (tpG i pt q et m s now).2.2 := by
  unfold B.tpF
  have hfin : ∀ (q2 : Bool) (e2 : Int) (m2 : Bool) (s2 : Int), Tm (B.tpB (B.tpA f now) now) i pt q2 e2 m2 s2 → (q2, e2, s2) = tpG i pt q et m s now → Tm (B.after ⟨#[77]⟩ ⟨#[73, 78]⟩ (B.tpB (B.tpA f now) now)) i pt (tpG i pt q et m s now).1 (tpG i pt q et m s now).2.1 i (tpG i pt q et m s now).2.2 := by
    intro q2 e2 m2 s2 h e
    rw [← e]
    exact h.setm
  cases q with
  | true =>
    by_cases hp : spanN pt ≤ sinceN s now
    · have hA : Tm (B.tpA f now) i pt false (spanN pt) m s := by
        rw [B.tpA_1 hf.isq (by rw [hf.spanG, hf.sinceG]; exact decide_eq_true hp)]
        have h2 := hf.setq false 0 rfl
        rw [h2.spanG]
        exact h2.sete _
      exact hfin _ _ _ _ (tpB_gen _ i pt (spanN pt) m s now hA) (by cases i <;> cases m <;> simp [tpG, hp])
    · have hA : Tm (B.tpA f now) i pt true (sinceN s now) m s := by
        rw [B.tpA_2 hf.isq (by rw [hf.spanG, hf.sinceG]; exact decide_eq_false hp), hf.sinceG]
        exact hf.sete _
      rw [B.tpB_1 hA.isq] at hfin
      exact hfin _ _ _ _ hA (by simp [tpG, hp]) |> (by rw [B.tpB_1 hA.isq]; exact ·)
  | false =>
    have hA : B.tpA f now = f := B.tpA_3 hf.isq
    rw [hA] at hfin ⊢
    exact hfin _ _ _ _ (tpB_gen f i pt et m s now hf) (by cases i <;> cases m <;> simp [tpG])
theorem tonB_gen (f : ByteArray → Int) (i : Bool) (pt : Int) (q : Bool) (et : Int) (m : Bool) (s now : Int) (hf : Tm f i pt q et m s) :
    Tm (B.tonB f now) i pt (decide (spanN pt ≤ sinceN s now)) (B.mnI (sinceN s now) (spanN pt)) m s := by
  unfold B.tonB
  rw [hf.spanG, hf.sinceG]
  have h2 := hf.setq (decide (spanN pt ≤ sinceN s now)) _ rfl
  rw [h2.spanG, h2.sinceG]
  exact h2.sete _
theorem ton_gen (f : ByteArray → Int) (i : Bool) (pt : Int) (q : Bool) (et : Int) (m : Bool) (s now : Int) (hf : Tm f i pt q et m s) :
    Tm (B.tonF f now) i pt (tonG i pt q et m s now).1 (tonG i pt q et m s now).2.1 i (tonG i pt q et m s now).2.2 := by
  unfold B.tonF
  cases i with
  | true =>
    rw [if_pos hf.isi]
    cases m with
    | true =>
      rw [if_pos hf.ism]
      exact (tonB_gen f true pt q et true s now hf).setm
    | false =>
      rw [if_neg (by rw [hf.ism]; decide)]
      exact (tonB_gen _ true pt q et false now now (hf.sets now)).setm
  | false =>
    rw [if_neg (by rw [hf.isi]; decide)]
    exact ((hf.setq false 0 rfl).sete 0).setm
theorem tofB_gen (f : ByteArray → Int) (i : Bool) (pt : Int) (q : Bool) (et : Int) (m : Bool) (s now : Int) (hf : Tm f i pt q et m s) :
    Tm (B.tofB f now) i pt (if q = true then decide (sinceN s now < spanN pt) else false) (if q = true then B.mnI (sinceN s now) (spanN pt) else et) m s := by
  unfold B.tofB
  cases q with
  | true =>
    rw [if_pos hf.isq]
    unfold B.tofC
    rw [hf.spanG, hf.sinceG]
    have h2 := hf.setq (decide (sinceN s now < spanN pt)) _ rfl
    rw [h2.spanG, h2.sinceG]
    exact h2.sete _
  | false =>
    rw [if_neg (by rw [hf.isq]; decide)]
    exact hf
theorem tof_gen (f : ByteArray → Int) (i : Bool) (pt : Int) (q : Bool) (et : Int) (m : Bool) (s now : Int) (hf : Tm f i pt q et m s) :
    Tm (B.tofF f now) i pt (tofG i pt q et m s now).1 (tofG i pt q et m s now).2.1 i (tofG i pt q et m s now).2.2 := by
  unfold B.tofF
  cases i with
  | true =>
    rw [if_pos hf.isi]
    exact ((hf.setq true 1 rfl).sete 0).setm
  | false =>
    rw [if_neg (by rw [hf.isi]; decide)]
    cases m with
    | true =>
      rw [if_pos hf.ism]
      have h := (tofB_gen _ false pt q et true now now (hf.sets now)).setm
      cases q <;> exact h
    | false =>
      rw [if_neg (by rw [hf.ism]; decide)]
      have h := (tofB_gen _ false pt q et false s now hf).setm
      cases q <;> exact h
/-! CTD -/
def ctdN (cd ld m : Bool) (pv n : Int) : Int := if ld = true then pv else if cd = true ∧ m = false ∧ -32768 < n then n - 1 else n
structure Cq (f : ByteArray → Int) (cd ld : Bool) (pv : Int) (q : Bool) (n : Int) (m : Bool) : Prop where
  h1 : f ⟨#[67, 68]⟩ = B.b2i cd
  h2 : f ⟨#[76, 68]⟩ = B.b2i ld
  h3 : f ⟨#[80, 86]⟩ = pv
  h4 : f ⟨#[81]⟩ = B.b2i q
  h5 : f ⟨#[67, 86]⟩ = n
  h6 : f ⟨#[77]⟩ = B.b2i m
section
variable {f : ByteArray → Int} {cd ld : Bool} {pv : Int} {q : Bool} {n : Int} {m : Bool}
theorem Cq.iscd (h : Cq f cd ld pv q n m) : (f ⟨#[67, 68]⟩ == 1) = cd := by rw [h.h1]; cases cd <;> rfl
theorem Cq.isld (h : Cq f cd ld pv q n m) : (f ⟨#[76, 68]⟩ == 1) = ld := by rw [h.h2]; cases ld <;> rfl
theorem Cq.ism (h : Cq f cd ld pv q n m) : (f ⟨#[77]⟩ == 1) = m := by rw [h.h6]; cases m <;> rfl
theorem Cq.setn (h : Cq f cd ld pv q n m) (n' : Int) : Cq (B.upd f ⟨#[67, 86]⟩ n') cd ld pv q n' m := by
  obtain ⟨a, b, c, d, e, g⟩ := h; constructor <;> simp [B.upd, a, b, c, d, e, g]
theorem Cq.setq (h : Cq f cd ld pv q n m) : Cq (B.empty ⟨#[81]⟩ f) cd ld pv (decide (n ≤ 0)) n m := by
  obtain ⟨a, b, c, d, e, g⟩ := h; constructor <;> simp [B.empty, B.upd, a, b, c, d, e, g]
theorem Cq.setm (h : Cq f cd ld pv q n m) : Cq (B.after ⟨#[77]⟩ ⟨#[67, 68]⟩ f) cd ld pv q n cd := by
  have hi := h.iscd
  obtain ⟨a, b, c, d, e, g⟩ := h; constructor <;> simp [B.after, B.upd, a, b, c, d, e, g, hi]
  cases cd <;> simp [B.b2i]
end
theorem ctd_abs (f : ByteArray → Int) (cd ld : Bool) (pv : Int) (q : Bool) (n : Int) (m : Bool) (t : Int) (hf : Cq f cd ld pv q n m) : Cq (B.ctdF f t) cd ld pv (decide (ctdN cd ld m pv n ≤ 0)) (ctdN cd ld m pv n) cd := by
  unfold B.ctdF
  refine Cq.setm (m := m) (Cq.setq (q := q) ?_)
  cases ld with
  | true =>
    rw [if_pos hf.isld, hf.h3]
    exact hf.setn pv
  | false =>
    rw [if_neg (by rw [hf.isld]; decide)]
    rw [hf.iscd, hf.ism, hf.h5]
    cases cd with
    | false => simpa [ctdN] using hf
    | true =>
      cases m with
      | true => simpa [ctdN] using hf
      | false =>
        by_cases hn : -32768 < n
        · simpa [ctdN, hn] using hf.setn (n - 1)
        · simpa [ctdN, hn] using hf
/-! the lists -/
theorem lst1 (a b c : Bool) (t : Int) : n1.map (B.stepF 1 (B.loadF (n1.zip [b2i a, b2i b, b2i c])) t) = [b2i a, b2i b, b2i (a || (c && !b))] := by
  cases a <;> cases b <;> cases c <;> simp [n1, B.stepF, B.srF, B.loadF, B.after, B.upd, b2i]
theorem lst2 (a b c : Bool) (t : Int) : n2.map (B.stepF 2 (B.loadF (n2.zip [b2i a, b2i b, b2i c])) t) = [b2i a, b2i b, b2i (!b && (a || c))] := by
  cases a <;> cases b <;> cases c <;> simp [n2, B.stepF, B.rsF, B.loadF, B.after, B.upd, b2i]
theorem lst3 (a b c : Bool) (t : Int) : n3.map (B.stepF 3 (B.loadF (n3.zip [b2i a, b2i b, b2i c])) t) = [b2i a, b2i (a && !c), b2i a] := by
  cases a <;> cases b <;> cases c <;> simp [n3, B.stepF, B.riseF, B.loadF, B.after, B.upd, b2i]
theorem lst4 (a b c : Bool) (t : Int) : n4.map (B.stepF 4 (B.loadF (n4.zip [b2i a, b2i b, b2i c])) t) = [b2i a, b2i (c && !a), b2i a] := by
  cases a <;> cases b <;> cases c <;> simp [n4, B.stepF, B.fallF, B.loadF, B.after, B.upd, b2i]
theorem lst5 (cu r : Bool) (pv : Int) (q : Bool) (n : Int) (m : Bool) (t : Int) : n5.map (B.stepF 5 (B.loadF (n5.zip [b2i cu, b2i r, pv, b2i q, n, b2i m])) t) = [b2i cu, b2i r, pv, b2i (decide (pv ≤ cuN cu r m n)), cuN cu r m n, b2i cu] := by
  have hf : Cu (B.loadF (n5.zip [b2i cu, b2i r, pv, b2i q, n, b2i m])) cu r pv q n m := by constructor <;> simp [n5, B.loadF, B.upd]
  have h := ctu_abs _ cu r pv q n m t hf
  have hs : B.stepF 5 = B.ctuF := by simp [B.stepF]
  rw [hs]
  generalize B.ctuF _ t = g at h
  simp only [n5, List.map, h.h1, h.h2, h.h3, h.h4, h.h5, h.h6]
theorem lst6 (cd ld : Bool) (pv : Int) (q : Bool) (n : Int) (m : Bool) (t : Int) : n6.map (B.stepF 6 (B.loadF (n6.zip [b2i cd, b2i ld, pv, b2i q, n, b2i m])) t) = [b2i cd, b2i ld, pv, b2i (decide (ctdN cd ld m pv n ≤ 0)), ctdN cd ld m pv n, b2i cd] := by
  have hf : Cq (B.loadF (n6.zip [b2i cd, b2i ld, pv, b2i q, n, b2i m])) cd ld pv q n m := by constructor <;> simp [n6, B.loadF, B.upd]
  have h := ctd_abs _ cd ld pv q n m t hf
  have hs : B.stepF 6 = B.ctdF := by simp [B.stepF]
  rw [hs]
  generalize B.ctdF _ t = g at h
  simp only [n6, List.map, h.h1, h.h2, h.h3, h.h4, h.h5, h.h6]
theorem lst7 (cu cd r ld : Bool) (pv : Int) (qu qd : Bool) (n : Int) (m b : Bool) (t : Int) : n7.map (B.stepF 7 (B.loadF (n7.zip [b2i cu, b2i cd, b2i r, b2i ld, pv, b2i qu, b2i qd, n, b2i m, b2i b])) t) = [b2i cu, b2i cd, b2i r, b2i ld, pv, b2i (decide (pv ≤ cdN r ld (cu && !m) (cd && !b) pv n)), b2i (decide (cdN r ld (cu && !m) (cd && !b) pv n ≤ 0)), cdN r ld (cu && !m) (cd && !b) pv n, b2i cu, b2i cd] := by
  have hf : Cd (B.loadF (n7.zip [b2i cu, b2i cd, b2i r, b2i ld, pv, b2i qu, b2i qd, n, b2i m, b2i b])) cu cd r ld pv qu qd n m b := by constructor <;> simp [n7, B.loadF, B.upd]
  have h := ctud_abs _ cu cd r ld pv qu qd n m b t hf
  have hs : B.stepF 7 = B.ctudF := by simp [B.stepF]
  rw [hs]
  generalize B.ctudF _ t = g at h
  simp only [n7, List.map, h.h1, h.h2, h.h3, h.h4, h.h5, h.h6, h.h7, h.h8, h.h9, h.h10]
theorem lst8 (i : Bool) (pt : Int) (q : Bool) (et : Int) (m : Bool) (s : Int) (t : Int) : n8.map (B.stepF 8 (B.loadF (n8.zip [b2i i, pt, b2i q, et, b2i m, s])) t) = [b2i i, pt, b2i (tpG i pt q et m s t).1, (tpG i pt q et m s t).2.1, b2i i, (tpG i pt q et m s t).2.2] := by
  have hf : Tm (B.loadF (n8.zip [b2i i, pt, b2i q, et, b2i m, s])) i pt q et m s := by constructor <;> simp [n8, B.loadF, B.upd]
  have h := tp_gen _ i pt q et m s t hf
  have hs : B.stepF 8 = B.tpF := by simp [B.stepF]
  rw [hs]
  generalize B.tpF _ t = g at h
  simp only [n8, List.map, h.h1, h.h2, h.h3, h.h4, h.h5, h.h6]
theorem lst9 (i : Bool) (pt : Int) (q : Bool) (et : Int) (m : Bool) (s : Int) (t : Int) : n9.map (B.stepF 9 (B.loadF (n9.zip [b2i i, pt, b2i q, et, b2i m, s])) t) = [b2i i, pt, b2i (tonG i pt q et m s t).1, (tonG i pt q et m s t).2.1, b2i i, (tonG i pt q et m s t).2.2] := by
  have hf : Tm (B.loadF (n9.zip [b2i i, pt, b2i q, et, b2i m, s])) i pt q et m s := by constructor <;> simp [n9, B.loadF, B.upd]
  have h := ton_gen _ i pt q et m s t hf
  have hs : B.stepF 9 = B.tonF := by simp [B.stepF]
  rw [hs]
  generalize B.tonF _ t = g at h
  simp only [n9, List.map, h.h1, h.h2, h.h3, h.h4, h.h5, h.h6]
theorem lst10 (i : Bool) (pt : Int) (q : Bool) (et : Int) (m : Bool) (s : Int) (t : Int) : n10.map (B.stepF 10 (B.loadF (n10.zip [b2i i, pt, b2i q, et, b2i m, s])) t) = [b2i i, pt, b2i (tofG i pt q et m s t).1, (tofG i pt q et m s t).2.1, b2i i, (tofG i pt q et m s t).2.2] := by
  have hf : Tm (B.loadF (n10.zip [b2i i, pt, b2i q, et, b2i m, s])) i pt q et m s := by constructor <;> simp [n10, B.loadF, B.upd]
  have h := tof_gen _ i pt q et m s t hf
  have hs : B.stepF 10 = B.tofF := by simp [B.stepF]
  rw [hs]
  generalize B.tofF _ t = g at h
  simp only [n10, List.map, h.h1, h.h2, h.h3, h.h4, h.h5, h.h6]

end Go.Proofs.Ytfadafgnahhmdaa.X
