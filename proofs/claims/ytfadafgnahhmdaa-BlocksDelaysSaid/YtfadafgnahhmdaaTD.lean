import Derived.Test.YtfadafgnahhmdaaTN
namespace Go.Proofs.Ytfadafgnahhmdaa.X
open Go.RowKit Go.Proofs.YtfadafgnahhmdaaW.PrintWords Go.Proofs.YtfadafgnahhmdaaW.PrintLast Go.Proofs.YtfadafgnahhmdaaW.PrintMore Go.Proofs.Ytfadafgnahhmdaa.E
attribute [local go_sem] max2_int min2_int max_two min_two max_three min_three max_four min_four
set_option linter.unusedVariables false
set_option linter.unusedSimpArgs false

theorem mn_bd (a b : Int) (h0 : 0 ≤ a) (h1 : 0 ≤ b) : 0 ≤ B.mnI a b ∧ B.mnI a b ≤ b := by unfold B.mnI; split <;> omega
theorem ton_bd (i : Bool) (pt : Int) (q : Bool) (et : Int) (m : Bool) (s now : Int) (h1 : 0 ≤ pt) (h2 : pt ≤ 4611686018427387904) (h5 : 0 ≤ s) (h6 : s ≤ now) :
    0 ≤ (tonS i pt q et m s now).2.1 ∧ (tonS i pt q et m s now).2.1 ≤ 4611686018427387904 ∧ 0 ≤ (tonS i pt q et m s now).2.2 ∧ (tonS i pt q et m s now).2.2 ≤ now := by
  unfold tonS
  have ha := mn_bd (now - s) pt (by omega) h1
  have hb := mn_bd (now - now) pt (by omega) h1
  cases i <;> cases m <;> simp only [if_true, if_false, Bool.false_eq_true] <;> omega
theorem tof_bd (i : Bool) (pt : Int) (q : Bool) (et : Int) (m : Bool) (s now : Int) (h1 : 0 ≤ pt) (h2 : pt ≤ 4611686018427387904) (h3 : 0 ≤ et) (h4 : et ≤ 4611686018427387904) (h5 : 0 ≤ s) (h6 : s ≤ now) :
    0 ≤ (tofS i pt q et m s now).2.1 ∧ (tofS i pt q et m s now).2.1 ≤ 4611686018427387904 ∧ 0 ≤ (tofS i pt q et m s now).2.2 ∧ (tofS i pt q et m s now).2.2 ≤ now := by
  unfold tofS
  have ha := mn_bd (now - s) pt (by omega) h1
  have hb := mn_bd (now - now) pt (by omega) h1
  cases i <;> cases q <;> cases m <;> simp only [if_true, if_false, Bool.false_eq_true] <;> omega
/-- what the law keeps: when IN rose, when it fell, whether TOF is lit -/
def roN (i : Bool) (ro n2 : Int) : Int := if i = true then (if ro < 0 then n2 else ro) else -1
def feN (i : Bool) (fe n2 : Int) : Int := if i = true then -1 else (if fe < 0 then n2 else fe)
def DI (m : Bool) (s1 : Int) (q2 : Bool) (s2 nw fe ro : Int) : Prop := (m = true → ro = s1 ∧ fe = -1 ∧ q2 = true) ∧ (m = false → ro = -1) ∧ (m = false → q2 = true → fe = s2) ∧ -1 ≤ fe ∧ fe ≤ nw
theorem del_on (pt : Int) (q1 : Bool) (et1 : Int) (m : Bool) (s1 : Int) (q2 : Bool) (s2 nw fe ro n2 : Int) (h : DI m s1 q2 s2 nw fe ro) (h1 : 0 ≤ s1) : (tonS true pt q1 et1 m s1 n2).2.2 = roN true ro n2 ∧ (tonS true pt q1 et1 m s1 n2).1 = decide (pt ≤ n2 - roN true ro n2) := by
  obtain ⟨a, b, c, d, e⟩ := h
  cases m with
  | true =>
    obtain ⟨rfl, _, _⟩ := a rfl
    have : ¬ ro < 0 := by omega
    simp [tonS, roN, this]
  | false =>
    obtain rfl := b rfl
    simp [tonS, roN]
theorem del_off (pt et2 : Int) (m : Bool) (s1 : Int) (q2 : Bool) (s2 nw fe ro n2 : Int) (h : DI m s1 q2 s2 nw fe ro) (h2 : 0 ≤ s2) : (tofS false pt q2 et2 m s2 n2).1 = (q2 && !decide (pt ≤ n2 - feN false fe n2)) ∧ ((tofS false pt q2 et2 m s2 n2).1 = true → feN false fe n2 = (tofS false pt q2 et2 m s2 n2).2.2) := by
  obtain ⟨a, b, c, d, e⟩ := h
  cases m with
  | true =>
    obtain ⟨_, rfl, rfl⟩ := a rfl
    simp [tofS, feN]
    rcases Int.lt_or_le 0 pt with hp | hp
    · simp [hp] <;> omega
    · simp [hp] <;> omega
  | false =>
    cases q2 with
    | true =>
      obtain rfl := c rfl rfl
      have : ¬ fe < 0 := by omega
      simp [tofS, feN, this]
      rcases Int.lt_or_le (n2 - fe) pt with hp | hp
      · simp [hp] <;> omega
      · simp [hp] <;> omega
    | false => simp [tofS]
theorem del_inv (i : Bool) (pt : Int) (q1 : Bool) (et1 et2 : Int) (m : Bool) (s1 : Int) (q2 : Bool) (s2 nw fe ro n2 : Int) (h : DI m s1 q2 s2 nw fe ro) (h1 : 0 ≤ s1) (h2 : 0 ≤ s2) (h3 : nw ≤ n2) (h4 : 0 ≤ n2) :
    DI i (tonS i pt q1 et1 m s1 n2).2.2 (tofS i pt q2 et2 m s2 n2).1 (tofS i pt q2 et2 m s2 n2).2.2 n2 (feN i fe n2) (roN i ro n2) := by
  cases i with
  | true =>
    refine ⟨fun _ => ⟨(del_on pt q1 et1 m s1 q2 s2 nw fe ro n2 h h1).1.symm, rfl, rfl⟩, ?_, ?_, ?_, ?_⟩
    · intro h; cases h
    · intro h; cases h
    · unfold feN; simp only [if_true]; omega
    · unfold feN; simp only [if_true]; omega
  | false =>
    refine ⟨(by intro h; cases h), fun _ => rfl, fun _ hq => (del_off pt et2 m s1 q2 s2 nw fe ro n2 h h2).2 hq, ?_, ?_⟩
    · have := h.2.2.2; unfold feN; simp only [Bool.false_eq_true, if_false]; split <;> omega
    · have := h.2.2.2; unfold feN; simp only [Bool.false_eq_true, if_false]; split <;> omega

end Go.Proofs.Ytfadafgnahhmdaa.X

