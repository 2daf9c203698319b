import Derived.Test.YtfadafgnahhmdaaM
import Derived.WalkLawsBesides
namespace Go.Proofs.Ytfadafgnahhmdaa.X
open Go.RowKit Go.Proofs.YtfadafgnahhmdaaW.PrintWords Go.Proofs.YtfadafgnahhmdaaW.PrintLast Go.Proofs.YtfadafgnahhmdaaW.PrintMore Go.Proofs.Ytfadafgnahhmdaa.E
attribute [local go_sem] max2_int min2_int max_two min_two max_three min_three max_four min_four
set_option linter.unusedVariables false
set_option linter.unusedSimpArgs false

/-! ### value_May: function 41 (by hand) -/
def value_May.f (a0_0 : Int) (a0_1 : Int) (a0_2 : ByteArray) : Option Bool := B.mayP a0_0 a0_1 a0_2
set_option maxRecDepth 100000 in
set_option maxHeartbeats 400000 in
theorem value_May.calls1 (a1 : Int) (a2 : ByteArray) (w : World) (h : a2.toList = []) :
    Calls Try.prog 41 #[.agg #[.int .u8 1, .int .u64 a1, .string a2]] w fun e w' => e = .returned (.bool (decide (a1 ≤ 1))) ∧ Below w.heap.size w w' := by
  have hu34 := Try.underlying34
  go_enter Try.func41, Try.ntmps41
  go_wp2
  go_ret
  exact ⟨rfl, below_alloc (Below.refl _ _) _⟩
set_option maxRecDepth 100000 in
set_option maxHeartbeats 400000 in
theorem value_May.calls14 (a1 : Int) (a2 : ByteArray) (w : World) (h : a2.toList = []) :
    Calls Try.prog 41 #[.agg #[.int .u8 14, .int .u64 a1, .string a2]] w fun e w' => e = .returned (.bool true) ∧ Below w.heap.size w w' := by
  have hu34 := Try.underlying34
  go_enter Try.func41, Try.ntmps41
  go_wp2
  go_ret
  exact ⟨rfl, below_alloc (Below.refl _ _) _⟩
set_option maxRecDepth 100000 in
set_option maxHeartbeats 400000 in
theorem value_May.callsF (a0 a1 : Int) (a2 : ByteArray) (w : World) (h : ¬ a2.toList = []) (h1 : (a0 == 19) = false) :
    Calls Try.prog 41 #[.agg #[.int .u8 a0, .int .u64 a1, .string a2]] w fun e w' => e = .returned (.bool false) ∧ Below w.heap.size w w' := by
  have hu34 := Try.underlying34
  have hb : (a2.toList == ([] : List UInt8)) = false := beq_eq_false_iff_ne.mpr h
  have hn : (a2.toList != ([] : List UInt8)) = true := bne_iff_ne.mpr h
  go_enter Try.func41, Try.ntmps41
  go_wp2
  go_ret
  exact ⟨rfl, below_alloc (Below.refl _ _) _⟩
set_option maxRecDepth 100000 in
set_option maxHeartbeats 400000 in
theorem value_May.calls3 (a1 : Int) (a2 : ByteArray) (w : World) (h : a2.toList = []) :
    Calls Try.prog 41 #[.agg #[.int .u8 3, .int .u64 a1, .string a2]] w fun e w' => e = .returned (.bool (decide (-32768 ≤ wrap64 a1) && decide (wrap64 a1 ≤ 32767))) ∧ Below w.heap.size w w' := by
  have hu34 := Try.underlying34
  go_enter Try.func41, Try.ntmps41
  go_wp2
  all_goals
    go_ret
    exact ⟨by first | rfl | (congr 2; simp; omega) | (simp; omega), below_alloc (Below.refl _ _) _⟩
theorem value_May.calls (a0_0 : Int) (a0_1 : Int) (a0_2 : ByteArray) (r : Bool) (w : World) (h : value_May.f a0_0 a0_1 a0_2 = some r) :
    Calls Try.prog 41 #[.agg #[.int .u8 a0_0, .int .u64 a0_1, .string a0_2]] w fun e w' => e = .returned (.bool r) ∧ Below w.heap.size w w' := by
  unfold value_May.f B.mayP at h
  by_cases ht : a0_2.toList = []
  · simp only [ht, decide_true, Bool.true_and] at h
    split at h
    · rename_i h1; subst h1; obtain rfl := Option.some.inj h; exact value_May.calls1 _ _ w ht
    · split at h
      · rename_i h1; subst h1; obtain rfl := Option.some.inj h; exact value_May.calls3 _ _ w ht
      · split at h
        · rename_i h1; subst h1; obtain rfl := Option.some.inj h; exact value_May.calls14 _ _ w ht
        · exact absurd h (by simp)
  · have hk : (a0_0 == 19) = false ∧ r = false := by
      simp only [ht, decide_false, Bool.false_and] at h
      split at h
      · rename_i h1; subst h1; exact ⟨rfl, (Option.some.inj h).symm⟩
      · split at h
        · rename_i h1; subst h1; exact ⟨rfl, (Option.some.inj h).symm⟩
        · split at h
          · rename_i h1; subst h1; exact ⟨rfl, (Option.some.inj h).symm⟩
          · exact absurd h (by simp)
    obtain ⟨hk, rfl⟩ := hk
    exact value_May.callsF _ _ _ w ht hk
/-! ### relayref01_May: function 43 (by hand) -/
def relayref01_May.f (a0_0 : Int) (a0_1 : Int) (a0_2 : ByteArray) : Option Bool := B.mayP a0_0 a0_1 a0_2
set_option maxRecDepth 100000 in
set_option maxHeartbeats 400000 in
theorem relayref01_May.calls1 (a1 : Int) (a2 : ByteArray) (w : World) (h : a2.toList = []) :
    Calls Try.prog 43 #[.agg #[.int .u8 1, .int .u64 a1, .string a2]] w fun e w' => e = .returned (.bool (decide (a1 ≤ 1))) ∧ Below w.heap.size w w' := by
  have hu34 := Try.underlying34
  go_enter Try.func43, Try.ntmps43
  go_wp2
  go_ret
  exact ⟨rfl, below_alloc (Below.refl _ _) _⟩
set_option maxRecDepth 100000 in
set_option maxHeartbeats 400000 in
theorem relayref01_May.calls14 (a1 : Int) (a2 : ByteArray) (w : World) (h : a2.toList = []) :
    Calls Try.prog 43 #[.agg #[.int .u8 14, .int .u64 a1, .string a2]] w fun e w' => e = .returned (.bool true) ∧ Below w.heap.size w w' := by
  have hu34 := Try.underlying34
  go_enter Try.func43, Try.ntmps43
  go_wp2
  go_ret
  exact ⟨rfl, below_alloc (Below.refl _ _) _⟩
set_option maxRecDepth 100000 in
set_option maxHeartbeats 400000 in
theorem relayref01_May.callsF (a0 a1 : Int) (a2 : ByteArray) (w : World) (h : ¬ a2.toList = []) (h1 : (a0 == 19) = false) :
    Calls Try.prog 43 #[.agg #[.int .u8 a0, .int .u64 a1, .string a2]] w fun e w' => e = .returned (.bool false) ∧ Below w.heap.size w w' := by
  have hu34 := Try.underlying34
  go_enter Try.func43, Try.ntmps43
  go_wp2
  go_ret
  exact ⟨rfl, below_alloc (Below.refl _ _) _⟩
set_option maxRecDepth 100000 in
set_option maxHeartbeats 400000 in
theorem relayref01_May.calls3 (a1 : Int) (a2 : ByteArray) (w : World) (h : a2.toList = []) :
    Calls Try.prog 43 #[.agg #[.int .u8 3, .int .u64 a1, .string a2]] w fun e w' => e = .returned (.bool (decide (-32768 ≤ wrap64 a1) && decide (wrap64 a1 ≤ 32767))) ∧ Below w.heap.size w w' := by
  have hu34 := Try.underlying34
  go_enter Try.func43, Try.ntmps43
  go_wp2
  all_goals
    go_ret
    exact ⟨by first | rfl | (congr 2; simp; omega) | (simp; omega), below_alloc (Below.refl _ _) _⟩
theorem relayref01_May.calls (a0_0 : Int) (a0_1 : Int) (a0_2 : ByteArray) (r : Bool) (w : World) (h : relayref01_May.f a0_0 a0_1 a0_2 = some r) :
    Calls Try.prog 43 #[.agg #[.int .u8 a0_0, .int .u64 a0_1, .string a0_2]] w fun e w' => e = .returned (.bool r) ∧ Below w.heap.size w w' := by
  unfold relayref01_May.f B.mayP at h
  by_cases ht : a0_2.toList = []
  · simp only [ht, decide_true, Bool.true_and] at h
    split at h
    · rename_i h1; subst h1; obtain rfl := Option.some.inj h; exact relayref01_May.calls1 _ _ w ht
    · split at h
      · rename_i h1; subst h1; obtain rfl := Option.some.inj h; exact relayref01_May.calls3 _ _ w ht
      · split at h
        · rename_i h1; subst h1; obtain rfl := Option.some.inj h; exact relayref01_May.calls14 _ _ w ht
        · exact absurd h (by simp)
  · have hk : (a0_0 == 19) = false ∧ r = false := by
      simp only [ht, decide_false, Bool.false_and] at h
      split at h
      · rename_i h1; subst h1; exact ⟨rfl, (Option.some.inj h).symm⟩
      · split at h
        · rename_i h1; subst h1; exact ⟨rfl, (Option.some.inj h).symm⟩
        · split at h
          · rename_i h1; subst h1; exact ⟨rfl, (Option.some.inj h).symm⟩
          · exact absurd h (by simp)
    obtain ⟨hk, rfl⟩ := hk
    exact relayref01_May.callsF _ _ _ w ht hk
theorem may_some (kd b : Int) (t : ByteArray) (h : kd = 1 ∨ kd = 3 ∨ kd = 14) : ∃ r, B.mayP kd b t = some r := by
  unfold B.mayP
  rcases h with rfl | rfl | rfl
  · exact ⟨_, rfl⟩
  · exact ⟨_, rfl⟩
  · exact ⟨_, rfl⟩

end Go.Proofs.Ytfadafgnahhmdaa.X

