import Derived.Test.YtfadafgnahhmdaaTM
import Derived.Test.YtfadafgnahhmdaaG
namespace Go.Proofs.Ytfadafgnahhmdaa.X
open Go.RowKit Go.Proofs.YtfadafgnahhmdaaW.PrintWords Go.Proofs.YtfadafgnahhmdaaW.PrintLast Go.Proofs.YtfadafgnahhmdaaW.PrintMore Go.Proofs.Ytfadafgnahhmdaa.E
attribute [local go_sem] max2_int min2_int max_two min_two max_three min_three max_four min_four
set_option linter.unusedVariables false
set_option linter.unusedSimpArgs false

/-- ET stays from 0 to PT, whichever timer it is -/
theorem el_step (k : Int) (hk : k = 8 ∨ k = 9 ∨ k = 10) (i b0 : Bool) (pt p0 : Int) (q : Bool) (et : Int) (m : Bool) (s now : Int) (h1 : 0 ≤ pt) (h2 : pt ≤ 4611686018427387904) (h3 : 0 ≤ et) (h4 : et ≤ pt) (h5 : 0 ≤ s) (h6 : s ≤ now) (h7 : now ≤ 4611686018427387904) :
    ∃ (q' : Bool) (et' s' : Int), B.stepC k (([bv i, tv pt] ++ [bv b0, tv p0, bv q, tv et, bv m, tv s].drop 2).map tup) now = ([bv i, tv pt, bv q', tv et', bv i, tv s'].map tup, 0) ∧ 0 ≤ et' ∧ et' ≤ pt ∧ 0 ≤ s' ∧ s' ≤ now := by
  rcases hk with rfl | rfl | rfl
  · refine ⟨_, _, _, tp_step i b0 pt p0 q et m s now h1 h2 h3 (by omega) h5 h6 h7, ?_⟩
    unfold tpS
    repeat' split
    all_goals (simp only; omega)
  · refine ⟨_, _, _, ton_step i b0 pt p0 q et m s now h1 h2 h3 (by omega) h5 h6 h7, ?_⟩
    unfold tonS B.mnI
    repeat' split
    all_goals (simp only; omega)
  · refine ⟨_, _, _, tof_step i b0 pt p0 q et m s now h1 h2 h3 (by omega) h5 h6 h7, ?_⟩
    unfold tofS B.mnI
    repeat' split
    all_goals (simp only; omega)
theorem startT (k : Int) (hk : k = 8 ∨ k = 9 ∨ k = 10) : startL k = [bv false, tv 0, bv false, tv 0, bv false, tv 0] := by
  rcases hk with rfl | rfl | rfl <;> simp [startL, B.varsU, B.vars, bv, tv, B.b2i, u64_0]
theorem u64_le (a b : Int) (h0 : 0 ≤ a) (h1 : a ≤ b) (h2 : b ≤ 4611686018427387904) : (IntKind.u64.wrap b < IntKind.u64.wrap a) = False := by
  rw [u64_w, u64_w]
  exact eq_false (by omega)

end Go.Proofs.Ytfadafgnahhmdaa.X

