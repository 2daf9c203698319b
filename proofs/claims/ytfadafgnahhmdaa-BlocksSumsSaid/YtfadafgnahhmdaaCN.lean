import Derived.Test.YtfadafgnahhmdaaTM
import Derived.Test.YtfadafgnahhmdaaG
namespace Go.Proofs.Ytfadafgnahhmdaa.X
open Go.RowKit Go.Proofs.YtfadafgnahhmdaaW.PrintWords Go.Proofs.YtfadafgnahhmdaaW.PrintLast Go.Proofs.YtfadafgnahhmdaaW.PrintMore Go.Proofs.Ytfadafgnahhmdaa.E
attribute [local go_sem] max2_int min2_int max_two min_two max_three min_three max_four min_four
set_option linter.unusedVariables false
set_option linter.unusedSimpArgs false

/-! ### the counters' steps on their cells, as numbers -/
structure Cu (f : ByteArray → Int) (cu r : Bool) (pv : Int) (q : Bool) (n : Int) (m : Bool) : Prop where
  h1 : f ⟨#[67, 85]⟩ = B.b2i cu
  h2 : f ⟨#[82]⟩ = B.b2i r
  h3 : f ⟨#[80, 86]⟩ = pv
  h4 : f ⟨#[81]⟩ = B.b2i q
  h5 : f ⟨#[67, 86]⟩ = n
  h6 : f ⟨#[77]⟩ = B.b2i m
section
variable {f : ByteArray → Int} {cu r : Bool} {pv : Int} {q : Bool} {n : Int} {m : Bool}
theorem Cu.iscu (h : Cu f cu r pv q n m) : (f ⟨#[67, 85]⟩ == 1) = cu := by rw [h.h1]; cases cu <;> rfl
theorem Cu.isr (h : Cu f cu r pv q n m) : (f ⟨#[82]⟩ == 1) = r := by rw [h.h2]; cases r <;> rfl
theorem Cu.ism (h : Cu f cu r pv q n m) : (f ⟨#[77]⟩ == 1) = m := by rw [h.h6]; cases m <;> rfl
theorem Cu.setn (h : Cu f cu r pv q n m) (n' : Int) : Cu (B.upd f ⟨#[67, 86]⟩ n') cu r pv q n' m := by
  obtain ⟨a, b, c, d, e, g⟩ := h; constructor <;> simp [B.upd, a, b, c, d, e, g]
theorem Cu.setq (h : Cu f cu r pv q n m) : Cu (B.full ⟨#[81]⟩ f) cu r pv (decide (pv ≤ n)) n m := by
  obtain ⟨a, b, c, d, e, g⟩ := h; constructor <;> simp [B.full, B.upd, a, b, c, d, e, g]
theorem Cu.setm (h : Cu f cu r pv q n m) : Cu (B.after ⟨#[77]⟩ ⟨#[67, 85]⟩ f) cu r pv q n cu := by
  have hi := h.iscu
  obtain ⟨a, b, c, d, e, g⟩ := h; constructor <;> simp [B.after, B.upd, a, b, c, d, e, g, hi]
  cases cu <;> simp [B.b2i]
end
def cuN (cu r m : Bool) (n : Int) : Int := if r = true then 0 else if cu = true ∧ m = false ∧ n < 32767 then n + 1 else n
theorem ctu_abs (f : ByteArray → Int) (cu r : Bool) (pv : Int) (q : Bool) (n : Int) (m : Bool) (t : Int) (hf : Cu f cu r pv q n m) : Cu (B.ctuF f t) cu r pv (decide (pv ≤ cuN cu r m n)) (cuN cu r m n) cu := by
  unfold B.ctuF
  refine Cu.setm (m := m) (Cu.setq (q := q) ?_)
  cases r with
  | true =>
    rw [if_pos hf.isr]
    exact hf.setn 0
  | false =>
    rw [if_neg (by rw [hf.isr]; decide)]
    rw [hf.iscu, hf.ism, hf.h5]
    cases cu with
    | false => simpa [cuN] using hf
    | true =>
      cases m with
      | true => simpa [cuN] using hf
      | false =>
        by_cases hn : n < 32767
        · simpa [cuN, hn] using hf.setn (n + 1)
        · simpa [cuN, hn] using hf
theorem okInt (n : Int) (h0 : -32768 ≤ n) (h1 : n ≤ 32767) : B.okC 3 (tup (iv n)) = true := by
  have e := w64_u n (by omega) (by omega)
  simp [B.okC, B.mayP, tup, iv, bytes0, e, h0, h1]
theorem okBool (b : Bool) : B.okC 1 (tup (bv b)) = true := by
  cases b <;> simp [B.okC, B.mayP, tup, bv, bytes0, B.b2i]
theorem ctu_step (cu r b0 b1 : Bool) (pv p0 : Int) (q : Bool) (n : Int) (m : Bool) (h1 : -32768 ≤ pv) (h2 : pv ≤ 32767) (h3 : 0 ≤ n) (h4 : n ≤ 32767) :
    B.stepC 5 (([bv cu, bv r, iv pv] ++ [bv b0, bv b1, iv p0, bv q, iv n, bv m].drop 3).map tup) 0 = ([bv cu, bv r, iv pv, bv (decide (pv ≤ cuN cu r m n)), iv (cuN cu r m n), bv cu].map tup, 0) := by
  have e1 := w64_u pv (by omega) (by omega)
  have e2 := w64_u n (by omega) (by omega)
  have hv : B.varsU 5 = [(⟨#[67, 85]⟩, 1, 1, false), (⟨#[82]⟩, 1, 1, false), (⟨#[80, 86]⟩, 1, 3, false), (⟨#[81]⟩, 2, 1, false), (⟨#[67, 86]⟩, 2, 3, false), (⟨#[77]⟩, 4, 1, false)] := by
    simp [B.varsU, B.vars]
  have hT := ctu_abs (B.loadF (B.pairs (B.varsU 5) (([bv cu, bv r, iv pv] ++ [bv b0, bv b1, iv p0, bv q, iv n, bv m].drop 3).map tup))) cu r pv q n m (B.clampT 0) (by
    rw [hv]
    cases cu <;> cases r <;> cases q <;> cases m <;> constructor <;> simp [B.pairs, B.loadF, B.upd, tup, bv, iv, B.b2i, e1, e2, wrap64_0, wrap64_1])
  have hok : B.okAll (B.varsU 5) (([bv cu, bv r, iv pv] ++ [bv b0, bv b1, iv p0, bv q, iv n, bv m].drop 3).map tup) = true := by
    rw [hv]
    simp [B.okAll, okBool, okInt pv h1 h2, okInt n (by omega) h4]
  unfold B.stepC
  rw [if_neg (by rw [hv]; simp), if_pos hok]
  rw [show B.stepF 5 = B.ctuF from by simp [B.stepF]]
  generalize B.ctuF _ (B.clampT 0) = g at hT
  rw [hv]
  generalize decide (pv ≤ cuN cu r m n) = q' at hT ⊢
  simp [B.outs, hT.h1, hT.h2, hT.h3, hT.h4, hT.h5, hT.h6, tup, bv, iv]
  cases cu <;> cases r <;> cases q' <;> simp [B.b2i, u64_0, u64_1]
theorem cuN_bd (cu r m : Bool) (n : Int) (h3 : 0 ≤ n) (h4 : n ≤ 32767) : 0 ≤ cuN cu r m n ∧ cuN cu r m n ≤ 32767 := by
  unfold cuN
  repeat' split
  all_goals omega

end Go.Proofs.Ytfadafgnahhmdaa.X

