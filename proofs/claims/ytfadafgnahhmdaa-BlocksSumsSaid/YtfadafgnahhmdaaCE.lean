import Derived.Test.YtfadafgnahhmdaaCN
namespace Go.Proofs.Ytfadafgnahhmdaa.X
open Go.RowKit Go.Proofs.YtfadafgnahhmdaaW.PrintWords Go.Proofs.YtfadafgnahhmdaaW.PrintLast Go.Proofs.YtfadafgnahhmdaaW.PrintMore Go.Proofs.Ytfadafgnahhmdaa.E
attribute [local go_sem] max2_int min2_int max_two min_two max_three min_three max_four min_four
set_option linter.unusedVariables false
set_option linter.unusedSimpArgs false

/-! ### CTUD's step on its cells -/
structure Cd (f : ByteArray → Int) (cu cd r ld : Bool) (pv : Int) (qu qd : Bool) (n : Int) (m b : Bool) : Prop where
  h1 : f ⟨#[67, 85]⟩ = B.b2i cu
  h2 : f ⟨#[67, 68]⟩ = B.b2i cd
  h3 : f ⟨#[82]⟩ = B.b2i r
  h4 : f ⟨#[76, 68]⟩ = B.b2i ld
  h5 : f ⟨#[80, 86]⟩ = pv
  h6 : f ⟨#[81, 85]⟩ = B.b2i qu
  h7 : f ⟨#[81, 68]⟩ = B.b2i qd
  h8 : f ⟨#[67, 86]⟩ = n
  h9 : f ⟨#[77]⟩ = B.b2i m
  h10 : f ⟨#[78]⟩ = B.b2i b
theorem b2i_is (b : Bool) : (B.b2i b == 1) = b := by cases b <;> rfl
section
variable {f : ByteArray → Int} {cu cd r ld : Bool} {pv : Int} {qu qd : Bool} {n : Int} {m b : Bool}
theorem Cd.setn (h : Cd f cu cd r ld pv qu qd n m b) (n' : Int) : Cd (B.upd f ⟨#[67, 86]⟩ n') cu cd r ld pv qu qd n' m b := by
  obtain ⟨a1, a2, a3, a4, a5, a6, a7, a8, a9, a10⟩ := h; constructor <;> simp [B.upd, a1, a2, a3, a4, a5, a6, a7, a8, a9, a10]
theorem Cd.setqu (h : Cd f cu cd r ld pv qu qd n m b) : Cd (B.full ⟨#[81, 85]⟩ f) cu cd r ld pv (decide (pv ≤ n)) qd n m b := by
  obtain ⟨a1, a2, a3, a4, a5, a6, a7, a8, a9, a10⟩ := h; constructor <;> simp [B.full, B.upd, a1, a2, a3, a4, a5, a6, a7, a8, a9, a10]
theorem Cd.setqd (h : Cd f cu cd r ld pv qu qd n m b) : Cd (B.empty ⟨#[81, 68]⟩ f) cu cd r ld pv qu (decide (n ≤ 0)) n m b := by
  obtain ⟨a1, a2, a3, a4, a5, a6, a7, a8, a9, a10⟩ := h; constructor <;> simp [B.empty, B.upd, a1, a2, a3, a4, a5, a6, a7, a8, a9, a10]
theorem Cd.setm (h : Cd f cu cd r ld pv qu qd n m b) : Cd (B.after ⟨#[77]⟩ ⟨#[67, 85]⟩ f) cu cd r ld pv qu qd n cu b := by
  obtain ⟨a1, a2, a3, a4, a5, a6, a7, a8, a9, a10⟩ := h; constructor <;> simp [B.after, B.upd, a1, a2, a3, a4, a5, a6, a7, a8, a9, a10]
  cases cu <;> simp [B.b2i]
theorem Cd.setb (h : Cd f cu cd r ld pv qu qd n m b) : Cd (B.after ⟨#[78]⟩ ⟨#[67, 68]⟩ f) cu cd r ld pv qu qd n m cd := by
  obtain ⟨a1, a2, a3, a4, a5, a6, a7, a8, a9, a10⟩ := h; constructor <;> simp [B.after, B.upd, a1, a2, a3, a4, a5, a6, a7, a8, a9, a10]
  cases cd <;> simp [B.b2i]
end
def cdV (u d : Bool) (n : Int) : Int := if u = true ∧ d = false ∧ n < 32767 then n + 1 else if d = true ∧ u = false ∧ -32768 < n then n - 1 else n
def cdN (r ld u d : Bool) (pv n : Int) : Int := if r = true then 0 else if ld = true then pv else cdV u d n
theorem ctudV_abs (f : ByteArray → Int) (cu cd r ld : Bool) (pv : Int) (qu qd : Bool) (n : Int) (m b u d : Bool) (hf : Cd f cu cd r ld pv qu qd n m b) : Cd (B.ctudV f u d) cu cd r ld pv qu qd (cdN r ld u d pv n) m b := by
  unfold B.ctudV cdN
  rw [hf.h3, hf.h4, hf.h5, hf.h8, b2i_is, b2i_is]
  cases r with
  | true => simpa using hf.setn 0
  | false =>
    cases ld with
    | true => simpa using hf.setn pv
    | false =>
      unfold cdV
      cases u <;> cases d
      · simpa using hf
      · by_cases hn : -32768 < n
        · simpa [hn] using hf.setn (n - 1)
        · simpa [hn] using hf
      · by_cases hn : n < 32767
        · simpa [hn] using hf.setn (n + 1)
        · simpa [hn] using hf
      · simpa using hf
theorem ctud_abs (f : ByteArray → Int) (cu cd r ld : Bool) (pv : Int) (qu qd : Bool) (n : Int) (m b : Bool) (t : Int) (hf : Cd f cu cd r ld pv qu qd n m b) :
    Cd (B.ctudF f t) cu cd r ld pv (decide (pv ≤ cdN r ld (cu && !m) (cd && !b) pv n)) (decide (cdN r ld (cu && !m) (cd && !b) pv n ≤ 0)) (cdN r ld (cu && !m) (cd && !b) pv n) cu cd := by
  unfold B.ctudF
  rw [hf.h1, hf.h2, hf.h9, hf.h10, b2i_is, b2i_is, b2i_is, b2i_is]
  exact (ctudV_abs f cu cd r ld pv qu qd n m b (cu && !m) (cd && !b) hf).setqu.setqd.setm.setb
theorem w64b (b : Bool) : wrap64 (B.b2i b) = B.b2i b := by cases b <;> (unfold wrap64 B.b2i; decide)
theorem u64b (b : Bool) : IntKind.u64.wrap (B.b2i b) = B.b2i b := by cases b <;> decide
theorem ctud_step (cu cd r ld c0 c1 c2 c3 : Bool) (pv p0 : Int) (qu qd : Bool) (n : Int) (m b : Bool) (h1 : -32768 ≤ pv) (h2 : pv ≤ 32767) (h3 : -32768 ≤ n) (h4 : n ≤ 32767) (N : Int) (hN : cdN r ld (cu && !m) (cd && !b) pv n = N) :
    B.stepC 7 (([bv cu, bv cd, bv r, bv ld, iv pv] ++ [bv c0, bv c1, bv c2, bv c3, iv p0, bv qu, bv qd, iv n, bv m, bv b].drop 5).map tup) 0 = ([bv cu, bv cd, bv r, bv ld, iv pv, bv (decide (pv ≤ N)), bv (decide (N ≤ 0)), iv N, bv cu, bv cd].map tup, 0) := by
  subst hN
  have e1 := w64_u pv (by omega) (by omega)
  have e2 := w64_u n (by omega) (by omega)
  have hv : B.varsU 7 = [(⟨#[67, 85]⟩, 1, 1, false), (⟨#[67, 68]⟩, 1, 1, false), (⟨#[82]⟩, 1, 1, false), (⟨#[76, 68]⟩, 1, 1, false), (⟨#[80, 86]⟩, 1, 3, false), (⟨#[81, 85]⟩, 2, 1, false), (⟨#[81, 68]⟩, 2, 1, false), (⟨#[67, 86]⟩, 2, 3, false), (⟨#[77]⟩, 4, 1, false), (⟨#[78]⟩, 4, 1, false)] := by
    simp [B.varsU, B.vars]
  have hT := ctud_abs (B.loadF (B.pairs (B.varsU 7) (([bv cu, bv cd, bv r, bv ld, iv pv] ++ [bv c0, bv c1, bv c2, bv c3, iv p0, bv qu, bv qd, iv n, bv m, bv b].drop 5).map tup))) cu cd r ld pv qu qd n m b (B.clampT 0) (by
    rw [hv]
    constructor <;> simp [B.pairs, B.loadF, B.upd, tup, bv, iv, e1, e2, w64b])
  have hok : B.okAll (B.varsU 7) (([bv cu, bv cd, bv r, bv ld, iv pv] ++ [bv c0, bv c1, bv c2, bv c3, iv p0, bv qu, bv qd, iv n, bv m, bv b].drop 5).map tup) = true := by
    rw [hv]
    simp [B.okAll, okBool, okInt pv h1 h2, okInt n h3 h4]
  unfold B.stepC
  rw [if_neg (by rw [hv]; simp), if_pos hok]
  rw [show B.stepF 7 = B.ctudF from by simp [B.stepF]]
  generalize B.ctudF _ (B.clampT 0) = g at hT
  rw [hv]
  generalize decide (pv ≤ cdN r ld (cu && !m) (cd && !b) pv n) = q1 at hT ⊢
  generalize decide (cdN r ld (cu && !m) (cd && !b) pv n ≤ 0) = q2 at hT ⊢
  simp [B.outs, hT.h1, hT.h2, hT.h3, hT.h4, hT.h5, hT.h6, hT.h7, hT.h8, hT.h9, hT.h10, tup, bv, iv, u64b]
theorem cdV_bd (u d : Bool) (n : Int) (h3 : -32768 ≤ n) (h4 : n ≤ 32767) : -32768 ≤ cdV u d n ∧ cdV u d n ≤ 32767 := by
  unfold cdV
  repeat' split
  all_goals omega

end Go.Proofs.Ytfadafgnahhmdaa.X

