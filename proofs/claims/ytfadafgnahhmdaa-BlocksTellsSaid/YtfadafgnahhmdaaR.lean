import Derived.Test.YtfadafgnahhmdaaQ
namespace Go.Proofs.Ytfadafgnahhmdaa.X
open Go.RowKit Go.Proofs.YtfadafgnahhmdaaW.PrintWords Go.Proofs.YtfadafgnahhmdaaW.PrintLast Go.Proofs.YtfadafgnahhmdaaW.PrintMore Go.Proofs.Ytfadafgnahhmdaa.E
attribute [local go_sem] max2_int min2_int max_two min_two max_three min_three max_four min_four
set_option linter.unusedVariables false
set_option linter.unusedSimpArgs false

open B (upd sinceF spanF)
set_option maxHeartbeats 800000 in
set_option maxRecDepth 100000 in
theorem rises_calls {w : World} {sb mb n : Nat} {f : ByteArray → Int} {now : Int} (h : St w sb mb n f now) (s t : ByteArray) (hs : s.size ≤ maxLen) (ht : t.size ≤ maxLen) :
    Calls Try.prog 77 #[.pointer (some ⟨sb, 0, none⟩), .string s, .string t] w fun e w' => e = .returned (.bool ((f s == 1) && !(f t == 1))) ∧ w = w' := by
  have H := Aside0.mk h
  clear h
  cases hb : (f s == 1) with
  | true =>
    have HB := Aside0.mk hb
    clear hb
    go_enter Try.func77, Try.ntmps77
    go_wp2_with fail
    refine (on_calls H.out s hs).mono ?_
    rintro e w' ⟨rfl, rfl⟩
    rw [HB.out]
    go_wp2_with fail
    refine (on_calls H.out t ht).mono ?_
    rintro e w' ⟨rfl, rfl⟩
    go_wp2
    go_ret
    exact ⟨rfl, rfl⟩
  | false =>
    have HB := Aside0.mk hb
    clear hb
    go_enter Try.func77, Try.ntmps77
    go_wp2_with fail
    refine (on_calls H.out s hs).mono ?_
    rintro e w' ⟨rfl, rfl⟩
    rw [HB.out]
    go_wp2
    go_ret
    exact ⟨rfl, rfl⟩
set_option maxHeartbeats 800000 in
set_option maxRecDepth 100000 in
theorem since_calls {w : World} {sb mb n : Nat} {f : ByteArray → Int} {now : Int} (h : St w sb mb n f now) (h0 : 0 ≤ now) (h1 : now ≤ 4611686018427387904) :
    Calls Try.prog 78 #[.pointer (some ⟨sb, 0, none⟩)] w fun e w' => e = .returned (.int .i64 (sinceF f now)) ∧ Drawn0 w w' := by
  have hu74 := Try.underlying74
  have c0 := h.c0
  have c1 := h.c1
  have hl := h.look ⟨#[83]⟩ (by decide)
  have hl0 := h.look0 ⟨#[83]⟩ (by decide)
  have hb := h.2.lo ⟨#[83]⟩
  unfold sinceF
  obtain ⟨x, hx⟩ : ∃ x, x = f ⟨#[83]⟩ := ⟨_, rfl⟩
  rw [← hx] at hl hl0 hb ⊢
  clear h hx
  by_cases a1 : x < 0
  · rw [if_pos a1]
    go_enter Try.func78, Try.ntmps78
    go_wp2
    go_quiet (fail)
    go_wp2
    go_ret
    exact ⟨rfl, Drawn0.step (Drawn0.refl _) _⟩
  · rw [if_neg a1]
    have a1' : decide (x < 0) = false := decide_eq_false a1
    by_cases a2 : now < x
    · rw [if_pos a2]
      go_enter Try.func78, Try.ntmps78
      go_wp2
      go_quiet (fail)
      go_wp2
      go_ret
      exact ⟨rfl, Drawn0.step (Drawn0.refl _) _⟩
    · rw [if_neg a2]
      have a2' : decide (now < x) = false := decide_eq_false a2
      go_enter Try.func78, Try.ntmps78
      go_wp2
      go_quiet (fail)
      go_wp2
      go_quiet (fail)
      go_wp2
      go_ret
      exact ⟨rfl, Drawn0.step (Drawn0.step (Drawn0.refl _) _) _⟩
set_option maxHeartbeats 800000 in
set_option maxRecDepth 100000 in
theorem span_calls {w : World} {sb mb n : Nat} {f : ByteArray → Int} {now : Int} (h : St w sb mb n f now) :
    Calls Try.prog 79 #[.pointer (some ⟨sb, 0, none⟩)] w fun e w' => e = .returned (.int .i64 (spanF f)) ∧ w = w' := by
  have hu74 := Try.underlying74
  have c0 := h.c0
  have hl0 := h.look0 ⟨#[80, 84]⟩ (by decide)
  unfold spanF
  obtain ⟨x, hx⟩ : ∃ x, x = f ⟨#[80, 84]⟩ := ⟨_, rfl⟩
  rw [← hx] at hl0 ⊢
  clear h hx
  by_cases a1 : 0 < x
  · rw [show (if 0 < x then x else 0) = x from if_pos a1]
    go_enter Try.func79, Try.ntmps79
    go_wp2
    go_ret
    exact ⟨rfl, rfl⟩
  · rw [show (if 0 < x then x else 0) = 0 from if_neg a1]
    go_enter Try.func79, Try.ntmps79
    go_wp2
    go_ret
    exact ⟨rfl, rfl⟩

end Go.Proofs.Ytfadafgnahhmdaa.X

