import Derived.Test.YtfadafgnahhmdaaHC
set_option linter.unusedVariables false
set_option linter.unusedSimpArgs false
namespace Go.Proofs.Ytfadafgnahhmdaa.X
open Go.RowKit Go.Proofs.YtfadafgnahhmdaaW.PrintWords Go.Proofs.YtfadafgnahhmdaaW.PrintLast Go.Proofs.YtfadafgnahhmdaaW.PrintMore Go.Proofs.Ytfadafgnahhmdaa.E
attribute [local go_sem] max2_int min2_int max_two min_two max_three min_three max_four min_four
set_option linter.unusedVariables false
set_option linter.unusedSimpArgs false

open B (upd b2i mnI sinceF spanF)
set_option maxHeartbeats 8000000 in
set_option maxRecDepth 100000 in
theorem sr_calls {w : World} {sb mb n : Nat} {f : ByteArray → Int} {now : Int} (h : St w sb mb n f now) (hn : n ≤ 100) (h0 : 0 ≤ now) (h1 : now ≤ 4611686018427387904) :
    Calls Try.prog 52 #[.pointer (some ⟨sb, 0, none⟩)] w fun e w' => e = .returned (.tuple #[]) ∧ St w' sb mb (n + 60) (B.srF f now) now ∧ w.grownBy w' (some mb) := by
  have hu74 := Try.underlying74
  have H0 := Aside0.mk h
  have G0 := Aside0.mk (grown_refl w (some mb))
  clear h
  go_enter Try.func52, Try.ntmps52
  go_wp2_with fail
  refine (on_calls H0.out ⟨#[83, 49]⟩ (by decide)).mono ?_
  rintro e w' ⟨rfl, rfl⟩
  cases hb1 : (f ⟨#[83, 49]⟩ == 1) with
  | true =>
    have HB1 := Aside0.mk hb1
    clear hb1
    go_wp2_with fail
    refine (set_callsA H0 G0 (by omega) ⟨#[81, 49]⟩ (by decide) true).mono ?_
    rintro e w3 ⟨f2, rfl, F4, H5, G6⟩
    clear H0 G0
    go_wp2
    go_end0
    have he7 : f2 = B.srF f now := by
      have q8 := HB1.out
      (try simp only [F4.out] at q8)
      rw [F4.out]
      simp only [B.srF, F4.out, q8, Bool.true_or, Bool.false_or, Bool.or_true, Bool.or_false, Bool.true_and, Bool.false_and, Bool.and_true, Bool.and_false, Bool.not_true, Bool.not_false, if_true, if_false, Bool.false_eq_true, reduceIte, show b2i false = (0 : Int) from rfl, show b2i true = (1 : Int) from rfl]
    exact ⟨rfl, he7 ▸ H5.out.mono (by omega), G6.out⟩
  | false =>
    have HB1 := Aside0.mk hb1
    clear hb1
    go_wp2_with fail
    refine (on_calls H0.out ⟨#[81, 49]⟩ (by decide)).mono ?_
    rintro e w' ⟨rfl, rfl⟩
    cases hb9 : (f ⟨#[81, 49]⟩ == 1) with
    | true =>
      have HB9 := Aside0.mk hb9
      clear hb9
      go_wp2_with fail
      refine (on_calls H0.out ⟨#[82]⟩ (by decide)).mono ?_
      rintro e w' ⟨rfl, rfl⟩
      cases hb10 : (f ⟨#[82]⟩ == 1) with
      | true =>
        have HB10 := Aside0.mk hb10
        clear hb10
        go_wp2_with fail
        refine (set_callsA H0 G0 (by omega) ⟨#[81, 49]⟩ (by decide) false).mono ?_
        rintro e w12 ⟨f11, rfl, F13, H14, G15⟩
        clear H0 G0
        go_wp2
        go_end0
        have he16 : f11 = B.srF f now := by
          have q17 := HB1.out
          (try simp only [F13.out] at q17)
          have q18 := HB9.out
          (try simp only [F13.out] at q18)
          have q19 := HB10.out
          (try simp only [F13.out] at q19)
          rw [F13.out]
          simp only [B.srF, F13.out, q17, q18, q19, Bool.true_or, Bool.false_or, Bool.or_true, Bool.or_false, Bool.true_and, Bool.false_and, Bool.and_true, Bool.and_false, Bool.not_true, Bool.not_false, if_true, if_false, Bool.false_eq_true, reduceIte, show b2i false = (0 : Int) from rfl, show b2i true = (1 : Int) from rfl]
        exact ⟨rfl, he16 ▸ H14.out.mono (by omega), G15.out⟩
      | false =>
        have HB10 := Aside0.mk hb10
        clear hb10
        go_wp2_with fail
        refine (set_callsA H0 G0 (by omega) ⟨#[81, 49]⟩ (by decide) true).mono ?_
        rintro e w21 ⟨f20, rfl, F22, H23, G24⟩
        clear H0 G0
        go_wp2
        go_end0
        have he25 : f20 = B.srF f now := by
          have q26 := HB1.out
          (try simp only [F22.out] at q26)
          have q27 := HB9.out
          (try simp only [F22.out] at q27)
          have q28 := HB10.out
          (try simp only [F22.out] at q28)
          rw [F22.out]
          simp only [B.srF, F22.out, q26, q27, q28, Bool.true_or, Bool.false_or, Bool.or_true, Bool.or_false, Bool.true_and, Bool.false_and, Bool.and_true, Bool.and_false, Bool.not_true, Bool.not_false, if_true, if_false, Bool.false_eq_true, reduceIte, show b2i false = (0 : Int) from rfl, show b2i true = (1 : Int) from rfl]
        exact ⟨rfl, he25 ▸ H23.out.mono (by omega), G24.out⟩
    | false =>
      have HB9 := Aside0.mk hb9
      clear hb9
      go_wp2_with fail
      refine (set_callsA H0 G0 (by omega) ⟨#[81, 49]⟩ (by decide) false).mono ?_
      rintro e w30 ⟨f29, rfl, F31, H32, G33⟩
      clear H0 G0
      go_wp2
      go_end0
      have he34 : f29 = B.srF f now := by
        have q35 := HB1.out
        (try simp only [F31.out] at q35)
        have q36 := HB9.out
        (try simp only [F31.out] at q36)
        rw [F31.out]
        simp only [B.srF, F31.out, q35, q36, Bool.true_or, Bool.false_or, Bool.or_true, Bool.or_false, Bool.true_and, Bool.false_and, Bool.and_true, Bool.and_false, Bool.not_true, Bool.not_false, if_true, if_false, Bool.false_eq_true, reduceIte, show b2i false = (0 : Int) from rfl, show b2i true = (1 : Int) from rfl]
      exact ⟨rfl, he34 ▸ H32.out.mono (by omega), G33.out⟩
set_option maxHeartbeats 8000000 in
set_option maxRecDepth 100000 in
theorem rs_calls {w : World} {sb mb n : Nat} {f : ByteArray → Int} {now : Int} (h : St w sb mb n f now) (hn : n ≤ 100) (h0 : 0 ≤ now) (h1 : now ≤ 4611686018427387904) :
    Calls Try.prog 53 #[.pointer (some ⟨sb, 0, none⟩)] w fun e w' => e = .returned (.tuple #[]) ∧ St w' sb mb (n + 60) (B.rsF f now) now ∧ w.grownBy w' (some mb) := by
  have hu74 := Try.underlying74
  have H0 := Aside0.mk h
  have G0 := Aside0.mk (grown_refl w (some mb))
  clear h
  go_enter Try.func53, Try.ntmps53
  go_wp2_with fail
  refine (on_calls H0.out ⟨#[82, 49]⟩ (by decide)).mono ?_
  rintro e w' ⟨rfl, rfl⟩
  cases hb1 : (f ⟨#[82, 49]⟩ == 1) with
  | true =>
    have HB1 := Aside0.mk hb1
    clear hb1
    go_wp2_with fail
    refine (set_callsA H0 G0 (by omega) ⟨#[81, 49]⟩ (by decide) false).mono ?_
    rintro e w3 ⟨f2, rfl, F4, H5, G6⟩
    clear H0 G0
    go_wp2
    go_end0
    have he7 : f2 = B.rsF f now := by
      have q8 := HB1.out
      (try simp only [F4.out] at q8)
      rw [F4.out]
      simp only [B.rsF, F4.out, q8, Bool.true_or, Bool.false_or, Bool.or_true, Bool.or_false, Bool.true_and, Bool.false_and, Bool.and_true, Bool.and_false, Bool.not_true, Bool.not_false, if_true, if_false, Bool.false_eq_true, reduceIte, show b2i false = (0 : Int) from rfl, show b2i true = (1 : Int) from rfl]
    exact ⟨rfl, he7 ▸ H5.out.mono (by omega), G6.out⟩
  | false =>
    have HB1 := Aside0.mk hb1
    clear hb1
    go_wp2_with fail
    refine (on_calls H0.out ⟨#[83]⟩ (by decide)).mono ?_
    rintro e w' ⟨rfl, rfl⟩
    cases hb9 : (f ⟨#[83]⟩ == 1) with
    | true =>
      have HB9 := Aside0.mk hb9
      clear hb9
      go_wp2_with fail
      refine (set_callsA H0 G0 (by omega) ⟨#[81, 49]⟩ (by decide) true).mono ?_
      rintro e w11 ⟨f10, rfl, F12, H13, G14⟩
      clear H0 G0
      go_wp2
      go_end0
      have he15 : f10 = B.rsF f now := by
        have q16 := HB1.out
        (try simp only [F12.out] at q16)
        have q17 := HB9.out
        (try simp only [F12.out] at q17)
        rw [F12.out]
        simp only [B.rsF, F12.out, q16, q17, Bool.true_or, Bool.false_or, Bool.or_true, Bool.or_false, Bool.true_and, Bool.false_and, Bool.and_true, Bool.and_false, Bool.not_true, Bool.not_false, if_true, if_false, Bool.false_eq_true, reduceIte, show b2i false = (0 : Int) from rfl, show b2i true = (1 : Int) from rfl]
      exact ⟨rfl, he15 ▸ H13.out.mono (by omega), G14.out⟩
    | false =>
      have HB9 := Aside0.mk hb9
      clear hb9
      go_wp2_with fail
      refine (on_calls H0.out ⟨#[81, 49]⟩ (by decide)).mono ?_
      rintro e w' ⟨rfl, rfl⟩
      cases hb18 : (f ⟨#[81, 49]⟩ == 1) with
      | true =>
        have HB18 := Aside0.mk hb18
        clear hb18
        go_wp2_with fail
        refine (set_callsA H0 G0 (by omega) ⟨#[81, 49]⟩ (by decide) true).mono ?_
        rintro e w20 ⟨f19, rfl, F21, H22, G23⟩
        clear H0 G0
        go_wp2
        go_end0
        have he24 : f19 = B.rsF f now := by
          have q25 := HB1.out
          (try simp only [F21.out] at q25)
          have q26 := HB9.out
          (try simp only [F21.out] at q26)
          have q27 := HB18.out
          (try simp only [F21.out] at q27)
          rw [F21.out]
          simp only [B.rsF, F21.out, q25, q26, q27, Bool.true_or, Bool.false_or, Bool.or_true, Bool.or_false, Bool.true_and, Bool.false_and, Bool.and_true, Bool.and_false, Bool.not_true, Bool.not_false, if_true, if_false, Bool.false_eq_true, reduceIte, show b2i false = (0 : Int) from rfl, show b2i true = (1 : Int) from rfl]
        exact ⟨rfl, he24 ▸ H22.out.mono (by omega), G23.out⟩
      | false =>
        have HB18 := Aside0.mk hb18
        clear hb18
        go_wp2_with fail
        refine (set_callsA H0 G0 (by omega) ⟨#[81, 49]⟩ (by decide) false).mono ?_
        rintro e w29 ⟨f28, rfl, F30, H31, G32⟩
        clear H0 G0
        go_wp2
        go_end0
        have he33 : f28 = B.rsF f now := by
          have q34 := HB1.out
          (try simp only [F30.out] at q34)
          have q35 := HB9.out
          (try simp only [F30.out] at q35)
          have q36 := HB18.out
          (try simp only [F30.out] at q36)
          rw [F30.out]
          simp only [B.rsF, F30.out, q34, q35, q36, Bool.true_or, Bool.false_or, Bool.or_true, Bool.or_false, Bool.true_and, Bool.false_and, Bool.and_true, Bool.and_false, Bool.not_true, Bool.not_false, if_true, if_false, Bool.false_eq_true, reduceIte, show b2i false = (0 : Int) from rfl, show b2i true = (1 : Int) from rfl]
        exact ⟨rfl, he33 ▸ H31.out.mono (by omega), G32.out⟩
set_option maxHeartbeats 8000000 in
set_option maxRecDepth 100000 in
theorem rise_calls {w : World} {sb mb n : Nat} {f : ByteArray → Int} {now : Int} (h : St w sb mb n f now) (hn : n ≤ 100) (h0 : 0 ≤ now) (h1 : now ≤ 4611686018427387904) :
    Calls Try.prog 54 #[.pointer (some ⟨sb, 0, none⟩)] w fun e w' => e = .returned (.tuple #[]) ∧ St w' sb mb (n + 60) (B.riseF f now) now ∧ w.grownBy w' (some mb) := by
  have hu74 := Try.underlying74
  have H0 := Aside0.mk h
  have G0 := Aside0.mk (grown_refl w (some mb))
  clear h
  go_enter Try.func54, Try.ntmps54
  go_wp2_with fail
  refine (on_calls H0.out ⟨#[67, 76, 75]⟩ (by decide)).mono ?_
  rintro e w' ⟨rfl, rfl⟩
  cases hb1 : (f ⟨#[67, 76, 75]⟩ == 1) with
  | true =>
    have HB1 := Aside0.mk hb1
    clear hb1
    go_wp2_with fail
    refine (on_calls H0.out ⟨#[77]⟩ (by decide)).mono ?_
    rintro e w' ⟨rfl, rfl⟩
    cases hb2 : (f ⟨#[77]⟩ == 1) with
    | true =>
      have HB2 := Aside0.mk hb2
      clear hb2
      go_wp2_with fail
      refine (set_callsA H0 G0 (by omega) ⟨#[81]⟩ (by decide) false).mono ?_
      rintro e w4 ⟨f3, rfl, F5, H6, G7⟩
      clear H0 G0
      go_wp2_with fail
      refine (on_calls H6.out ⟨#[67, 76, 75]⟩ (by decide)).mono ?_
      rintro e w' ⟨rfl, rfl⟩
      go_wp2_with fail
      refine (set_callsA H6 G7 (by omega) ⟨#[77]⟩ (by decide) _).mono ?_
      rintro e w9 ⟨f8, rfl, F10, H11, G12⟩
      clear H6 G7
      go_wp2
      go_end0
      have he13 : f8 = B.riseF f now := by
        have q14 := HB1.out
        (try simp only [F10.out, F5.out] at q14)
        have q15 := HB2.out
        (try simp only [F10.out, F5.out] at q15)
        rw [F10.out]
        rw [F5.out]
        simp only [B.riseF, B.after, F10.out, F5.out, q14, q15, Bool.true_or, Bool.false_or, Bool.or_true, Bool.or_false, Bool.true_and, Bool.false_and, Bool.and_true, Bool.and_false, Bool.not_true, Bool.not_false, if_true, if_false, Bool.false_eq_true, reduceIte, show b2i false = (0 : Int) from rfl, show b2i true = (1 : Int) from rfl]
      exact ⟨rfl, he13 ▸ H11.out.mono (by omega), G12.out⟩
    | false =>
      have HB2 := Aside0.mk hb2
      clear hb2
      go_wp2_with fail
      refine (set_callsA H0 G0 (by omega) ⟨#[81]⟩ (by decide) true).mono ?_
      rintro e w17 ⟨f16, rfl, F18, H19, G20⟩
      clear H0 G0
      go_wp2_with fail
      refine (on_calls H19.out ⟨#[67, 76, 75]⟩ (by decide)).mono ?_
      rintro e w' ⟨rfl, rfl⟩
      go_wp2_with fail
      refine (set_callsA H19 G20 (by omega) ⟨#[77]⟩ (by decide) _).mono ?_
      rintro e w22 ⟨f21, rfl, F23, H24, G25⟩
      clear H19 G20
      go_wp2
      go_end0
      have he26 : f21 = B.riseF f now := by
        have q27 := HB1.out
        (try simp only [F23.out, F18.out] at q27)
        have q28 := HB2.out
        (try simp only [F23.out, F18.out] at q28)
        rw [F23.out]
        rw [F18.out]
        simp only [B.riseF, B.after, F23.out, F18.out, q27, q28, Bool.true_or, Bool.false_or, Bool.or_true, Bool.or_false, Bool.true_and, Bool.false_and, Bool.and_true, Bool.and_false, Bool.not_true, Bool.not_false, if_true, if_false, Bool.false_eq_true, reduceIte, show b2i false = (0 : Int) from rfl, show b2i true = (1 : Int) from rfl]
      exact ⟨rfl, he26 ▸ H24.out.mono (by omega), G25.out⟩
  | false =>
    have HB1 := Aside0.mk hb1
    clear hb1
    go_wp2_with fail
    refine (set_callsA H0 G0 (by omega) ⟨#[81]⟩ (by decide) false).mono ?_
    rintro e w30 ⟨f29, rfl, F31, H32, G33⟩
    clear H0 G0
    go_wp2_with fail
    refine (on_calls H32.out ⟨#[67, 76, 75]⟩ (by decide)).mono ?_
    rintro e w' ⟨rfl, rfl⟩
    go_wp2_with fail
    refine (set_callsA H32 G33 (by omega) ⟨#[77]⟩ (by decide) _).mono ?_
    rintro e w35 ⟨f34, rfl, F36, H37, G38⟩
    clear H32 G33
    go_wp2
    go_end0
    have he39 : f34 = B.riseF f now := by
      have q40 := HB1.out
      (try simp only [F36.out, F31.out] at q40)
      rw [F36.out]
      rw [F31.out]
      simp only [B.riseF, B.after, F36.out, F31.out, q40, Bool.true_or, Bool.false_or, Bool.or_true, Bool.or_false, Bool.true_and, Bool.false_and, Bool.and_true, Bool.and_false, Bool.not_true, Bool.not_false, if_true, if_false, Bool.false_eq_true, reduceIte, show b2i false = (0 : Int) from rfl, show b2i true = (1 : Int) from rfl]
    exact ⟨rfl, he39 ▸ H37.out.mono (by omega), G38.out⟩
set_option maxHeartbeats 8000000 in
set_option maxRecDepth 100000 in
theorem fall_calls {w : World} {sb mb n : Nat} {f : ByteArray → Int} {now : Int} (h : St w sb mb n f now) (hn : n ≤ 100) (h0 : 0 ≤ now) (h1 : now ≤ 4611686018427387904) :
    Calls Try.prog 55 #[.pointer (some ⟨sb, 0, none⟩)] w fun e w' => e = .returned (.tuple #[]) ∧ St w' sb mb (n + 60) (B.fallF f now) now ∧ w.grownBy w' (some mb) := by
  have hu74 := Try.underlying74
  have H0 := Aside0.mk h
  have G0 := Aside0.mk (grown_refl w (some mb))
  clear h
  go_enter Try.func55, Try.ntmps55
  go_wp2_with fail
  refine (on_calls H0.out ⟨#[77]⟩ (by decide)).mono ?_
  rintro e w' ⟨rfl, rfl⟩
  cases hb1 : (f ⟨#[77]⟩ == 1) with
  | true =>
    have HB1 := Aside0.mk hb1
    clear hb1
    go_wp2_with fail
    refine (on_calls H0.out ⟨#[67, 76, 75]⟩ (by decide)).mono ?_
    rintro e w' ⟨rfl, rfl⟩
    cases hb2 : (f ⟨#[67, 76, 75]⟩ == 1) with
    | true =>
      have HB2 := Aside0.mk hb2
      clear hb2
      go_wp2_with fail
      refine (set_callsA H0 G0 (by omega) ⟨#[81]⟩ (by decide) false).mono ?_
      rintro e w4 ⟨f3, rfl, F5, H6, G7⟩
      clear H0 G0
      go_wp2_with fail
      refine (on_calls H6.out ⟨#[67, 76, 75]⟩ (by decide)).mono ?_
      rintro e w' ⟨rfl, rfl⟩
      go_wp2_with fail
      refine (set_callsA H6 G7 (by omega) ⟨#[77]⟩ (by decide) _).mono ?_
      rintro e w9 ⟨f8, rfl, F10, H11, G12⟩
      clear H6 G7
      go_wp2
      go_end0
      have he13 : f8 = B.fallF f now := by
        have q14 := HB1.out
        (try simp only [F10.out, F5.out] at q14)
        have q15 := HB2.out
        (try simp only [F10.out, F5.out] at q15)
        rw [F10.out]
        rw [F5.out]
        simp only [B.fallF, B.after, F10.out, F5.out, q14, q15, Bool.true_or, Bool.false_or, Bool.or_true, Bool.or_false, Bool.true_and, Bool.false_and, Bool.and_true, Bool.and_false, Bool.not_true, Bool.not_false, if_true, if_false, Bool.false_eq_true, reduceIte, show b2i false = (0 : Int) from rfl, show b2i true = (1 : Int) from rfl]
      exact ⟨rfl, he13 ▸ H11.out.mono (by omega), G12.out⟩
    | false =>
      have HB2 := Aside0.mk hb2
      clear hb2
      go_wp2_with fail
      refine (set_callsA H0 G0 (by omega) ⟨#[81]⟩ (by decide) true).mono ?_
      rintro e w17 ⟨f16, rfl, F18, H19, G20⟩
      clear H0 G0
      go_wp2_with fail
      refine (on_calls H19.out ⟨#[67, 76, 75]⟩ (by decide)).mono ?_
      rintro e w' ⟨rfl, rfl⟩
      go_wp2_with fail
      refine (set_callsA H19 G20 (by omega) ⟨#[77]⟩ (by decide) _).mono ?_
      rintro e w22 ⟨f21, rfl, F23, H24, G25⟩
      clear H19 G20
      go_wp2
      go_end0
      have he26 : f21 = B.fallF f now := by
        have q27 := HB1.out
        (try simp only [F23.out, F18.out] at q27)
        have q28 := HB2.out
        (try simp only [F23.out, F18.out] at q28)
        rw [F23.out]
        rw [F18.out]
        simp only [B.fallF, B.after, F23.out, F18.out, q27, q28, Bool.true_or, Bool.false_or, Bool.or_true, Bool.or_false, Bool.true_and, Bool.false_and, Bool.and_true, Bool.and_false, Bool.not_true, Bool.not_false, if_true, if_false, Bool.false_eq_true, reduceIte, show b2i false = (0 : Int) from rfl, show b2i true = (1 : Int) from rfl]
      exact ⟨rfl, he26 ▸ H24.out.mono (by omega), G25.out⟩
  | false =>
    have HB1 := Aside0.mk hb1
    clear hb1
    go_wp2_with fail
    refine (set_callsA H0 G0 (by omega) ⟨#[81]⟩ (by decide) false).mono ?_
    rintro e w30 ⟨f29, rfl, F31, H32, G33⟩
    clear H0 G0
    go_wp2_with fail
    refine (on_calls H32.out ⟨#[67, 76, 75]⟩ (by decide)).mono ?_
    rintro e w' ⟨rfl, rfl⟩
    go_wp2_with fail
    refine (set_callsA H32 G33 (by omega) ⟨#[77]⟩ (by decide) _).mono ?_
    rintro e w35 ⟨f34, rfl, F36, H37, G38⟩
    clear H32 G33
    go_wp2
    go_end0
    have he39 : f34 = B.fallF f now := by
      have q40 := HB1.out
      (try simp only [F36.out, F31.out] at q40)
      rw [F36.out]
      rw [F31.out]
      simp only [B.fallF, B.after, F36.out, F31.out, q40, Bool.true_or, Bool.false_or, Bool.or_true, Bool.or_false, Bool.true_and, Bool.false_and, Bool.and_true, Bool.and_false, Bool.not_true, Bool.not_false, if_true, if_false, Bool.false_eq_true, reduceIte, show b2i false = (0 : Int) from rfl, show b2i true = (1 : Int) from rfl]
    exact ⟨rfl, he39 ▸ H37.out.mono (by omega), G38.out⟩

end Go.Proofs.Ytfadafgnahhmdaa.X
namespace Go.Proofs.Ytfadafgnahhmdaa.X
open Go.RowKit Go.Proofs.YtfadafgnahhmdaaW.PrintWords Go.Proofs.YtfadafgnahhmdaaW.PrintLast Go.Proofs.YtfadafgnahhmdaaW.PrintMore Go.Proofs.Ytfadafgnahhmdaa.E
attribute [local go_sem] max2_int min2_int max_two min_two max_three min_three max_four min_four
set_option linter.unusedVariables false
set_option linter.unusedSimpArgs false

open B (upd b2i mnI sinceF spanF)
set_option maxHeartbeats 8000000 in
set_option maxRecDepth 100000 in
theorem ctu_calls {w : World} {sb mb n : Nat} {f : ByteArray → Int} {now : Int} (h : St w sb mb n f now) (hn : n ≤ 100) (h0 : 0 ≤ now) (h1 : now ≤ 4611686018427387904) :
    Calls Try.prog 56 #[.pointer (some ⟨sb, 0, none⟩)] w fun e w' => e = .returned (.tuple #[]) ∧ St w' sb mb (n + 60) (B.ctuF f now) now ∧ w.grownBy w' (some mb) := by
  have hu74 := Try.underlying74
  have H0 := Aside0.mk h
  have G0 := Aside0.mk (grown_refl w (some mb))
  clear h
  go_enter Try.func56, Try.ntmps56
  go_wp2_with fail
  refine (on_calls H0.out ⟨#[82]⟩ (by decide)).mono ?_
  rintro e w' ⟨rfl, rfl⟩
  cases hb1 : (f ⟨#[82]⟩ == 1) with
  | true =>
    have HB1 := Aside0.mk hb1
    clear hb1
    obtain ⟨w3, f2, r7, F4, H5, G6⟩ := St.putA H0 G0 (by omega) ⟨#[67, 86]⟩ (by decide) (0) (by decide)
    have c0 := H0.out.c0
    have c1 := H0.out.c1
    go_wp2_with fail
    clear c0 c1
    clear r7 H0 G0
    have c0 := H5.out.c0
    have c1 := H5.out.c1
    have dCV := H5.out.lookd ⟨#[67, 86]⟩ (by decide)
    have dPV := H5.out.lookd ⟨#[80, 86]⟩ (by decide)
    go_still_tail 12, (by kernel_rfl)
    change wpList _ _ _ _ _ w3.drew
    have H8 := Aside0.mk H5.out.drew
    have G9 := Aside0.mk (grown_drew G6.out)
    clear c0 c1 dCV dPV H5 G6
    generalize w3.drew = w10 at H8 G9 ⊢
    go_wp2_with fail
    refine (set_callsA H8 G9 (by omega) ⟨#[81]⟩ (by decide) _).mono ?_
    rintro e w12 ⟨f11, rfl, F13, H14, G15⟩
    clear H8 G9
    go_wp2_with fail
    refine (on_calls H14.out ⟨#[67, 85]⟩ (by decide)).mono ?_
    rintro e w' ⟨rfl, rfl⟩
    go_wp2_with fail
    refine (set_callsA H14 G15 (by omega) ⟨#[77]⟩ (by decide) _).mono ?_
    rintro e w17 ⟨f16, rfl, F18, H19, G20⟩
    clear H14 G15
    go_wp2
    go_end0
    have he21 : f16 = B.ctuF f now := by
      have q22 := HB1.out
      (try simp only [F18.out, F13.out, F4.out] at q22)
      rw [F18.out]
      rw [F13.out]
      rw [F4.out]
      simp only [B.ctuF, B.after, B.full, F18.out, F13.out, F4.out, q22, Bool.true_or, Bool.false_or, Bool.or_true, Bool.or_false, Bool.true_and, Bool.false_and, Bool.and_true, Bool.and_false, Bool.not_true, Bool.not_false, if_true, if_false, Bool.false_eq_true, reduceIte, show b2i false = (0 : Int) from rfl, show b2i true = (1 : Int) from rfl]
    exact ⟨rfl, he21 ▸ H19.out.mono (by omega), G20.out⟩
  | false =>
    have HB1 := Aside0.mk hb1
    clear hb1
    go_wp2_with fail
    refine (rises_calls H0.out ⟨#[67, 85]⟩ ⟨#[77]⟩ (by decide) (by decide)).mono ?_
    rintro e w' ⟨rfl, rfl⟩
    cases hb23 : ((f ⟨#[67, 85]⟩ == 1) && !(f ⟨#[77]⟩ == 1)) with
    | true =>
      have HB23 := Aside0.mk hb23
      clear hb23
      cases hc24 : decide (f ⟨#[67, 86]⟩ < 32767) with
      | true =>
        have HC24 := Aside0.mk hc24
        have hp := of_decide_eq_true hc24
        have b1 := H0.out.2.lo ⟨#[67, 86]⟩
        obtain ⟨w26, f25, r30, F27, H28, G29⟩ := St.putA H0 G0 (by omega) ⟨#[67, 86]⟩ (by decide) (f ⟨#[67, 86]⟩ + 1) (WalkArith.wf_i64 (by omega))
        have c0 := H0.out.c0
        have c1 := H0.out.c1
        have lCV := H0.out.look0 ⟨#[67, 86]⟩ (by decide)
        go_wp2_with fail
        clear c0 c1 lCV
        clear b1 hp hc24
        clear r30 H0 G0
        have c0 := H28.out.c0
        have c1 := H28.out.c1
        have dCV := H28.out.lookd ⟨#[67, 86]⟩ (by decide)
        have dPV := H28.out.lookd ⟨#[80, 86]⟩ (by decide)
        go_still_tail 12, (by kernel_rfl)
        change wpList _ _ _ _ _ w26.drew
        have H31 := Aside0.mk H28.out.drew
        have G32 := Aside0.mk (grown_drew G29.out)
        clear c0 c1 dCV dPV H28 G29
        generalize w26.drew = w33 at H31 G32 ⊢
        go_wp2_with fail
        refine (set_callsA H31 G32 (by omega) ⟨#[81]⟩ (by decide) _).mono ?_
        rintro e w35 ⟨f34, rfl, F36, H37, G38⟩
        clear H31 G32
        go_wp2_with fail
        refine (on_calls H37.out ⟨#[67, 85]⟩ (by decide)).mono ?_
        rintro e w' ⟨rfl, rfl⟩
        go_wp2_with fail
        refine (set_callsA H37 G38 (by omega) ⟨#[77]⟩ (by decide) _).mono ?_
        rintro e w40 ⟨f39, rfl, F41, H42, G43⟩
        clear H37 G38
        go_wp2
        go_end0
        have he44 : f39 = B.ctuF f now := by
          have q45 := HB1.out
          (try simp only [F41.out, F36.out, F27.out] at q45)
          have q46 := HB23.out
          (try simp only [F41.out, F36.out, F27.out] at q46)
          have q47 := HC24.out
          (try simp only [F41.out, F36.out, F27.out] at q47)
          rw [F41.out]
          rw [F36.out]
          rw [F27.out]
          simp only [B.ctuF, B.after, B.full, F41.out, F36.out, F27.out, q45, q46, q47, Bool.true_or, Bool.false_or, Bool.or_true, Bool.or_false, Bool.true_and, Bool.false_and, Bool.and_true, Bool.and_false, Bool.not_true, Bool.not_false, if_true, if_false, Bool.false_eq_true, reduceIte, show b2i false = (0 : Int) from rfl, show b2i true = (1 : Int) from rfl]
        exact ⟨rfl, he44 ▸ H42.out.mono (by omega), G43.out⟩
      | false =>
        have HC24 := Aside0.mk hc24
        have hp := of_decide_eq_false hc24
        have c0 := H0.out.c0
        have c1 := H0.out.c1
        have lCV := H0.out.look0 ⟨#[67, 86]⟩ (by decide)
        go_wp2_with fail
        clear c0 c1 lCV
        clear hp hc24
        have c0 := H0.out.c0
        have c1 := H0.out.c1
        have dCV := H0.out.lookd ⟨#[67, 86]⟩ (by decide)
        have dPV := H0.out.lookd ⟨#[80, 86]⟩ (by decide)
        go_still_tail 12, (by kernel_rfl)
        change wpList _ _ _ _ _ w.drew
        have H48 := Aside0.mk H0.out.drew
        have G49 := Aside0.mk (grown_drew G0.out)
        clear c0 c1 dCV dPV H0 G0
        generalize w.drew = w50 at H48 G49 ⊢
        go_wp2_with fail
        refine (set_callsA H48 G49 (by omega) ⟨#[81]⟩ (by decide) _).mono ?_
        rintro e w52 ⟨f51, rfl, F53, H54, G55⟩
        clear H48 G49
        go_wp2_with fail
        refine (on_calls H54.out ⟨#[67, 85]⟩ (by decide)).mono ?_
        rintro e w' ⟨rfl, rfl⟩
        go_wp2_with fail
        refine (set_callsA H54 G55 (by omega) ⟨#[77]⟩ (by decide) _).mono ?_
        rintro e w57 ⟨f56, rfl, F58, H59, G60⟩
        clear H54 G55
        go_wp2
        go_end0
        have he61 : f56 = B.ctuF f now := by
          have q62 := HB1.out
          (try simp only [F58.out, F53.out] at q62)
          have q63 := HB23.out
          (try simp only [F58.out, F53.out] at q63)
          have q64 := HC24.out
          (try simp only [F58.out, F53.out] at q64)
          rw [F58.out]
          rw [F53.out]
          simp only [B.ctuF, B.after, B.full, F58.out, F53.out, q62, q63, q64, Bool.true_or, Bool.false_or, Bool.or_true, Bool.or_false, Bool.true_and, Bool.false_and, Bool.and_true, Bool.and_false, Bool.not_true, Bool.not_false, if_true, if_false, Bool.false_eq_true, reduceIte, show b2i false = (0 : Int) from rfl, show b2i true = (1 : Int) from rfl]
        exact ⟨rfl, he61 ▸ H59.out.mono (by omega), G60.out⟩
    | false =>
      have HB23 := Aside0.mk hb23
      clear hb23
      go_wp2_with fail
      have c0 := H0.out.c0
      have c1 := H0.out.c1
      have dCV := H0.out.lookd ⟨#[67, 86]⟩ (by decide)
      have dPV := H0.out.lookd ⟨#[80, 86]⟩ (by decide)
      go_still_tail 12, (by kernel_rfl)
      change wpList _ _ _ _ _ w.drew
      have H65 := Aside0.mk H0.out.drew
      have G66 := Aside0.mk (grown_drew G0.out)
      clear c0 c1 dCV dPV H0 G0
      generalize w.drew = w67 at H65 G66 ⊢
      go_wp2_with fail
      refine (set_callsA H65 G66 (by omega) ⟨#[81]⟩ (by decide) _).mono ?_
      rintro e w69 ⟨f68, rfl, F70, H71, G72⟩
      clear H65 G66
      go_wp2_with fail
      refine (on_calls H71.out ⟨#[67, 85]⟩ (by decide)).mono ?_
      rintro e w' ⟨rfl, rfl⟩
      go_wp2_with fail
      refine (set_callsA H71 G72 (by omega) ⟨#[77]⟩ (by decide) _).mono ?_
      rintro e w74 ⟨f73, rfl, F75, H76, G77⟩
      clear H71 G72
      go_wp2
      go_end0
      have he78 : f73 = B.ctuF f now := by
        have q79 := HB1.out
        (try simp only [F75.out, F70.out] at q79)
        have q80 := HB23.out
        (try simp only [F75.out, F70.out] at q80)
        rw [F75.out]
        rw [F70.out]
        simp only [B.ctuF, B.after, B.full, F75.out, F70.out, q79, q80, Bool.true_or, Bool.false_or, Bool.or_true, Bool.or_false, Bool.true_and, Bool.false_and, Bool.and_true, Bool.and_false, Bool.not_true, Bool.not_false, if_true, if_false, Bool.false_eq_true, reduceIte, show b2i false = (0 : Int) from rfl, show b2i true = (1 : Int) from rfl]
      exact ⟨rfl, he78 ▸ H76.out.mono (by omega), G77.out⟩
set_option maxHeartbeats 8000000 in
set_option maxRecDepth 100000 in
theorem ctd_calls {w : World} {sb mb n : Nat} {f : ByteArray → Int} {now : Int} (h : St w sb mb n f now) (hn : n ≤ 100) (h0 : 0 ≤ now) (h1 : now ≤ 4611686018427387904) :
    Calls Try.prog 57 #[.pointer (some ⟨sb, 0, none⟩)] w fun e w' => e = .returned (.tuple #[]) ∧ St w' sb mb (n + 60) (B.ctdF f now) now ∧ w.grownBy w' (some mb) := by
  have hu74 := Try.underlying74
  have H0 := Aside0.mk h
  have G0 := Aside0.mk (grown_refl w (some mb))
  clear h
  go_enter Try.func57, Try.ntmps57
  go_wp2_with fail
  refine (on_calls H0.out ⟨#[76, 68]⟩ (by decide)).mono ?_
  rintro e w' ⟨rfl, rfl⟩
  cases hb1 : (f ⟨#[76, 68]⟩ == 1) with
  | true =>
    have HB1 := Aside0.mk hb1
    clear hb1
    go_wp2_with fail
    have c0 := H0.out.c0
    have c1 := H0.out.c1
    have dPV := H0.out.lookd ⟨#[80, 86]⟩ (by decide)
    go_still_tail 9, (by kernel_rfl)
    change wpList _ _ _ _ _ w.drew
    have H2 := Aside0.mk H0.out.drew
    have G3 := Aside0.mk (grown_drew G0.out)
    clear c0 c1 dPV H0 G0
    generalize w.drew = w4 at H2 G3 ⊢
    obtain ⟨w6, f5, r10, F7, H8, G9⟩ := St.putA H2 G3 (by omega) ⟨#[67, 86]⟩ (by decide) (f ⟨#[80, 86]⟩) (H2.out.2.wf _)
    have c0 := H2.out.c0
    have c1 := H2.out.c1
    have lPV := H2.out.look0 ⟨#[80, 86]⟩ (by decide)
    have e0 := H8.out.c0
    have eCV := H8.out.look0 ⟨#[67, 86]⟩ (by decide)
    go_wp2_with fail
    clear c0 c1 lPV e0 eCV
    clear r10 H2 G3
    refine (set_callsA H8 G9 (by omega) ⟨#[81]⟩ (by decide) _).mono ?_
    rintro e w12 ⟨f11, rfl, F13, H14, G15⟩
    clear H8 G9
    go_wp2_with fail
    refine (on_calls H14.out ⟨#[67, 68]⟩ (by decide)).mono ?_
    rintro e w' ⟨rfl, rfl⟩
    go_wp2_with fail
    refine (set_callsA H14 G15 (by omega) ⟨#[77]⟩ (by decide) _).mono ?_
    rintro e w17 ⟨f16, rfl, F18, H19, G20⟩
    clear H14 G15
    go_wp2
    go_end0
    have he21 : f16 = B.ctdF f now := by
      have q22 := HB1.out
      (try simp only [F18.out, F13.out, F7.out] at q22)
      rw [F18.out]
      rw [F13.out]
      rw [F7.out]
      simp only [B.ctdF, B.after, B.empty, F18.out, F13.out, F7.out, q22, Bool.true_or, Bool.false_or, Bool.or_true, Bool.or_false, Bool.true_and, Bool.false_and, Bool.and_true, Bool.and_false, Bool.not_true, Bool.not_false, if_true, if_false, Bool.false_eq_true, reduceIte, show b2i false = (0 : Int) from rfl, show b2i true = (1 : Int) from rfl]
    exact ⟨rfl, he21 ▸ H19.out.mono (by omega), G20.out⟩
  | false =>
    have HB1 := Aside0.mk hb1
    clear hb1
    go_wp2_with fail
    refine (rises_calls H0.out ⟨#[67, 68]⟩ ⟨#[77]⟩ (by decide) (by decide)).mono ?_
    rintro e w' ⟨rfl, rfl⟩
    cases hb23 : ((f ⟨#[67, 68]⟩ == 1) && !(f ⟨#[77]⟩ == 1)) with
    | true =>
      have HB23 := Aside0.mk hb23
      clear hb23
      cases hc24 : decide (-32768 < f ⟨#[67, 86]⟩) with
      | true =>
        have HC24 := Aside0.mk hc24
        have hp := of_decide_eq_true hc24
        have b1 := H0.out.2.lo ⟨#[67, 86]⟩
        obtain ⟨w26, f25, r30, F27, H28, G29⟩ := St.putA H0 G0 (by omega) ⟨#[67, 86]⟩ (by decide) (f ⟨#[67, 86]⟩ - 1) (WalkArith.wf_i64 (by omega))
        have c0 := H0.out.c0
        have c1 := H0.out.c1
        have lCV := H0.out.look0 ⟨#[67, 86]⟩ (by decide)
        have e0 := H28.out.c0
        have eCV := H28.out.look0 ⟨#[67, 86]⟩ (by decide)
        go_wp2_with fail
        clear c0 c1 lCV e0 eCV
        clear b1 hp hc24
        clear r30 H0 G0
        refine (set_callsA H28 G29 (by omega) ⟨#[81]⟩ (by decide) _).mono ?_
        rintro e w32 ⟨f31, rfl, F33, H34, G35⟩
        clear H28 G29
        go_wp2_with fail
        refine (on_calls H34.out ⟨#[67, 68]⟩ (by decide)).mono ?_
        rintro e w' ⟨rfl, rfl⟩
        go_wp2_with fail
        refine (set_callsA H34 G35 (by omega) ⟨#[77]⟩ (by decide) _).mono ?_
        rintro e w37 ⟨f36, rfl, F38, H39, G40⟩
        clear H34 G35
        go_wp2
        go_end0
        have he41 : f36 = B.ctdF f now := by
          have q42 := HB1.out
          (try simp only [F38.out, F33.out, F27.out] at q42)
          have q43 := HB23.out
          (try simp only [F38.out, F33.out, F27.out] at q43)
          have q44 := HC24.out
          (try simp only [F38.out, F33.out, F27.out] at q44)
          rw [F38.out]
          rw [F33.out]
          rw [F27.out]
          simp only [B.ctdF, B.after, B.empty, F38.out, F33.out, F27.out, q42, q43, q44, Bool.true_or, Bool.false_or, Bool.or_true, Bool.or_false, Bool.true_and, Bool.false_and, Bool.and_true, Bool.and_false, Bool.not_true, Bool.not_false, if_true, if_false, Bool.false_eq_true, reduceIte, show b2i false = (0 : Int) from rfl, show b2i true = (1 : Int) from rfl]
        exact ⟨rfl, he41 ▸ H39.out.mono (by omega), G40.out⟩
      | false =>
        have HC24 := Aside0.mk hc24
        have hp := of_decide_eq_false hc24
        have c0 := H0.out.c0
        have c1 := H0.out.c1
        have lCV := H0.out.look0 ⟨#[67, 86]⟩ (by decide)
        go_wp2_with fail
        clear c0 c1 lCV
        clear hp hc24
        refine (set_callsA H0 G0 (by omega) ⟨#[81]⟩ (by decide) _).mono ?_
        rintro e w46 ⟨f45, rfl, F47, H48, G49⟩
        clear H0 G0
        go_wp2_with fail
        refine (on_calls H48.out ⟨#[67, 68]⟩ (by decide)).mono ?_
        rintro e w' ⟨rfl, rfl⟩
        go_wp2_with fail
        refine (set_callsA H48 G49 (by omega) ⟨#[77]⟩ (by decide) _).mono ?_
        rintro e w51 ⟨f50, rfl, F52, H53, G54⟩
        clear H48 G49
        go_wp2
        go_end0
        have he55 : f50 = B.ctdF f now := by
          have q56 := HB1.out
          (try simp only [F52.out, F47.out] at q56)
          have q57 := HB23.out
          (try simp only [F52.out, F47.out] at q57)
          have q58 := HC24.out
          (try simp only [F52.out, F47.out] at q58)
          rw [F52.out]
          rw [F47.out]
          simp only [B.ctdF, B.after, B.empty, F52.out, F47.out, q56, q57, q58, Bool.true_or, Bool.false_or, Bool.or_true, Bool.or_false, Bool.true_and, Bool.false_and, Bool.and_true, Bool.and_false, Bool.not_true, Bool.not_false, if_true, if_false, Bool.false_eq_true, reduceIte, show b2i false = (0 : Int) from rfl, show b2i true = (1 : Int) from rfl]
        exact ⟨rfl, he55 ▸ H53.out.mono (by omega), G54.out⟩
    | false =>
      have HB23 := Aside0.mk hb23
      clear hb23
      have c0 := H0.out.c0
      have c1 := H0.out.c1
      have lCV := H0.out.look0 ⟨#[67, 86]⟩ (by decide)
      go_wp2_with fail
      clear c0 c1 lCV
      refine (set_callsA H0 G0 (by omega) ⟨#[81]⟩ (by decide) _).mono ?_
      rintro e w60 ⟨f59, rfl, F61, H62, G63⟩
      clear H0 G0
      go_wp2_with fail
      refine (on_calls H62.out ⟨#[67, 68]⟩ (by decide)).mono ?_
      rintro e w' ⟨rfl, rfl⟩
      go_wp2_with fail
      refine (set_callsA H62 G63 (by omega) ⟨#[77]⟩ (by decide) _).mono ?_
      rintro e w65 ⟨f64, rfl, F66, H67, G68⟩
      clear H62 G63
      go_wp2
      go_end0
      have he69 : f64 = B.ctdF f now := by
        have q70 := HB1.out
        (try simp only [F66.out, F61.out] at q70)
        have q71 := HB23.out
        (try simp only [F66.out, F61.out] at q71)
        rw [F66.out]
        rw [F61.out]
        simp only [B.ctdF, B.after, B.empty, F66.out, F61.out, q70, q71, Bool.true_or, Bool.false_or, Bool.or_true, Bool.or_false, Bool.true_and, Bool.false_and, Bool.and_true, Bool.and_false, Bool.not_true, Bool.not_false, if_true, if_false, Bool.false_eq_true, reduceIte, show b2i false = (0 : Int) from rfl, show b2i true = (1 : Int) from rfl]
      exact ⟨rfl, he69 ▸ H67.out.mono (by omega), G68.out⟩

end Go.Proofs.Ytfadafgnahhmdaa.X
namespace Go.Proofs.Ytfadafgnahhmdaa.X
open Go.RowKit Go.Proofs.YtfadafgnahhmdaaW.PrintWords Go.Proofs.YtfadafgnahhmdaaW.PrintLast Go.Proofs.YtfadafgnahhmdaaW.PrintMore Go.Proofs.Ytfadafgnahhmdaa.E
attribute [local go_sem] max2_int min2_int max_two min_two max_three min_three max_four min_four
set_option linter.unusedVariables false
set_option linter.unusedSimpArgs false

open B (upd b2i mnI sinceF spanF)
set_option maxHeartbeats 8000000 in
set_option maxRecDepth 100000 in
theorem ctud_calls {w : World} {sb mb n : Nat} {f : ByteArray → Int} {now : Int} (h : St w sb mb n f now) (hn : n ≤ 100) (h0 : 0 ≤ now) (h1 : now ≤ 4611686018427387904) :
    Calls Try.prog 58 #[.pointer (some ⟨sb, 0, none⟩)] w fun e w' => e = .returned (.tuple #[]) ∧ St w' sb mb (n + 60) (B.ctudF f now) now ∧ w.grownBy w' (some mb) := by
  have hu74 := Try.underlying74
  have H0 := Aside0.mk h
  have G0 := Aside0.mk (grown_refl w (some mb))
  clear h
  go_enter Try.func58, Try.ntmps58
  go_wp2_with fail
  refine (rises_calls H0.out ⟨#[67, 85]⟩ ⟨#[77]⟩ (by decide) (by decide)).mono ?_
  rintro e w' ⟨rfl, rfl⟩
  go_wp2_with fail
  refine (rises_calls H0.out ⟨#[67, 68]⟩ ⟨#[78]⟩ (by decide) (by decide)).mono ?_
  rintro e w' ⟨rfl, rfl⟩
  obtain ⟨u, hu⟩ : ∃ u, u = ((f ⟨#[67, 85]⟩ == 1) && !(f ⟨#[77]⟩ == 1)) := ⟨_, rfl⟩
  obtain ⟨d, hd⟩ : ∃ d, d = ((f ⟨#[67, 68]⟩ == 1) && !(f ⟨#[78]⟩ == 1)) := ⟨_, rfl⟩
  rw [← hu, ← hd]
  have HU := Aside0.mk hu.symm
  have HD := Aside0.mk hd.symm
  clear hu hd
  go_wp2_with fail
  refine (on_calls H0.out ⟨#[82]⟩ (by decide)).mono ?_
  rintro e w' ⟨rfl, rfl⟩
  cases hb1 : (f ⟨#[82]⟩ == 1) with
  | true =>
    have HB1 := Aside0.mk hb1
    clear hb1
    obtain ⟨w3, f2, r7, F4, H5, G6⟩ := St.putA H0 G0 (by omega) ⟨#[67, 86]⟩ (by decide) (0) (by decide)
    have c0 := H0.out.c0
    have c1 := H0.out.c1
    go_wp2_with fail
    clear c0 c1
    clear r7 H0 G0
    have c0 := H5.out.c0
    have c1 := H5.out.c1
    have dCV := H5.out.lookd ⟨#[67, 86]⟩ (by decide)
    have dPV := H5.out.lookd ⟨#[80, 86]⟩ (by decide)
    go_still_tail 12, (by kernel_rfl)
    change wpList _ _ _ _ _ w3.drew
    have H8 := Aside0.mk H5.out.drew
    have G9 := Aside0.mk (grown_drew G6.out)
    clear c0 c1 dCV dPV H5 G6
    generalize w3.drew = w10 at H8 G9 ⊢
    go_wp2_with fail
    refine (set_callsA H8 G9 (by omega) ⟨#[81, 85]⟩ (by decide) _).mono ?_
    rintro e w12 ⟨f11, rfl, F13, H14, G15⟩
    clear H8 G9
    have c0 := H14.out.c0
    have c1 := H14.out.c1
    have lCV := H14.out.look0 ⟨#[67, 86]⟩ (by decide)
    go_wp2_with fail
    clear c0 c1 lCV
    refine (set_callsA H14 G15 (by omega) ⟨#[81, 68]⟩ (by decide) _).mono ?_
    rintro e w17 ⟨f16, rfl, F18, H19, G20⟩
    clear H14 G15
    go_wp2_with fail
    refine (on_calls H19.out ⟨#[67, 85]⟩ (by decide)).mono ?_
    rintro e w' ⟨rfl, rfl⟩
    go_wp2_with fail
    refine (set_callsA H19 G20 (by omega) ⟨#[77]⟩ (by decide) _).mono ?_
    rintro e w22 ⟨f21, rfl, F23, H24, G25⟩
    clear H19 G20
    go_wp2_with fail
    refine (on_calls H24.out ⟨#[67, 68]⟩ (by decide)).mono ?_
    rintro e w' ⟨rfl, rfl⟩
    go_wp2_with fail
    refine (set_callsA H24 G25 (by omega) ⟨#[78]⟩ (by decide) _).mono ?_
    rintro e w27 ⟨f26, rfl, F28, H29, G30⟩
    clear H24 G25
    go_wp2
    go_end0
    have he31 : f26 = B.ctudF f now := by
      have q32 := HU.out
      (try simp only [F28.out, F23.out, F18.out, F13.out, F4.out] at q32)
      have q33 := HD.out
      (try simp only [F28.out, F23.out, F18.out, F13.out, F4.out] at q33)
      have q34 := HB1.out
      (try simp only [F28.out, F23.out, F18.out, F13.out, F4.out] at q34)
      rw [F28.out]
      rw [F23.out]
      rw [F18.out]
      rw [F13.out]
      rw [F4.out]
      simp only [B.ctudF, B.ctudV, B.after, B.full, B.empty, F28.out, F23.out, F18.out, F13.out, F4.out, q32, q33, q34, Bool.true_or, Bool.false_or, Bool.or_true, Bool.or_false, Bool.true_and, Bool.false_and, Bool.and_true, Bool.and_false, Bool.not_true, Bool.not_false, if_true, if_false, Bool.false_eq_true, reduceIte, show b2i false = (0 : Int) from rfl, show b2i true = (1 : Int) from rfl]
    exact ⟨rfl, he31 ▸ H29.out.mono (by omega), G30.out⟩
  | false =>
    have HB1 := Aside0.mk hb1
    clear hb1
    go_wp2_with fail
    refine (on_calls H0.out ⟨#[76, 68]⟩ (by decide)).mono ?_
    rintro e w' ⟨rfl, rfl⟩
    cases hb35 : (f ⟨#[76, 68]⟩ == 1) with
    | true =>
      have HB35 := Aside0.mk hb35
      clear hb35
      go_wp2_with fail
      have c0 := H0.out.c0
      have c1 := H0.out.c1
      have dPV := H0.out.lookd ⟨#[80, 86]⟩ (by decide)
      go_still_tail 9, (by kernel_rfl)
      change wpList _ _ _ _ _ w.drew
      have H36 := Aside0.mk H0.out.drew
      have G37 := Aside0.mk (grown_drew G0.out)
      clear c0 c1 dPV H0 G0
      generalize w.drew = w38 at H36 G37 ⊢
      obtain ⟨w40, f39, r44, F41, H42, G43⟩ := St.putA H36 G37 (by omega) ⟨#[67, 86]⟩ (by decide) (f ⟨#[80, 86]⟩) (H36.out.2.wf _)
      go_wp2_with fail
      clear r44 H36 G37
      have c0 := H42.out.c0
      have c1 := H42.out.c1
      have dCV := H42.out.lookd ⟨#[67, 86]⟩ (by decide)
      have dPV := H42.out.lookd ⟨#[80, 86]⟩ (by decide)
      go_still_tail 12, (by kernel_rfl)
      change wpList _ _ _ _ _ w40.drew
      have H45 := Aside0.mk H42.out.drew
      have G46 := Aside0.mk (grown_drew G43.out)
      clear c0 c1 dCV dPV H42 G43
      generalize w40.drew = w47 at H45 G46 ⊢
      go_wp2_with fail
      refine (set_callsA H45 G46 (by omega) ⟨#[81, 85]⟩ (by decide) _).mono ?_
      rintro e w49 ⟨f48, rfl, F50, H51, G52⟩
      clear H45 G46
      have c0 := H51.out.c0
      have c1 := H51.out.c1
      have lCV := H51.out.look0 ⟨#[67, 86]⟩ (by decide)
      go_wp2_with fail
      clear c0 c1 lCV
      refine (set_callsA H51 G52 (by omega) ⟨#[81, 68]⟩ (by decide) _).mono ?_
      rintro e w54 ⟨f53, rfl, F55, H56, G57⟩
      clear H51 G52
      go_wp2_with fail
      refine (on_calls H56.out ⟨#[67, 85]⟩ (by decide)).mono ?_
      rintro e w' ⟨rfl, rfl⟩
      go_wp2_with fail
      refine (set_callsA H56 G57 (by omega) ⟨#[77]⟩ (by decide) _).mono ?_
      rintro e w59 ⟨f58, rfl, F60, H61, G62⟩
      clear H56 G57
      go_wp2_with fail
      refine (on_calls H61.out ⟨#[67, 68]⟩ (by decide)).mono ?_
      rintro e w' ⟨rfl, rfl⟩
      go_wp2_with fail
      refine (set_callsA H61 G62 (by omega) ⟨#[78]⟩ (by decide) _).mono ?_
      rintro e w64 ⟨f63, rfl, F65, H66, G67⟩
      clear H61 G62
      go_wp2
      go_end0
      have he68 : f63 = B.ctudF f now := by
        have q69 := HU.out
        (try simp only [F65.out, F60.out, F55.out, F50.out, F41.out] at q69)
        have q70 := HD.out
        (try simp only [F65.out, F60.out, F55.out, F50.out, F41.out] at q70)
        have q71 := HB1.out
        (try simp only [F65.out, F60.out, F55.out, F50.out, F41.out] at q71)
        have q72 := HB35.out
        (try simp only [F65.out, F60.out, F55.out, F50.out, F41.out] at q72)
        rw [F65.out]
        rw [F60.out]
        rw [F55.out]
        rw [F50.out]
        rw [F41.out]
        simp only [B.ctudF, B.ctudV, B.after, B.full, B.empty, F65.out, F60.out, F55.out, F50.out, F41.out, q69, q70, q71, q72, Bool.true_or, Bool.false_or, Bool.or_true, Bool.or_false, Bool.true_and, Bool.false_and, Bool.and_true, Bool.and_false, Bool.not_true, Bool.not_false, if_true, if_false, Bool.false_eq_true, reduceIte, show b2i false = (0 : Int) from rfl, show b2i true = (1 : Int) from rfl]
      exact ⟨rfl, he68 ▸ H66.out.mono (by omega), G67.out⟩
    | false =>
      have HB35 := Aside0.mk hb35
      clear hb35
      cases u with
      | true =>
        cases d with
        | true =>
          go_wp2_with fail
          have c0 := H0.out.c0
          have c1 := H0.out.c1
          have dCV := H0.out.lookd ⟨#[67, 86]⟩ (by decide)
          have dPV := H0.out.lookd ⟨#[80, 86]⟩ (by decide)
          go_still_tail 12, (by kernel_rfl)
          change wpList _ _ _ _ _ w.drew
          have H73 := Aside0.mk H0.out.drew
          have G74 := Aside0.mk (grown_drew G0.out)
          clear c0 c1 dCV dPV H0 G0
          generalize w.drew = w75 at H73 G74 ⊢
          go_wp2_with fail
          refine (set_callsA H73 G74 (by omega) ⟨#[81, 85]⟩ (by decide) _).mono ?_
          rintro e w77 ⟨f76, rfl, F78, H79, G80⟩
          clear H73 G74
          have c0 := H79.out.c0
          have c1 := H79.out.c1
          have lCV := H79.out.look0 ⟨#[67, 86]⟩ (by decide)
          go_wp2_with fail
          clear c0 c1 lCV
          refine (set_callsA H79 G80 (by omega) ⟨#[81, 68]⟩ (by decide) _).mono ?_
          rintro e w82 ⟨f81, rfl, F83, H84, G85⟩
          clear H79 G80
          go_wp2_with fail
          refine (on_calls H84.out ⟨#[67, 85]⟩ (by decide)).mono ?_
          rintro e w' ⟨rfl, rfl⟩
          go_wp2_with fail
          refine (set_callsA H84 G85 (by omega) ⟨#[77]⟩ (by decide) _).mono ?_
          rintro e w87 ⟨f86, rfl, F88, H89, G90⟩
          clear H84 G85
          go_wp2_with fail
          refine (on_calls H89.out ⟨#[67, 68]⟩ (by decide)).mono ?_
          rintro e w' ⟨rfl, rfl⟩
          go_wp2_with fail
          refine (set_callsA H89 G90 (by omega) ⟨#[78]⟩ (by decide) _).mono ?_
          rintro e w92 ⟨f91, rfl, F93, H94, G95⟩
          clear H89 G90
          go_wp2
          go_end0
          have he96 : f91 = B.ctudF f now := by
            have q97 := HU.out
            (try simp only [F93.out, F88.out, F83.out, F78.out] at q97)
            have q98 := HD.out
            (try simp only [F93.out, F88.out, F83.out, F78.out] at q98)
            have q99 := HB1.out
            (try simp only [F93.out, F88.out, F83.out, F78.out] at q99)
            have q100 := HB35.out
            (try simp only [F93.out, F88.out, F83.out, F78.out] at q100)
            rw [F93.out]
            rw [F88.out]
            rw [F83.out]
            rw [F78.out]
            simp only [B.ctudF, B.ctudV, B.after, B.full, B.empty, F93.out, F88.out, F83.out, F78.out, q97, q98, q99, q100, Bool.true_or, Bool.false_or, Bool.or_true, Bool.or_false, Bool.true_and, Bool.false_and, Bool.and_true, Bool.and_false, Bool.not_true, Bool.not_false, if_true, if_false, Bool.false_eq_true, reduceIte, show b2i false = (0 : Int) from rfl, show b2i true = (1 : Int) from rfl]
          exact ⟨rfl, he96 ▸ H94.out.mono (by omega), G95.out⟩
        | false =>
          cases hc101 : decide (f ⟨#[67, 86]⟩ < 32767) with
          | true =>
            have HC101 := Aside0.mk hc101
            have hp := of_decide_eq_true hc101
            have b1 := H0.out.2.lo ⟨#[67, 86]⟩
            obtain ⟨w103, f102, r107, F104, H105, G106⟩ := St.putA H0 G0 (by omega) ⟨#[67, 86]⟩ (by decide) (f ⟨#[67, 86]⟩ + 1) (WalkArith.wf_i64 (by omega))
            have c0 := H0.out.c0
            have c1 := H0.out.c1
            have lCV := H0.out.look0 ⟨#[67, 86]⟩ (by decide)
            go_wp2_with fail
            clear c0 c1 lCV
            clear b1 hp hc101
            clear r107 H0 G0
            have c0 := H105.out.c0
            have c1 := H105.out.c1
            have dCV := H105.out.lookd ⟨#[67, 86]⟩ (by decide)
            have dPV := H105.out.lookd ⟨#[80, 86]⟩ (by decide)
            go_still_tail 12, (by kernel_rfl)
            change wpList _ _ _ _ _ w103.drew
            have H108 := Aside0.mk H105.out.drew
            have G109 := Aside0.mk (grown_drew G106.out)
            clear c0 c1 dCV dPV H105 G106
            generalize w103.drew = w110 at H108 G109 ⊢
            go_wp2_with fail
            refine (set_callsA H108 G109 (by omega) ⟨#[81, 85]⟩ (by decide) _).mono ?_
            rintro e w112 ⟨f111, rfl, F113, H114, G115⟩
            clear H108 G109
            have c0 := H114.out.c0
            have c1 := H114.out.c1
            have lCV := H114.out.look0 ⟨#[67, 86]⟩ (by decide)
            go_wp2_with fail
            clear c0 c1 lCV
            refine (set_callsA H114 G115 (by omega) ⟨#[81, 68]⟩ (by decide) _).mono ?_
            rintro e w117 ⟨f116, rfl, F118, H119, G120⟩
            clear H114 G115
            go_wp2_with fail
            refine (on_calls H119.out ⟨#[67, 85]⟩ (by decide)).mono ?_
            rintro e w' ⟨rfl, rfl⟩
            go_wp2_with fail
            refine (set_callsA H119 G120 (by omega) ⟨#[77]⟩ (by decide) _).mono ?_
            rintro e w122 ⟨f121, rfl, F123, H124, G125⟩
            clear H119 G120
            go_wp2_with fail
            refine (on_calls H124.out ⟨#[67, 68]⟩ (by decide)).mono ?_
            rintro e w' ⟨rfl, rfl⟩
            go_wp2_with fail
            refine (set_callsA H124 G125 (by omega) ⟨#[78]⟩ (by decide) _).mono ?_
            rintro e w127 ⟨f126, rfl, F128, H129, G130⟩
            clear H124 G125
            go_wp2
            go_end0
            have he131 : f126 = B.ctudF f now := by
              have q132 := HU.out
              (try simp only [F128.out, F123.out, F118.out, F113.out, F104.out] at q132)
              have q133 := HD.out
              (try simp only [F128.out, F123.out, F118.out, F113.out, F104.out] at q133)
              have q134 := HB1.out
              (try simp only [F128.out, F123.out, F118.out, F113.out, F104.out] at q134)
              have q135 := HB35.out
              (try simp only [F128.out, F123.out, F118.out, F113.out, F104.out] at q135)
              have q136 := HC101.out
              (try simp only [F128.out, F123.out, F118.out, F113.out, F104.out] at q136)
              rw [F128.out]
              rw [F123.out]
              rw [F118.out]
              rw [F113.out]
              rw [F104.out]
              simp only [B.ctudF, B.ctudV, B.after, B.full, B.empty, F128.out, F123.out, F118.out, F113.out, F104.out, q132, q133, q134, q135, q136, Bool.true_or, Bool.false_or, Bool.or_true, Bool.or_false, Bool.true_and, Bool.false_and, Bool.and_true, Bool.and_false, Bool.not_true, Bool.not_false, if_true, if_false, Bool.false_eq_true, reduceIte, show b2i false = (0 : Int) from rfl, show b2i true = (1 : Int) from rfl]
            exact ⟨rfl, he131 ▸ H129.out.mono (by omega), G130.out⟩
          | false =>
            have HC101 := Aside0.mk hc101
            have hp := of_decide_eq_false hc101
            have c0 := H0.out.c0
            have c1 := H0.out.c1
            have lCV := H0.out.look0 ⟨#[67, 86]⟩ (by decide)
            go_wp2_with fail
            clear c0 c1 lCV
            clear hp hc101
            have c0 := H0.out.c0
            have c1 := H0.out.c1
            have dCV := H0.out.lookd ⟨#[67, 86]⟩ (by decide)
            have dPV := H0.out.lookd ⟨#[80, 86]⟩ (by decide)
            go_still_tail 12, (by kernel_rfl)
            change wpList _ _ _ _ _ w.drew
            have H137 := Aside0.mk H0.out.drew
            have G138 := Aside0.mk (grown_drew G0.out)
            clear c0 c1 dCV dPV H0 G0
            generalize w.drew = w139 at H137 G138 ⊢
            go_wp2_with fail
            refine (set_callsA H137 G138 (by omega) ⟨#[81, 85]⟩ (by decide) _).mono ?_
            rintro e w141 ⟨f140, rfl, F142, H143, G144⟩
            clear H137 G138
            have c0 := H143.out.c0
            have c1 := H143.out.c1
            have lCV := H143.out.look0 ⟨#[67, 86]⟩ (by decide)
            go_wp2_with fail
            clear c0 c1 lCV
            refine (set_callsA H143 G144 (by omega) ⟨#[81, 68]⟩ (by decide) _).mono ?_
            rintro e w146 ⟨f145, rfl, F147, H148, G149⟩
            clear H143 G144
            go_wp2_with fail
            refine (on_calls H148.out ⟨#[67, 85]⟩ (by decide)).mono ?_
            rintro e w' ⟨rfl, rfl⟩
            go_wp2_with fail
            refine (set_callsA H148 G149 (by omega) ⟨#[77]⟩ (by decide) _).mono ?_
            rintro e w151 ⟨f150, rfl, F152, H153, G154⟩
            clear H148 G149
            go_wp2_with fail
            refine (on_calls H153.out ⟨#[67, 68]⟩ (by decide)).mono ?_
            rintro e w' ⟨rfl, rfl⟩
            go_wp2_with fail
            refine (set_callsA H153 G154 (by omega) ⟨#[78]⟩ (by decide) _).mono ?_
            rintro e w156 ⟨f155, rfl, F157, H158, G159⟩
            clear H153 G154
            go_wp2
            go_end0
            have he160 : f155 = B.ctudF f now := by
              have q161 := HU.out
              (try simp only [F157.out, F152.out, F147.out, F142.out] at q161)
              have q162 := HD.out
              (try simp only [F157.out, F152.out, F147.out, F142.out] at q162)
              have q163 := HB1.out
              (try simp only [F157.out, F152.out, F147.out, F142.out] at q163)
              have q164 := HB35.out
              (try simp only [F157.out, F152.out, F147.out, F142.out] at q164)
              have q165 := HC101.out
              (try simp only [F157.out, F152.out, F147.out, F142.out] at q165)
              rw [F157.out]
              rw [F152.out]
              rw [F147.out]
              rw [F142.out]
              simp only [B.ctudF, B.ctudV, B.after, B.full, B.empty, F157.out, F152.out, F147.out, F142.out, q161, q162, q163, q164, q165, Bool.true_or, Bool.false_or, Bool.or_true, Bool.or_false, Bool.true_and, Bool.false_and, Bool.and_true, Bool.and_false, Bool.not_true, Bool.not_false, if_true, if_false, Bool.false_eq_true, reduceIte, show b2i false = (0 : Int) from rfl, show b2i true = (1 : Int) from rfl]
            exact ⟨rfl, he160 ▸ H158.out.mono (by omega), G159.out⟩
      | false =>
        cases d with
        | true =>
          cases hc166 : decide (-32768 < f ⟨#[67, 86]⟩) with
          | true =>
            have HC166 := Aside0.mk hc166
            have hp := of_decide_eq_true hc166
            have b1 := H0.out.2.lo ⟨#[67, 86]⟩
            obtain ⟨w168, f167, r172, F169, H170, G171⟩ := St.putA H0 G0 (by omega) ⟨#[67, 86]⟩ (by decide) (f ⟨#[67, 86]⟩ - 1) (WalkArith.wf_i64 (by omega))
            have c0 := H0.out.c0
            have c1 := H0.out.c1
            have lCV := H0.out.look0 ⟨#[67, 86]⟩ (by decide)
            go_wp2_with fail
            clear c0 c1 lCV
            clear b1 hp hc166
            clear r172 H0 G0
            have c0 := H170.out.c0
            have c1 := H170.out.c1
            have dCV := H170.out.lookd ⟨#[67, 86]⟩ (by decide)
            have dPV := H170.out.lookd ⟨#[80, 86]⟩ (by decide)
            go_still_tail 12, (by kernel_rfl)
            change wpList _ _ _ _ _ w168.drew
            have H173 := Aside0.mk H170.out.drew
            have G174 := Aside0.mk (grown_drew G171.out)
            clear c0 c1 dCV dPV H170 G171
            generalize w168.drew = w175 at H173 G174 ⊢
            go_wp2_with fail
            refine (set_callsA H173 G174 (by omega) ⟨#[81, 85]⟩ (by decide) _).mono ?_
            rintro e w177 ⟨f176, rfl, F178, H179, G180⟩
            clear H173 G174
            have c0 := H179.out.c0
            have c1 := H179.out.c1
            have lCV := H179.out.look0 ⟨#[67, 86]⟩ (by decide)
            go_wp2_with fail
            clear c0 c1 lCV
            refine (set_callsA H179 G180 (by omega) ⟨#[81, 68]⟩ (by decide) _).mono ?_
            rintro e w182 ⟨f181, rfl, F183, H184, G185⟩
            clear H179 G180
            go_wp2_with fail
            refine (on_calls H184.out ⟨#[67, 85]⟩ (by decide)).mono ?_
            rintro e w' ⟨rfl, rfl⟩
            go_wp2_with fail
            refine (set_callsA H184 G185 (by omega) ⟨#[77]⟩ (by decide) _).mono ?_
            rintro e w187 ⟨f186, rfl, F188, H189, G190⟩
            clear H184 G185
            go_wp2_with fail
            refine (on_calls H189.out ⟨#[67, 68]⟩ (by decide)).mono ?_
            rintro e w' ⟨rfl, rfl⟩
            go_wp2_with fail
            refine (set_callsA H189 G190 (by omega) ⟨#[78]⟩ (by decide) _).mono ?_
            rintro e w192 ⟨f191, rfl, F193, H194, G195⟩
            clear H189 G190
            go_wp2
            go_end0
            have he196 : f191 = B.ctudF f now := by
              have q197 := HU.out
              (try simp only [F193.out, F188.out, F183.out, F178.out, F169.out] at q197)
              have q198 := HD.out
              (try simp only [F193.out, F188.out, F183.out, F178.out, F169.out] at q198)
              have q199 := HB1.out
              (try simp only [F193.out, F188.out, F183.out, F178.out, F169.out] at q199)
              have q200 := HB35.out
              (try simp only [F193.out, F188.out, F183.out, F178.out, F169.out] at q200)
              have q201 := HC166.out
              (try simp only [F193.out, F188.out, F183.out, F178.out, F169.out] at q201)
              rw [F193.out]
              rw [F188.out]
              rw [F183.out]
              rw [F178.out]
              rw [F169.out]
              simp only [B.ctudF, B.ctudV, B.after, B.full, B.empty, F193.out, F188.out, F183.out, F178.out, F169.out, q197, q198, q199, q200, q201, Bool.true_or, Bool.false_or, Bool.or_true, Bool.or_false, Bool.true_and, Bool.false_and, Bool.and_true, Bool.and_false, Bool.not_true, Bool.not_false, if_true, if_false, Bool.false_eq_true, reduceIte, show b2i false = (0 : Int) from rfl, show b2i true = (1 : Int) from rfl]
            exact ⟨rfl, he196 ▸ H194.out.mono (by omega), G195.out⟩
          | false =>
            have HC166 := Aside0.mk hc166
            have hp := of_decide_eq_false hc166
            have c0 := H0.out.c0
            have c1 := H0.out.c1
            have lCV := H0.out.look0 ⟨#[67, 86]⟩ (by decide)
            go_wp2_with fail
            clear c0 c1 lCV
            clear hp hc166
            have c0 := H0.out.c0
            have c1 := H0.out.c1
            have dCV := H0.out.lookd ⟨#[67, 86]⟩ (by decide)
            have dPV := H0.out.lookd ⟨#[80, 86]⟩ (by decide)
            go_still_tail 12, (by kernel_rfl)
            change wpList _ _ _ _ _ w.drew
            have H202 := Aside0.mk H0.out.drew
            have G203 := Aside0.mk (grown_drew G0.out)
            clear c0 c1 dCV dPV H0 G0
            generalize w.drew = w204 at H202 G203 ⊢
            go_wp2_with fail
            refine (set_callsA H202 G203 (by omega) ⟨#[81, 85]⟩ (by decide) _).mono ?_
            rintro e w206 ⟨f205, rfl, F207, H208, G209⟩
            clear H202 G203
            have c0 := H208.out.c0
            have c1 := H208.out.c1
            have lCV := H208.out.look0 ⟨#[67, 86]⟩ (by decide)
            go_wp2_with fail
            clear c0 c1 lCV
            refine (set_callsA H208 G209 (by omega) ⟨#[81, 68]⟩ (by decide) _).mono ?_
            rintro e w211 ⟨f210, rfl, F212, H213, G214⟩
            clear H208 G209
            go_wp2_with fail
            refine (on_calls H213.out ⟨#[67, 85]⟩ (by decide)).mono ?_
            rintro e w' ⟨rfl, rfl⟩
            go_wp2_with fail
            refine (set_callsA H213 G214 (by omega) ⟨#[77]⟩ (by decide) _).mono ?_
            rintro e w216 ⟨f215, rfl, F217, H218, G219⟩
            clear H213 G214
            go_wp2_with fail
            refine (on_calls H218.out ⟨#[67, 68]⟩ (by decide)).mono ?_
            rintro e w' ⟨rfl, rfl⟩
            go_wp2_with fail
            refine (set_callsA H218 G219 (by omega) ⟨#[78]⟩ (by decide) _).mono ?_
            rintro e w221 ⟨f220, rfl, F222, H223, G224⟩
            clear H218 G219
            go_wp2
            go_end0
            have he225 : f220 = B.ctudF f now := by
              have q226 := HU.out
              (try simp only [F222.out, F217.out, F212.out, F207.out] at q226)
              have q227 := HD.out
              (try simp only [F222.out, F217.out, F212.out, F207.out] at q227)
              have q228 := HB1.out
              (try simp only [F222.out, F217.out, F212.out, F207.out] at q228)
              have q229 := HB35.out
              (try simp only [F222.out, F217.out, F212.out, F207.out] at q229)
              have q230 := HC166.out
              (try simp only [F222.out, F217.out, F212.out, F207.out] at q230)
              rw [F222.out]
              rw [F217.out]
              rw [F212.out]
              rw [F207.out]
              simp only [B.ctudF, B.ctudV, B.after, B.full, B.empty, F222.out, F217.out, F212.out, F207.out, q226, q227, q228, q229, q230, Bool.true_or, Bool.false_or, Bool.or_true, Bool.or_false, Bool.true_and, Bool.false_and, Bool.and_true, Bool.and_false, Bool.not_true, Bool.not_false, if_true, if_false, Bool.false_eq_true, reduceIte, show b2i false = (0 : Int) from rfl, show b2i true = (1 : Int) from rfl]
            exact ⟨rfl, he225 ▸ H223.out.mono (by omega), G224.out⟩
        | false =>
          go_wp2_with fail
          have c0 := H0.out.c0
          have c1 := H0.out.c1
          have dCV := H0.out.lookd ⟨#[67, 86]⟩ (by decide)
          have dPV := H0.out.lookd ⟨#[80, 86]⟩ (by decide)
          go_still_tail 12, (by kernel_rfl)
          change wpList _ _ _ _ _ w.drew
          have H231 := Aside0.mk H0.out.drew
          have G232 := Aside0.mk (grown_drew G0.out)
          clear c0 c1 dCV dPV H0 G0
          generalize w.drew = w233 at H231 G232 ⊢
          go_wp2_with fail
          refine (set_callsA H231 G232 (by omega) ⟨#[81, 85]⟩ (by decide) _).mono ?_
          rintro e w235 ⟨f234, rfl, F236, H237, G238⟩
          clear H231 G232
          have c0 := H237.out.c0
          have c1 := H237.out.c1
          have lCV := H237.out.look0 ⟨#[67, 86]⟩ (by decide)
          go_wp2_with fail
          clear c0 c1 lCV
          refine (set_callsA H237 G238 (by omega) ⟨#[81, 68]⟩ (by decide) _).mono ?_
          rintro e w240 ⟨f239, rfl, F241, H242, G243⟩
          clear H237 G238
          go_wp2_with fail
          refine (on_calls H242.out ⟨#[67, 85]⟩ (by decide)).mono ?_
          rintro e w' ⟨rfl, rfl⟩
          go_wp2_with fail
          refine (set_callsA H242 G243 (by omega) ⟨#[77]⟩ (by decide) _).mono ?_
          rintro e w245 ⟨f244, rfl, F246, H247, G248⟩
          clear H242 G243
          go_wp2_with fail
          refine (on_calls H247.out ⟨#[67, 68]⟩ (by decide)).mono ?_
          rintro e w' ⟨rfl, rfl⟩
          go_wp2_with fail
          refine (set_callsA H247 G248 (by omega) ⟨#[78]⟩ (by decide) _).mono ?_
          rintro e w250 ⟨f249, rfl, F251, H252, G253⟩
          clear H247 G248
          go_wp2
          go_end0
          have he254 : f249 = B.ctudF f now := by
            have q255 := HU.out
            (try simp only [F251.out, F246.out, F241.out, F236.out] at q255)
            have q256 := HD.out
            (try simp only [F251.out, F246.out, F241.out, F236.out] at q256)
            have q257 := HB1.out
            (try simp only [F251.out, F246.out, F241.out, F236.out] at q257)
            have q258 := HB35.out
            (try simp only [F251.out, F246.out, F241.out, F236.out] at q258)
            rw [F251.out]
            rw [F246.out]
            rw [F241.out]
            rw [F236.out]
            simp only [B.ctudF, B.ctudV, B.after, B.full, B.empty, F251.out, F246.out, F241.out, F236.out, q255, q256, q257, q258, Bool.true_or, Bool.false_or, Bool.or_true, Bool.or_false, Bool.true_and, Bool.false_and, Bool.and_true, Bool.and_false, Bool.not_true, Bool.not_false, if_true, if_false, Bool.false_eq_true, reduceIte, show b2i false = (0 : Int) from rfl, show b2i true = (1 : Int) from rfl]
          exact ⟨rfl, he254 ▸ H252.out.mono (by omega), G253.out⟩

end Go.Proofs.Ytfadafgnahhmdaa.X
