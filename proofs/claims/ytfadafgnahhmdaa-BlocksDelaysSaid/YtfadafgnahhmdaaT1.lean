import Derived.Test.YtfadafgnahhmdaaT0
namespace Go.Proofs.Ytfadafgnahhmdaa.X
open Go.RowKit Go.Proofs.YtfadafgnahhmdaaW.PrintWords Go.Proofs.YtfadafgnahhmdaaW.PrintLast Go.Proofs.YtfadafgnahhmdaaW.PrintMore Go.Proofs.Ytfadafgnahhmdaa.E
attribute [local go_sem] max2_int min2_int max_two min_two max_three min_three max_four min_four
set_option linter.unusedVariables false
set_option linter.unusedSimpArgs false

open B (upd b2i mnI sinceF spanF)
set_option maxHeartbeats 8000000 in
set_option maxRecDepth 100000 in
theorem sr_calls {w : World} {sb mb n : Nat} {f : ByteArray → Int} {now : Int} (h : St w sb mb n f now) (hn : n ≤ 100) (h0 : 0 ≤ now) (h1 : now ≤ 4611686018427387904) :
    Calls Try.prog 52 #[.pointer (some ⟨sb, 0, none⟩)] w fun e w' => e = .returned (.tuple #[]) ∧ St w' sb mb (n + 60) (B.srF f now) now ∧ w.grownBy w' (some mb) := by
  have hu74 := Try.underlying74
  have H0 := Aside0.mk h
  have G0 := Aside0.mk (grown_refl w (some mb))
  clear h
  go_enter Try.func52, Try.ntmps52
  go_wp2_with fail
  refine (on_calls H0.out ⟨#[83, 49]⟩ (by decide)).mono ?_
  rintro e w' ⟨rfl, rfl⟩
  cases hb1 : (f ⟨#[83, 49]⟩ == 1) with
  | true =>
    have HB1 := Aside0.mk hb1
    clear hb1
    go_wp2_with fail
    refine (set_callsA H0 G0 (by omega) ⟨#[81, 49]⟩ (by decide) true).mono ?_
    rintro e w3 ⟨f2, rfl, F4, H5, G6⟩
    clear H0 G0
    go_wp2
    go_end0
    have he7 : f2 = B.srF f now := by
      have q8 := HB1.out
      (try simp only [F4.out] at q8)
      rw [F4.out]
      simp only [B.srF, F4.out, q8, Bool.true_or, Bool.false_or, Bool.or_true, Bool.or_false, Bool.true_and, Bool.false_and, Bool.and_true, Bool.and_false, Bool.not_true, Bool.not_false, if_true, if_false, Bool.false_eq_true, reduceIte, show b2i false = (0 : Int) from rfl, show b2i true = (1 : Int) from rfl]
    exact ⟨rfl, he7 ▸ H5.out.mono (by omega), G6.out⟩
  | false =>
    have HB1 := Aside0.mk hb1
    clear hb1
    go_wp2_with fail
    refine (on_calls H0.out ⟨#[81, 49]⟩ (by decide)).mono ?_
    rintro e w' ⟨rfl, rfl⟩
    cases hb9 : (f ⟨#[81, 49]⟩ == 1) with
    | true =>
      have HB9 := Aside0.mk hb9
      clear hb9
      go_wp2_with fail
      refine (on_calls H0.out ⟨#[82]⟩ (by decide)).mono ?_
      rintro e w' ⟨rfl, rfl⟩
      cases hb10 : (f ⟨#[82]⟩ == 1) with
      | true =>
        have HB10 := Aside0.mk hb10
        clear hb10
        go_wp2_with fail
        refine (set_callsA H0 G0 (by omega) ⟨#[81, 49]⟩ (by decide) false).mono ?_
        rintro e w12 ⟨f11, rfl, F13, H14, G15⟩
        clear H0 G0
        go_wp2
        go_end0
        have he16 : f11 = B.srF f now := by
          have q17 := HB1.out
          (try simp only [F13.out] at q17)
          have q18 := HB9.out
          (try simp only [F13.out] at q18)
          have q19 := HB10.out
          (try simp only [F13.out] at q19)
          rw [F13.out]
          simp only [B.srF, F13.out, q17, q18, q19, Bool.true_or, Bool.false_or, Bool.or_true, Bool.or_false, Bool.true_and, Bool.false_and, Bool.and_true, Bool.and_false, Bool.not_true, Bool.not_false, if_true, if_false, Bool.false_eq_true, reduceIte, show b2i false = (0 : Int) from rfl, show b2i true = (1 : Int) from rfl]
        exact ⟨rfl, he16 ▸ H14.out.mono (by omega), G15.out⟩
      | false =>
        have HB10 := Aside0.mk hb10
        clear hb10
        go_wp2_with fail
        refine (set_callsA H0 G0 (by omega) ⟨#[81, 49]⟩ (by decide) true).mono ?_
        rintro e w21 ⟨f20, rfl, F22, H23, G24⟩
        clear H0 G0
        go_wp2
        go_end0
        have he25 : f20 = B.srF f now := by
          have q26 := HB1.out
          (try simp only [F22.out] at q26)
          have q27 := HB9.out
          (try simp only [F22.out] at q27)
          have q28 := HB10.out
          (try simp only [F22.out] at q28)
          rw [F22.out]
          simp only [B.srF, F22.out, q26, q27, q28, Bool.true_or, Bool.false_or, Bool.or_true, Bool.or_false, Bool.true_and, Bool.false_and, Bool.and_true, Bool.and_false, Bool.not_true, Bool.not_false, if_true, if_false, Bool.false_eq_true, reduceIte, show b2i false = (0 : Int) from rfl, show b2i true = (1 : Int) from rfl]
        exact ⟨rfl, he25 ▸ H23.out.mono (by omega), G24.out⟩
    | false =>
      have HB9 := Aside0.mk hb9
      clear hb9
      go_wp2_with fail
      refine (set_callsA H0 G0 (by omega) ⟨#[81, 49]⟩ (by decide) false).mono ?_
      rintro e w30 ⟨f29, rfl, F31, H32, G33⟩
      clear H0 G0
      go_wp2
      go_end0
      have he34 : f29 = B.srF f now := by
        have q35 := HB1.out
        (try simp only [F31.out] at q35)
        have q36 := HB9.out
        (try simp only [F31.out] at q36)
        rw [F31.out]
        simp only [B.srF, F31.out, q35, q36, Bool.true_or, Bool.false_or, Bool.or_true, Bool.or_false, Bool.true_and, Bool.false_and, Bool.and_true, Bool.and_false, Bool.not_true, Bool.not_false, if_true, if_false, Bool.false_eq_true, reduceIte, show b2i false = (0 : Int) from rfl, show b2i true = (1 : Int) from rfl]
      exact ⟨rfl, he34 ▸ H32.out.mono (by omega), G33.out⟩
set_option maxHeartbeats 8000000 in
set_option maxRecDepth 100000 in
theorem rs_calls {w : World} {sb mb n : Nat} {f : ByteArray → Int} {now : Int} (h : St w sb mb n f now) (hn : n ≤ 100) (h0 : 0 ≤ now) (h1 : now ≤ 4611686018427387904) :
    Calls Try.prog 53 #[.pointer (some ⟨sb, 0, none⟩)] w fun e w' => e = .returned (.tuple #[]) ∧ St w' sb mb (n + 60) (B.rsF f now) now ∧ w.grownBy w' (some mb) := by
  have hu74 := Try.underlying74
  have H0 := Aside0.mk h
  have G0 := Aside0.mk (grown_refl w (some mb))
  clear h
  go_enter Try.func53, Try.ntmps53
  go_wp2_with fail
  refine (on_calls H0.out ⟨#[82, 49]⟩ (by decide)).mono ?_
  rintro e w' ⟨rfl, rfl⟩
  cases hb1 : (f ⟨#[82, 49]⟩ == 1) with
  | true =>
    have HB1 := Aside0.mk hb1
    clear hb1
    go_wp2_with fail
    refine (set_callsA H0 G0 (by omega) ⟨#[81, 49]⟩ (by decide) false).mono ?_
    rintro e w3 ⟨f2, rfl, F4, H5, G6⟩
    clear H0 G0
    go_wp2
    go_end0
    have he7 : f2 = B.rsF f now := by
      have q8 := HB1.out
      (try simp only [F4.out] at q8)
      rw [F4.out]
      simp only [B.rsF, F4.out, q8, Bool.true_or, Bool.false_or, Bool.or_true, Bool.or_false, Bool.true_and, Bool.false_and, Bool.and_true, Bool.and_false, Bool.not_true, Bool.not_false, if_true, if_false, Bool.false_eq_true, reduceIte, show b2i false = (0 : Int) from rfl, show b2i true = (1 : Int) from rfl]
    exact ⟨rfl, he7 ▸ H5.out.mono (by omega), G6.out⟩
  | false =>
    have HB1 := Aside0.mk hb1
    clear hb1
    go_wp2_with fail
    refine (on_calls H0.out ⟨#[83]⟩ (by decide)).mono ?_
    rintro e w' ⟨rfl, rfl⟩
    cases hb9 : (f ⟨#[83]⟩ == 1) with
    | true =>
      have HB9 := Aside0.mk hb9
      clear hb9
      go_wp2_with fail
      refine (set_callsA H0 G0 (by omega) ⟨#[81, 49]⟩ (by decide) true).mono ?_
      rintro e w11 ⟨f10, rfl, F12, H13, G14⟩
      clear H0 G0
      go_wp2
      go_end0
      have he15 : f10 = B.rsF f now := by
        have q16 := HB1.out
        (try simp only [F12.out] at q16)
        have q17 := HB9.out
        (try simp only [F12.out] at q17)
        rw [F12.out]
        simp only [B.rsF, F12.out, q16, q17, Bool.true_or, Bool.false_or, Bool.or_true, Bool.or_false, Bool.true_and, Bool.false_and, Bool.and_true, Bool.and_false, Bool.not_true, Bool.not_false, if_true, if_false, Bool.false_eq_true, reduceIte, show b2i false = (0 : Int) from rfl, show b2i true = (1 : Int) from rfl]
      exact ⟨rfl, he15 ▸ H13.out.mono (by omega), G14.out⟩
    | false =>
      have HB9 := Aside0.mk hb9
      clear hb9
      go_wp2_with fail
      refine (on_calls H0.out ⟨#[81, 49]⟩ (by decide)).mono ?_
      rintro e w' ⟨rfl, rfl⟩
      cases hb18 : (f ⟨#[81, 49]⟩ == 1) with
      | true =>
        have HB18 := Aside0.mk hb18
        clear hb18
        go_wp2_with fail
        refine (set_callsA H0 G0 (by omega) ⟨#[81, 49]⟩ (by decide) true).mono ?_
        rintro e w20 ⟨f19, rfl, F21, H22, G23⟩
        clear H0 G0
        go_wp2
        go_end0
        have he24 : f19 = B.rsF f now := by
          have q25 := HB1.out
          (try simp only [F21.out] at q25)
          have q26 := HB9.out
          (try simp only [F21.out] at q26)
          have q27 := HB18.out
          (try simp only [F21.out] at q27)
          rw [F21.out]
          simp only [B.rsF, F21.out, q25, q26, q27, Bool.true_or, Bool.false_or, Bool.or_true, Bool.or_false, Bool.true_and, Bool.false_and, Bool.and_true, Bool.and_false, Bool.not_true, Bool.not_false, if_true, if_false, Bool.false_eq_true, reduceIte, show b2i false = (0 : Int) from rfl, show b2i true = (1 : Int) from rfl]
        exact ⟨rfl, he24 ▸ H22.out.mono (by omega), G23.out⟩
      | false =>
        have HB18 := Aside0.mk hb18
        clear hb18
        go_wp2_with fail
        refine (set_callsA H0 G0 (by omega) ⟨#[81, 49]⟩ (by decide) false).mono ?_
        rintro e w29 ⟨f28, rfl, F30, H31, G32⟩
        clear H0 G0
        go_wp2
        go_end0
        have he33 : f28 = B.rsF f now := by
          have q34 := HB1.out
          (try simp only [F30.out] at q34)
          have q35 := HB9.out
          (try simp only [F30.out] at q35)
          have q36 := HB18.out
          (try simp only [F30.out] at q36)
          rw [F30.out]
          simp only [B.rsF, F30.out, q34, q35, q36, Bool.true_or, Bool.false_or, Bool.or_true, Bool.or_false, Bool.true_and, Bool.false_and, Bool.and_true, Bool.and_false, Bool.not_true, Bool.not_false, if_true, if_false, Bool.false_eq_true, reduceIte, show b2i false = (0 : Int) from rfl, show b2i true = (1 : Int) from rfl]
        exact ⟨rfl, he33 ▸ H31.out.mono (by omega), G32.out⟩
set_option maxHeartbeats 8000000 in
set_option maxRecDepth 100000 in
theorem rise_calls {w : World} {sb mb n : Nat} {f : ByteArray → Int} {now : Int} (h : St w sb mb n f now) (hn : n ≤ 100) (h0 : 0 ≤ now) (h1 : now ≤ 4611686018427387904) :
    Calls Try.prog 54 #[.pointer (some ⟨sb, 0, none⟩)] w fun e w' => e = .returned (.tuple #[]) ∧ St w' sb mb (n + 60) (B.riseF f now) now ∧ w.grownBy w' (some mb) := by
  have hu74 := Try.underlying74
  have H0 := Aside0.mk h
  have G0 := Aside0.mk (grown_refl w (some mb))
  clear h
  go_enter Try.func54, Try.ntmps54
  go_wp2_with fail
  refine (on_calls H0.out ⟨#[67, 76, 75]⟩ (by decide)).mono ?_
  rintro e w' ⟨rfl, rfl⟩
  cases hb1 : (f ⟨#[67, 76, 75]⟩ == 1) with
  | true =>
    have HB1 := Aside0.mk hb1
    clear hb1
    go_wp2_with fail
    refine (on_calls H0.out ⟨#[77]⟩ (by decide)).mono ?_
    rintro e w' ⟨rfl, rfl⟩
    cases hb2 : (f ⟨#[77]⟩ == 1) with
    | true =>
      have HB2 := Aside0.mk hb2
      clear hb2
      go_wp2_with fail
      refine (set_callsA H0 G0 (by omega) ⟨#[81]⟩ (by decide) false).mono ?_
      rintro e w4 ⟨f3, rfl, F5, H6, G7⟩
      clear H0 G0
      go_wp2_with fail
      refine (on_calls H6.out ⟨#[67, 76, 75]⟩ (by decide)).mono ?_
      rintro e w' ⟨rfl, rfl⟩
      go_wp2_with fail
      refine (set_callsA H6 G7 (by omega) ⟨#[77]⟩ (by decide) _).mono ?_
      rintro e w9 ⟨f8, rfl, F10, H11, G12⟩
      clear H6 G7
      go_wp2
      go_end0
      have he13 : f8 = B.riseF f now := by
        have q14 := HB1.out
        (try simp only [F10.out, F5.out] at q14)
        have q15 := HB2.out
        (try simp only [F10.out, F5.out] at q15)
        rw [F10.out]
        rw [F5.out]
        simp only [B.riseF, B.after, F10.out, F5.out, q14, q15, Bool.true_or, Bool.false_or, Bool.or_true, Bool.or_false, Bool.true_and, Bool.false_and, Bool.and_true, Bool.and_false, Bool.not_true, Bool.not_false, if_true, if_false, Bool.false_eq_true, reduceIte, show b2i false = (0 : Int) from rfl, show b2i true = (1 : Int) from rfl]
      exact ⟨rfl, he13 ▸ H11.out.mono (by omega), G12.out⟩
    | false =>
      have HB2 := Aside0.mk hb2
      clear hb2
      go_wp2_with fail
      refine (set_callsA H0 G0 (by omega) ⟨#[81]⟩ (by decide) true).mono ?_
      rintro e w17 ⟨f16, rfl, F18, H19, G20⟩
      clear H0 G0
      go_wp2_with fail
      refine (on_calls H19.out ⟨#[67, 76, 75]⟩ (by decide)).mono ?_
      rintro e w' ⟨rfl, rfl⟩
      go_wp2_with fail
      refine (set_callsA H19 G20 (by omega) ⟨#[77]⟩ (by decide) _).mono ?_
      rintro e w22 ⟨f21, rfl, F23, H24, G25⟩
      clear H19 G20
      go_wp2
      go_end0
      have he26 : f21 = B.riseF f now := by
        have q27 := HB1.out
        (try simp only [F23.out, F18.out] at q27)
        have q28 := HB2.out
        (try simp only [F23.out, F18.out] at q28)
        rw [F23.out]
        rw [F18.out]
        simp only [B.riseF, B.after, F23.out, F18.out, q27, q28, Bool.true_or, Bool.false_or, Bool.or_true, Bool.or_false, Bool.true_and, Bool.false_and, Bool.and_true, Bool.and_false, Bool.not_true, Bool.not_false, if_true, if_false, Bool.false_eq_true, reduceIte, show b2i false = (0 : Int) from rfl, show b2i true = (1 : Int) from rfl]
      exact ⟨rfl, he26 ▸ H24.out.mono (by omega), G25.out⟩
  | false =>
    have HB1 := Aside0.mk hb1
    clear hb1
    go_wp2_with fail
    refine (set_callsA H0 G0 (by omega) ⟨#[81]⟩ (by decide) false).mono ?_
    rintro e w30 ⟨f29, rfl, F31, H32, G33⟩
    clear H0 G0
    go_wp2_with fail
    refine (on_calls H32.out ⟨#[67, 76, 75]⟩ (by decide)).mono ?_
    rintro e w' ⟨rfl, rfl⟩
    go_wp2_with fail
    refine (set_callsA H32 G33 (by omega) ⟨#[77]⟩ (by decide) _).mono ?_
    rintro e w35 ⟨f34, rfl, F36, H37, G38⟩
    clear H32 G33
    go_wp2
    go_end0
    have he39 : f34 = B.riseF f now := by
      have q40 := HB1.out
      (try simp only [F36.out, F31.out] at q40)
      rw [F36.out]
      rw [F31.out]
      simp only [B.riseF, B.after, F36.out, F31.out, q40, Bool.true_or, Bool.false_or, Bool.or_true, Bool.or_false, Bool.true_and, Bool.false_and, Bool.and_true, Bool.and_false, Bool.not_true, Bool.not_false, if_true, if_false, Bool.false_eq_true, reduceIte, show b2i false = (0 : Int) from rfl, show b2i true = (1 : Int) from rfl]
    exact ⟨rfl, he39 ▸ H37.out.mono (by omega), G38.out⟩
set_option maxHeartbeats 8000000 in
set_option maxRecDepth 100000 in
theorem fall_calls {w : World} {sb mb n : Nat} {f : ByteArray → Int} {now : Int} (h : St w sb mb n f now) (hn : n ≤ 100) (h0 : 0 ≤ now) (h1 : now ≤ 4611686018427387904) :
    Calls Try.prog 55 #[.pointer (some ⟨sb, 0, none⟩)] w fun e w' => e = .returned (.tuple #[]) ∧ St w' sb mb (n + 60) (B.fallF f now) now ∧ w.grownBy w' (some mb) := by
  have hu74 := Try.underlying74
  have H0 := Aside0.mk h
  have G0 := Aside0.mk (grown_refl w (some mb))
  clear h
  go_enter Try.func55, Try.ntmps55
  go_wp2_with fail
  refine (on_calls H0.out ⟨#[77]⟩ (by decide)).mono ?_
  rintro e w' ⟨rfl, rfl⟩
  cases hb1 : (f ⟨#[77]⟩ == 1) with
  | true =>
    have HB1 := Aside0.mk hb1
    clear hb1
    go_wp2_with fail
    refine (on_calls H0.out ⟨#[67, 76, 75]⟩ (by decide)).mono ?_
    rintro e w' ⟨rfl, rfl⟩
    cases hb2 : (f ⟨#[67, 76, 75]⟩ == 1) with
    | true =>
      have HB2 := Aside0.mk hb2
      clear hb2
      go_wp2_with fail
      refine (set_callsA H0 G0 (by omega) ⟨#[81]⟩ (by decide) false).mono ?_
      rintro e w4 ⟨f3, rfl, F5, H6, G7⟩
      clear H0 G0
      go_wp2_with fail
      refine (on_calls H6.out ⟨#[67, 76, 75]⟩ (by decide)).mono ?_
      rintro e w' ⟨rfl, rfl⟩
      go_wp2_with fail
      refine (set_callsA H6 G7 (by omega) ⟨#[77]⟩ (by decide) _).mono ?_
      rintro e w9 ⟨f8, rfl, F10, H11, G12⟩
      clear H6 G7
      go_wp2
      go_end0
      have he13 : f8 = B.fallF f now := by
        have q14 := HB1.out
        (try simp only [F10.out, F5.out] at q14)
        have q15 := HB2.out
        (try simp only [F10.out, F5.out] at q15)
        rw [F10.out]
        rw [F5.out]
        simp only [B.fallF, B.after, F10.out, F5.out, q14, q15, Bool.true_or, Bool.false_or, Bool.or_true, Bool.or_false, Bool.true_and, Bool.false_and, Bool.and_true, Bool.and_false, Bool.not_true, Bool.not_false, if_true, if_false, Bool.false_eq_true, reduceIte, show b2i false = (0 : Int) from rfl, show b2i true = (1 : Int) from rfl]
      exact ⟨rfl, he13 ▸ H11.out.mono (by omega), G12.out⟩
    | false =>
      have HB2 := Aside0.mk hb2
      clear hb2
      go_wp2_with fail
      refine (set_callsA H0 G0 (by omega) ⟨#[81]⟩ (by decide) true).mono ?_
      rintro e w17 ⟨f16, rfl, F18, H19, G20⟩
      clear H0 G0
      go_wp2_with fail
      refine (on_calls H19.out ⟨#[67, 76, 75]⟩ (by decide)).mono ?_
      rintro e w' ⟨rfl, rfl⟩
      go_wp2_with fail
      refine (set_callsA H19 G20 (by omega) ⟨#[77]⟩ (by decide) _).mono ?_
      rintro e w22 ⟨f21, rfl, F23, H24, G25⟩
      clear H19 G20
      go_wp2
      go_end0
      have he26 : f21 = B.fallF f now := by
        have q27 := HB1.out
        (try simp only [F23.out, F18.out] at q27)
        have q28 := HB2.out
        (try simp only [F23.out, F18.out] at q28)
        rw [F23.out]
        rw [F18.out]
        simp only [B.fallF, B.after, F23.out, F18.out, q27, q28, Bool.true_or, Bool.false_or, Bool.or_true, Bool.or_false, Bool.true_and, Bool.false_and, Bool.and_true, Bool.and_false, Bool.not_true, Bool.not_false, if_true, if_false, Bool.false_eq_true, reduceIte, show b2i false = (0 : Int) from rfl, show b2i true = (1 : Int) from rfl]
      exact ⟨rfl, he26 ▸ H24.out.mono (by omega), G25.out⟩
  | false =>
    have HB1 := Aside0.mk hb1
    clear hb1
    go_wp2_with fail
    refine (set_callsA H0 G0 (by omega) ⟨#[81]⟩ (by decide) false).mono ?_
    rintro e w30 ⟨f29, rfl, F31, H32, G33⟩
    clear H0 G0
    go_wp2_with fail
    refine (on_calls H32.out ⟨#[67, 76, 75]⟩ (by decide)).mono ?_
    rintro e w' ⟨rfl, rfl⟩
    go_wp2_with fail
    refine (set_callsA H32 G33 (by omega) ⟨#[77]⟩ (by decide) _).mono ?_
    rintro e w35 ⟨f34, rfl, F36, H37, G38⟩
    clear H32 G33
    go_wp2
    go_end0
    have he39 : f34 = B.fallF f now := by
      have q40 := HB1.out
      (try simp only [F36.out, F31.out] at q40)
      rw [F36.out]
      rw [F31.out]
      simp only [B.fallF, B.after, F36.out, F31.out, q40, Bool.true_or, Bool.false_or, Bool.or_true, Bool.or_false, Bool.true_and, Bool.false_and, Bool.and_true, Bool.and_false, Bool.not_true, Bool.not_false, if_true, if_false, Bool.false_eq_true, reduceIte, show b2i false = (0 : Int) from rfl, show b2i true = (1 : Int) from rfl]
    exact ⟨rfl, he39 ▸ H37.out.mono (by omega), G38.out⟩

end Go.Proofs.Ytfadafgnahhmdaa.X

