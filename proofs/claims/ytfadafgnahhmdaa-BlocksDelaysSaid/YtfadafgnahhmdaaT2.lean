import Derived.Test.YtfadafgnahhmdaaT0
namespace Go.Proofs.Ytfadafgnahhmdaa.X
open Go.RowKit Go.Proofs.YtfadafgnahhmdaaW.PrintWords Go.Proofs.YtfadafgnahhmdaaW.PrintLast Go.Proofs.YtfadafgnahhmdaaW.PrintMore Go.Proofs.Ytfadafgnahhmdaa.E
attribute [local go_sem] max2_int min2_int max_two min_two max_three min_three max_four min_four
set_option linter.unusedVariables false
set_option linter.unusedSimpArgs false

open B (upd b2i mnI sinceF spanF)
set_option maxHeartbeats 8000000 in
set_option maxRecDepth 100000 in
theorem ctu_calls {w : World} {sb mb n : Nat} {f : ByteArray → Int} {now : Int} (h : St w sb mb n f now) (hn : n ≤ 100) (h0 : 0 ≤ now) (h1 : now ≤ 4611686018427387904) :
    Calls Try.prog 56 #[.pointer (some ⟨sb, 0, none⟩)] w fun e w' => e = .returned (.tuple #[]) ∧ St w' sb mb (n + 60) (B.ctuF f now) now ∧ w.grownBy w' (some mb) := by
  have hu74 := Try.underlying74
  have H0 := Aside0.mk h
  have G0 := Aside0.mk (grown_refl w (some mb))
  clear h
  go_enter Try.func56, Try.ntmps56
  go_wp2_with fail
  refine (on_calls H0.out ⟨#[82]⟩ (by decide)).mono ?_
  rintro e w' ⟨rfl, rfl⟩
  cases hb1 : (f ⟨#[82]⟩ == 1) with
  | true =>
    have HB1 := Aside0.mk hb1
    clear hb1
    obtain ⟨w3, f2, r7, F4, H5, G6⟩ := St.putA H0 G0 (by omega) ⟨#[67, 86]⟩ (by decide) (0) (by decide)
    have c0 := H0.out.c0
    have c1 := H0.out.c1
    go_wp2_with fail
    clear c0 c1
    clear r7 H0 G0
    have c0 := H5.out.c0
    have c1 := H5.out.c1
    have dCV := H5.out.lookd ⟨#[67, 86]⟩ (by decide)
    have dPV := H5.out.lookd ⟨#[80, 86]⟩ (by decide)
    go_still_tail 12, (by kernel_rfl)
    change wpList _ _ _ _ _ w3.drew
    have H8 := Aside0.mk H5.out.drew
    have G9 := Aside0.mk (grown_drew G6.out)
    clear c0 c1 dCV dPV H5 G6
    generalize w3.drew = w10 at H8 G9 ⊢
    go_wp2_with fail
    refine (set_callsA H8 G9 (by omega) ⟨#[81]⟩ (by decide) _).mono ?_
    rintro e w12 ⟨f11, rfl, F13, H14, G15⟩
    clear H8 G9
    go_wp2_with fail
    refine (on_calls H14.out ⟨#[67, 85]⟩ (by decide)).mono ?_
    rintro e w' ⟨rfl, rfl⟩
    go_wp2_with fail
    refine (set_callsA H14 G15 (by omega) ⟨#[77]⟩ (by decide) _).mono ?_
    rintro e w17 ⟨f16, rfl, F18, H19, G20⟩
    clear H14 G15
    go_wp2
    go_end0
    have he21 : f16 = B.ctuF f now := by
      have q22 := HB1.out
      (try simp only [F18.out, F13.out, F4.out] at q22)
      rw [F18.out]
      rw [F13.out]
      rw [F4.out]
      simp only [B.ctuF, B.after, B.full, F18.out, F13.out, F4.out, q22, Bool.true_or, Bool.false_or, Bool.or_true, Bool.or_false, Bool.true_and, Bool.false_and, Bool.and_true, Bool.and_false, Bool.not_true, Bool.not_false, if_true, if_false, Bool.false_eq_true, reduceIte, show b2i false = (0 : Int) from rfl, show b2i true = (1 : Int) from rfl]
    exact ⟨rfl, he21 ▸ H19.out.mono (by omega), G20.out⟩
  | false =>
    have HB1 := Aside0.mk hb1
    clear hb1
    go_wp2_with fail
    refine (rises_calls H0.out ⟨#[67, 85]⟩ ⟨#[77]⟩ (by decide) (by decide)).mono ?_
    rintro e w' ⟨rfl, rfl⟩
    cases hb23 : ((f ⟨#[67, 85]⟩ == 1) && !(f ⟨#[77]⟩ == 1)) with
    | true =>
      have HB23 := Aside0.mk hb23
      clear hb23
      cases hc24 : decide (f ⟨#[67, 86]⟩ < 32767) with
      | true =>
        have HC24 := Aside0.mk hc24
        have hp := of_decide_eq_true hc24
        have b1 := H0.out.2.lo ⟨#[67, 86]⟩
        obtain ⟨w26, f25, r30, F27, H28, G29⟩ := St.putA H0 G0 (by omega) ⟨#[67, 86]⟩ (by decide) (f ⟨#[67, 86]⟩ + 1) (WalkArith.wf_i64 (by omega))
        have c0 := H0.out.c0
        have c1 := H0.out.c1
        have lCV := H0.out.look0 ⟨#[67, 86]⟩ (by decide)
        go_wp2_with fail
        clear c0 c1 lCV
        clear b1 hp hc24
        clear r30 H0 G0
        have c0 := H28.out.c0
        have c1 := H28.out.c1
        have dCV := H28.out.lookd ⟨#[67, 86]⟩ (by decide)
        have dPV := H28.out.lookd ⟨#[80, 86]⟩ (by decide)
        go_still_tail 12, (by kernel_rfl)
        change wpList _ _ _ _ _ w26.drew
        have H31 := Aside0.mk H28.out.drew
        have G32 := Aside0.mk (grown_drew G29.out)
        clear c0 c1 dCV dPV H28 G29
        generalize w26.drew = w33 at H31 G32 ⊢
        go_wp2_with fail
        refine (set_callsA H31 G32 (by omega) ⟨#[81]⟩ (by decide) _).mono ?_
        rintro e w35 ⟨f34, rfl, F36, H37, G38⟩
        clear H31 G32
        go_wp2_with fail
        refine (on_calls H37.out ⟨#[67, 85]⟩ (by decide)).mono ?_
        rintro e w' ⟨rfl, rfl⟩
        go_wp2_with fail
        refine (set_callsA H37 G38 (by omega) ⟨#[77]⟩ (by decide) _).mono ?_
        rintro e w40 ⟨f39, rfl, F41, H42, G43⟩
        clear H37 G38
        go_wp2
        go_end0
        have he44 : f39 = B.ctuF f now := by
          have q45 := HB1.out
          (try simp only [F41.out, F36.out, F27.out] at q45)
          have q46 := HB23.out
          (try simp only [F41.out, F36.out, F27.out] at q46)
          have q47 := HC24.out
          (try simp only [F41.out, F36.out, F27.out] at q47)
          rw [F41.out]
          rw [F36.out]
          rw [F27.out]
          simp only [B.ctuF, B.after, B.full, F41.out, F36.out, F27.out, q45, q46, q47, Bool.true_or, Bool.false_or, Bool.or_true, Bool.or_false, Bool.true_and, Bool.false_and, Bool.and_true, Bool.and_false, Bool.not_true, Bool.not_false, if_true, if_false, Bool.false_eq_true, reduceIte, show b2i false = (0 : Int) from rfl, show b2i true = (1 : Int) from rfl]
        exact ⟨rfl, he44 ▸ H42.out.mono (by omega), G43.out⟩
      | false =>
        have HC24 := Aside0.mk hc24
        have hp := of_decide_eq_false hc24
        have c0 := H0.out.c0
        have c1 := H0.out.c1
        have lCV := H0.out.look0 ⟨#[67, 86]⟩ (by decide)
        go_wp2_with fail
        clear c0 c1 lCV
        clear hp hc24
        have c0 := H0.out.c0
        have c1 := H0.out.c1
        have dCV := H0.out.lookd ⟨#[67, 86]⟩ (by decide)
        have dPV := H0.out.lookd ⟨#[80, 86]⟩ (by decide)
        go_still_tail 12, (by kernel_rfl)
        change wpList _ _ _ _ _ w.drew
        have H48 := Aside0.mk H0.out.drew
        have G49 := Aside0.mk (grown_drew G0.out)
        clear c0 c1 dCV dPV H0 G0
        generalize w.drew = w50 at H48 G49 ⊢
        go_wp2_with fail
        refine (set_callsA H48 G49 (by omega) ⟨#[81]⟩ (by decide) _).mono ?_
        rintro e w52 ⟨f51, rfl, F53, H54, G55⟩
        clear H48 G49
        go_wp2_with fail
        refine (on_calls H54.out ⟨#[67, 85]⟩ (by decide)).mono ?_
        rintro e w' ⟨rfl, rfl⟩
        go_wp2_with fail
        refine (set_callsA H54 G55 (by omega) ⟨#[77]⟩ (by decide) _).mono ?_
        rintro e w57 ⟨f56, rfl, F58, H59, G60⟩
        clear H54 G55
        go_wp2
        go_end0
        have he61 : f56 = B.ctuF f now := by
          have q62 := HB1.out
          (try simp only [F58.out, F53.out] at q62)
          have q63 := HB23.out
          (try simp only [F58.out, F53.out] at q63)
          have q64 := HC24.out
          (try simp only [F58.out, F53.out] at q64)
          rw [F58.out]
          rw [F53.out]
          simp only [B.ctuF, B.after, B.full, F58.out, F53.out, q62, q63, q64, Bool.true_or, Bool.false_or, Bool.or_true, Bool.or_false, Bool.true_and, Bool.false_and, Bool.and_true, Bool.and_false, Bool.not_true, Bool.not_false, if_true, if_false, Bool.false_eq_true, reduceIte, show b2i false = (0 : Int) from rfl, show b2i true = (1 : Int) from rfl]
        exact ⟨rfl, he61 ▸ H59.out.mono (by omega), G60.out⟩
    | false =>
      have HB23 := Aside0.mk hb23
      clear hb23
      go_wp2_with fail
      have c0 := H0.out.c0
      have c1 := H0.out.c1
      have dCV := H0.out.lookd ⟨#[67, 86]⟩ (by decide)
      have dPV := H0.out.lookd ⟨#[80, 86]⟩ (by decide)
      go_still_tail 12, (by kernel_rfl)
      change wpList _ _ _ _ _ w.drew
      have H65 := Aside0.mk H0.out.drew
      have G66 := Aside0.mk (grown_drew G0.out)
      clear c0 c1 dCV dPV H0 G0
      generalize w.drew = w67 at H65 G66 ⊢
      go_wp2_with fail
      refine (set_callsA H65 G66 (by omega) ⟨#[81]⟩ (by decide) _).mono ?_
      rintro e w69 ⟨f68, rfl, F70, H71, G72⟩
      clear H65 G66
      go_wp2_with fail
      refine (on_calls H71.out ⟨#[67, 85]⟩ (by decide)).mono ?_
      rintro e w' ⟨rfl, rfl⟩
      go_wp2_with fail
      refine (set_callsA H71 G72 (by omega) ⟨#[77]⟩ (by decide) _).mono ?_
      rintro e w74 ⟨f73, rfl, F75, H76, G77⟩
      clear H71 G72
      go_wp2
      go_end0
      have he78 : f73 = B.ctuF f now := by
        have q79 := HB1.out
        (try simp only [F75.out, F70.out] at q79)
        have q80 := HB23.out
        (try simp only [F75.out, F70.out] at q80)
        rw [F75.out]
        rw [F70.out]
        simp only [B.ctuF, B.after, B.full, F75.out, F70.out, q79, q80, Bool.true_or, Bool.false_or, Bool.or_true, Bool.or_false, Bool.true_and, Bool.false_and, Bool.and_true, Bool.and_false, Bool.not_true, Bool.not_false, if_true, if_false, Bool.false_eq_true, reduceIte, show b2i false = (0 : Int) from rfl, show b2i true = (1 : Int) from rfl]
      exact ⟨rfl, he78 ▸ H76.out.mono (by omega), G77.out⟩
set_option maxHeartbeats 8000000 in
set_option maxRecDepth 100000 in
theorem ctd_calls {w : World} {sb mb n : Nat} {f : ByteArray → Int} {now : Int} (h : St w sb mb n f now) (hn : n ≤ 100) (h0 : 0 ≤ now) (h1 : now ≤ 4611686018427387904) :
    Calls Try.prog 57 #[.pointer (some ⟨sb, 0, none⟩)] w fun e w' => e = .returned (.tuple #[]) ∧ St w' sb mb (n + 60) (B.ctdF f now) now ∧ w.grownBy w' (some mb) := by
  have hu74 := Try.underlying74
  have H0 := Aside0.mk h
  have G0 := Aside0.mk (grown_refl w (some mb))
  clear h
  go_enter Try.func57, Try.ntmps57
  go_wp2_with fail
  refine (on_calls H0.out ⟨#[76, 68]⟩ (by decide)).mono ?_
  rintro e w' ⟨rfl, rfl⟩
  cases hb1 : (f ⟨#[76, 68]⟩ == 1) with
  | true =>
    have HB1 := Aside0.mk hb1
    clear hb1
    go_wp2_with fail
    have c0 := H0.out.c0
    have c1 := H0.out.c1
    have dPV := H0.out.lookd ⟨#[80, 86]⟩ (by decide)
    go_still_tail 9, (by kernel_rfl)
    change wpList _ _ _ _ _ w.drew
    have H2 := Aside0.mk H0.out.drew
    have G3 := Aside0.mk (grown_drew G0.out)
    clear c0 c1 dPV H0 G0
    generalize w.drew = w4 at H2 G3 ⊢
    obtain ⟨w6, f5, r10, F7, H8, G9⟩ := St.putA H2 G3 (by omega) ⟨#[67, 86]⟩ (by decide) (f ⟨#[80, 86]⟩) (H2.out.2.wf _)
    have c0 := H2.out.c0
    have c1 := H2.out.c1
    have lPV := H2.out.look0 ⟨#[80, 86]⟩ (by decide)
    have e0 := H8.out.c0
    have eCV := H8.out.look0 ⟨#[67, 86]⟩ (by decide)
    go_wp2_with fail
    clear c0 c1 lPV e0 eCV
    clear r10 H2 G3
    refine (set_callsA H8 G9 (by omega) ⟨#[81]⟩ (by decide) _).mono ?_
    rintro e w12 ⟨f11, rfl, F13, H14, G15⟩
    clear H8 G9
    go_wp2_with fail
    refine (on_calls H14.out ⟨#[67, 68]⟩ (by decide)).mono ?_
    rintro e w' ⟨rfl, rfl⟩
    go_wp2_with fail
    refine (set_callsA H14 G15 (by omega) ⟨#[77]⟩ (by decide) _).mono ?_
    rintro e w17 ⟨f16, rfl, F18, H19, G20⟩
    clear H14 G15
    go_wp2
    go_end0
    have he21 : f16 = B.ctdF f now := by
      have q22 := HB1.out
      (try simp only [F18.out, F13.out, F7.out] at q22)
      rw [F18.out]
      rw [F13.out]
      rw [F7.out]
      simp only [B.ctdF, B.after, B.empty, F18.out, F13.out, F7.out, q22, Bool.true_or, Bool.false_or, Bool.or_true, Bool.or_false, Bool.true_and, Bool.false_and, Bool.and_true, Bool.and_false, Bool.not_true, Bool.not_false, if_true, if_false, Bool.false_eq_true, reduceIte, show b2i false = (0 : Int) from rfl, show b2i true = (1 : Int) from rfl]
    exact ⟨rfl, he21 ▸ H19.out.mono (by omega), G20.out⟩
  | false =>
    have HB1 := Aside0.mk hb1
    clear hb1
    go_wp2_with fail
    refine (rises_calls H0.out ⟨#[67, 68]⟩ ⟨#[77]⟩ (by decide) (by decide)).mono ?_
    rintro e w' ⟨rfl, rfl⟩
    cases hb23 : ((f ⟨#[67, 68]⟩ == 1) && !(f ⟨#[77]⟩ == 1)) with
    | true =>
      have HB23 := Aside0.mk hb23
      clear hb23
      cases hc24 : decide (-32768 < f ⟨#[67, 86]⟩) with
      | true =>
        have HC24 := Aside0.mk hc24
        have hp := of_decide_eq_true hc24
        have b1 := H0.out.2.lo ⟨#[67, 86]⟩
        obtain ⟨w26, f25, r30, F27, H28, G29⟩ := St.putA H0 G0 (by omega) ⟨#[67, 86]⟩ (by decide) (f ⟨#[67, 86]⟩ - 1) (WalkArith.wf_i64 (by omega))
        have c0 := H0.out.c0
        have c1 := H0.out.c1
        have lCV := H0.out.look0 ⟨#[67, 86]⟩ (by decide)
        have e0 := H28.out.c0
        have eCV := H28.out.look0 ⟨#[67, 86]⟩ (by decide)
        go_wp2_with fail
        clear c0 c1 lCV e0 eCV
        clear b1 hp hc24
        clear r30 H0 G0
        refine (set_callsA H28 G29 (by omega) ⟨#[81]⟩ (by decide) _).mono ?_
        rintro e w32 ⟨f31, rfl, F33, H34, G35⟩
        clear H28 G29
        go_wp2_with fail
        refine (on_calls H34.out ⟨#[67, 68]⟩ (by decide)).mono ?_
        rintro e w' ⟨rfl, rfl⟩
        go_wp2_with fail
        refine (set_callsA H34 G35 (by omega) ⟨#[77]⟩ (by decide) _).mono ?_
        rintro e w37 ⟨f36, rfl, F38, H39, G40⟩
        clear H34 G35
        go_wp2
        go_end0
        have he41 : f36 = B.ctdF f now := by
          have q42 := HB1.out
          (try simp only [F38.out, F33.out, F27.out] at q42)
          have q43 := HB23.out
          (try simp only [F38.out, F33.out, F27.out] at q43)
          have q44 := HC24.out
          (try simp only [F38.out, F33.out, F27.out] at q44)
          rw [F38.out]
          rw [F33.out]
          rw [F27.out]
          simp only [B.ctdF, B.after, B.empty, F38.out, F33.out, F27.out, q42, q43, q44, Bool.true_or, Bool.false_or, Bool.or_true, Bool.or_false, Bool.true_and, Bool.false_and, Bool.and_true, Bool.and_false, Bool.not_true, Bool.not_false, if_true, if_false, Bool.false_eq_true, reduceIte, show b2i false = (0 : Int) from rfl, show b2i true = (1 : Int) from rfl]
        exact ⟨rfl, he41 ▸ H39.out.mono (by omega), G40.out⟩
      | false =>
        have HC24 := Aside0.mk hc24
        have hp := of_decide_eq_false hc24
        have c0 := H0.out.c0
        have c1 := H0.out.c1
        have lCV := H0.out.look0 ⟨#[67, 86]⟩ (by decide)
        go_wp2_with fail
        clear c0 c1 lCV
        clear hp hc24
        refine (set_callsA H0 G0 (by omega) ⟨#[81]⟩ (by decide) _).mono ?_
        rintro e w46 ⟨f45, rfl, F47, H48, G49⟩
        clear H0 G0
        go_wp2_with fail
        refine (on_calls H48.out ⟨#[67, 68]⟩ (by decide)).mono ?_
        rintro e w' ⟨rfl, rfl⟩
        go_wp2_with fail
        refine (set_callsA H48 G49 (by omega) ⟨#[77]⟩ (by decide) _).mono ?_
        rintro e w51 ⟨f50, rfl, F52, H53, G54⟩
        clear H48 G49
        go_wp2
        go_end0
        have he55 : f50 = B.ctdF f now := by
          have q56 := HB1.out
          (try simp only [F52.out, F47.out] at q56)
          have q57 := HB23.out
          (try simp only [F52.out, F47.out] at q57)
          have q58 := HC24.out
          (try simp only [F52.out, F47.out] at q58)
          rw [F52.out]
          rw [F47.out]
          simp only [B.ctdF, B.after, B.empty, F52.out, F47.out, q56, q57, q58, Bool.true_or, Bool.false_or, Bool.or_true, Bool.or_false, Bool.true_and, Bool.false_and, Bool.and_true, Bool.and_false, Bool.not_true, Bool.not_false, if_true, if_false, Bool.false_eq_true, reduceIte, show b2i false = (0 : Int) from rfl, show b2i true = (1 : Int) from rfl]
        exact ⟨rfl, he55 ▸ H53.out.mono (by omega), G54.out⟩
    | false =>
      have HB23 := Aside0.mk hb23
      clear hb23
      have c0 := H0.out.c0
      have c1 := H0.out.c1
      have lCV := H0.out.look0 ⟨#[67, 86]⟩ (by decide)
      go_wp2_with fail
      clear c0 c1 lCV
      refine (set_callsA H0 G0 (by omega) ⟨#[81]⟩ (by decide) _).mono ?_
      rintro e w60 ⟨f59, rfl, F61, H62, G63⟩
      clear H0 G0
      go_wp2_with fail
      refine (on_calls H62.out ⟨#[67, 68]⟩ (by decide)).mono ?_
      rintro e w' ⟨rfl, rfl⟩
      go_wp2_with fail
      refine (set_callsA H62 G63 (by omega) ⟨#[77]⟩ (by decide) _).mono ?_
      rintro e w65 ⟨f64, rfl, F66, H67, G68⟩
      clear H62 G63
      go_wp2
      go_end0
      have he69 : f64 = B.ctdF f now := by
        have q70 := HB1.out
        (try simp only [F66.out, F61.out] at q70)
        have q71 := HB23.out
        (try simp only [F66.out, F61.out] at q71)
        rw [F66.out]
        rw [F61.out]
        simp only [B.ctdF, B.after, B.empty, F66.out, F61.out, q70, q71, Bool.true_or, Bool.false_or, Bool.or_true, Bool.or_false, Bool.true_and, Bool.false_and, Bool.and_true, Bool.and_false, Bool.not_true, Bool.not_false, if_true, if_false, Bool.false_eq_true, reduceIte, show b2i false = (0 : Int) from rfl, show b2i true = (1 : Int) from rfl]
      exact ⟨rfl, he69 ▸ H67.out.mono (by omega), G68.out⟩

end Go.Proofs.Ytfadafgnahhmdaa.X

