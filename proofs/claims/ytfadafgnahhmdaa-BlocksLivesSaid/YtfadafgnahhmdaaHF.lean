import Derived.Test.YtfadafgnahhmdaaHC
set_option linter.unusedVariables false
set_option linter.unusedSimpArgs false
namespace Go.Proofs.Ytfadafgnahhmdaa.X
open Go.RowKit Go.Proofs.YtfadafgnahhmdaaW.PrintWords Go.Proofs.YtfadafgnahhmdaaW.PrintLast Go.Proofs.YtfadafgnahhmdaaW.PrintMore Go.Proofs.Ytfadafgnahhmdaa.E
attribute [local go_sem] max2_int min2_int max_two min_two max_three min_three max_four min_four
set_option linter.unusedVariables false
set_option linter.unusedSimpArgs false

open B (upd b2i mnI sinceF spanF)
set_option maxHeartbeats 8000000 in
set_option maxRecDepth 100000 in
theorem tof_calls {w : World} {sb mb n : Nat} {f : ByteArray → Int} {now : Int} (h : St w sb mb n f now) (hn : n ≤ 100) (h0 : 0 ≤ now) (h1 : now ≤ 4611686018427387904) :
    Calls Try.prog 61 #[.pointer (some ⟨sb, 0, none⟩)] w fun e w' => e = .returned (.tuple #[]) ∧ St w' sb mb (n + 60) (B.tofF f now) now ∧ w.grownBy w' (some mb) := by
  have hu74 := Try.underlying74
  have H0 := Aside0.mk h
  have G0 := Aside0.mk (grown_refl w (some mb))
  clear h
  go_enter Try.func61, Try.ntmps61
  go_wp2_with fail
  refine (on_calls H0.out ⟨#[73, 78]⟩ (by decide)).mono ?_
  rintro e w' ⟨rfl, rfl⟩
  cases hb1 : (f ⟨#[73, 78]⟩ == 1) with
  | true =>
    have HB1 := Aside0.mk hb1
    clear hb1
    go_wp2_with fail
    refine (set_callsA H0 G0 (by omega) ⟨#[81]⟩ (by decide) true).mono ?_
    rintro e w3 ⟨f2, rfl, F4, H5, G6⟩
    clear H0 G0
    obtain ⟨w8, f7, r12, F9, H10, G11⟩ := St.putA H5 G6 (by omega) ⟨#[69, 84]⟩ (by decide) (0) (by decide)
    have c0 := H5.out.c0
    have c1 := H5.out.c1
    go_wp2_with fail
    clear c0 c1
    clear r12 H5 G6
    refine (on_calls H10.out ⟨#[73, 78]⟩ (by decide)).mono ?_
    rintro e w' ⟨rfl, rfl⟩
    go_wp2_with fail
    refine (set_callsA H10 G11 (by omega) ⟨#[77]⟩ (by decide) _).mono ?_
    rintro e w14 ⟨f13, rfl, F15, H16, G17⟩
    clear H10 G11
    go_wp2
    go_end0
    have he18 : f13 = B.tofF f now := by
      have q19 := HB1.out
      (try simp only [F15.out, F9.out, F4.out] at q19)
      rw [F15.out]
      rw [F9.out]
      rw [F4.out]
      simp only [B.tofF, B.tofB, B.tofC, B.setET, B.after, F15.out, F9.out, F4.out, q19, Bool.true_or, Bool.false_or, Bool.or_true, Bool.or_false, Bool.true_and, Bool.false_and, Bool.and_true, Bool.and_false, Bool.not_true, Bool.not_false, if_true, if_false, Bool.false_eq_true, reduceIte, show b2i false = (0 : Int) from rfl, show b2i true = (1 : Int) from rfl]
    exact ⟨rfl, he18 ▸ H16.out.mono (by omega), G17.out⟩
  | false =>
    have HB1 := Aside0.mk hb1
    clear hb1
    go_wp2_with fail
    refine (on_calls H0.out ⟨#[77]⟩ (by decide)).mono ?_
    rintro e w' ⟨rfl, rfl⟩
    cases hb20 : (f ⟨#[77]⟩ == 1) with
    | true =>
      have HB20 := Aside0.mk hb20
      clear hb20
      go_wp2_with fail
      have c0 := H0.out.c0
      have c1 := H0.out.c1
      go_still_tail 8, (by kernel_rfl)
      change wpList _ _ _ _ _ w.drew
      have H21 := Aside0.mk H0.out.drew
      have G22 := Aside0.mk (grown_drew G0.out)
      clear c0 c1 H0 G0
      generalize w.drew = w23 at H21 G22 ⊢
      obtain ⟨w25, f24, r29, F26, H27, G28⟩ := St.putA H21 G22 (by omega) ⟨#[83]⟩ (by decide) (now) (WalkArith.wf_i64 (by omega))
      go_wp2_with fail
      clear r29 H21 G22
      refine (on_calls H27.out ⟨#[81]⟩ (by decide)).mono ?_
      rintro e w' ⟨rfl, rfl⟩
      cases hb30 : (f24 ⟨#[81]⟩ == 1) with
      | true =>
        have HB30 := Aside0.mk hb30
        clear hb30
        go_wp2_with fail
        refine (since_callsA H27 G28 h0 h1).mono ?_
        rintro e w33 ⟨rfl, H31, G32⟩
        clear H27 G28
        go_wp2_with fail
        refine (span_calls H31.out).mono ?_
        rintro e w' ⟨rfl, rfl⟩
        go_wp2_with fail
        refine (set_callsA H31 G32 (by omega) ⟨#[81]⟩ (by decide) _).mono ?_
        rintro e w35 ⟨f34, rfl, F36, H37, G38⟩
        clear H31 G32
        go_wp2_with fail
        obtain ⟨a, ha⟩ : ∃ a, a = sinceF f34 now := ⟨_, rfl⟩
        have Sa := since_bd f34 h0 h1
        rw [← ha] at Sa
        have Fa := Aside0.mk ha
        clear ha
        obtain ⟨b, hb⟩ : ∃ b, b = spanF f34 := ⟨_, rfl⟩
        have Sb := span_bd H37
        rw [← hb] at Sb
        have Fb := Aside0.mk hb
        clear hb
        have wa := Aside0.mk (WalkArith.wf_i64 (n := a) (by omega))
        have wb := Aside0.mk (WalkArith.wf_i64 (n := b) (by omega))
        clear Sa Sb
        by_cases hlt : b < a
        ·
          have HM : Aside0 (b = B.mnI (sinceF f34 now) (spanF f34)) := ⟨by rw [← Fa.out, ← Fb.out]; exact (if_pos hlt).symm⟩
          have hlt2 : decide (b < a) = true := decide_eq_true hlt
          have c0 := H37.out.drew.c0
          have HD := Aside0.mk H37.out.drew
          have GD := Aside0.mk (grown_drew G38.out)
          go_region_with (first | (go_at_call 78; (with_reducible refine (since_callsA HD GD h0 h1).mono ?_); rintro e w47 ⟨rfl, H45, G46⟩; rw [← Fa.out]; have c3 := H45.out.c0; obtain ⟨w42, f41, r44, F43, H39, G40⟩ := St.putA H45 G46 (by omega) ⟨#[69, 84]⟩ (by decide) b wb.out) | (go_at_call 79; (with_reducible refine (span_calls H45.out).mono ?_); rintro e w' ⟨rfl, rfl⟩; rw [← Fb.out]))
          all_goals
            clear c0 c3 r44 HD GD H37 G38 H45 G46 wa wb hlt hlt2
            go_wp2_with fail
            refine (on_calls H39.out ⟨#[73, 78]⟩ (by decide)).mono ?_
            rintro e w' ⟨rfl, rfl⟩
            go_wp2_with fail
            refine (set_callsA H39 G40 (by omega) ⟨#[77]⟩ (by decide) _).mono ?_
            rintro e w49 ⟨f48, rfl, F50, H51, G52⟩
            clear H39 G40
            go_wp2
            go_end0
            have he53 : f48 = B.tofF f now := by
              have q54 := HB1.out
              (try simp only [F50.out, F43.out, HM.out, F36.out, F26.out] at q54)
              have q55 := HB20.out
              (try simp only [F50.out, F43.out, HM.out, F36.out, F26.out] at q55)
              have q56 := HB30.out
              (try simp only [F50.out, F43.out, HM.out, F36.out, F26.out] at q56)
              rw [F50.out]
              rw [F43.out]
              rw [HM.out]
              rw [F36.out]
              rw [F26.out]
              simp only [B.tofF, B.tofB, B.tofC, B.setET, B.after, F50.out, F43.out, HM.out, F36.out, F26.out, q54, q55, q56, Bool.true_or, Bool.false_or, Bool.or_true, Bool.or_false, Bool.true_and, Bool.false_and, Bool.and_true, Bool.and_false, Bool.not_true, Bool.not_false, if_true, if_false, Bool.false_eq_true, reduceIte, show b2i false = (0 : Int) from rfl, show b2i true = (1 : Int) from rfl]
            exact ⟨rfl, he53 ▸ H51.out.mono (by omega), G52.out⟩
        ·
          have HM : Aside0 (a = B.mnI (sinceF f34 now) (spanF f34)) := ⟨by rw [← Fa.out, ← Fb.out]; exact (if_neg hlt).symm⟩
          have hlt2 : decide (b < a) = false := decide_eq_false hlt
          have c0 := H37.out.drew.c0
          have HD := Aside0.mk H37.out.drew
          have GD := Aside0.mk (grown_drew G38.out)
          go_region_with (first | (go_at_call 78; (with_reducible refine (since_callsA HD GD h0 h1).mono ?_); rintro e w65 ⟨rfl, H63, G64⟩; rw [← Fa.out]; have c3 := H63.out.c0; obtain ⟨w60, f59, r62, F61, H57, G58⟩ := St.putA H63 G64 (by omega) ⟨#[69, 84]⟩ (by decide) a wa.out) | (go_at_call 79; (with_reducible refine (span_calls H63.out).mono ?_); rintro e w' ⟨rfl, rfl⟩; rw [← Fb.out]))
          all_goals
            clear c0 c3 r62 HD GD H37 G38 H63 G64 wa wb hlt hlt2
            go_wp2_with fail
            refine (on_calls H57.out ⟨#[73, 78]⟩ (by decide)).mono ?_
            rintro e w' ⟨rfl, rfl⟩
            go_wp2_with fail
            refine (set_callsA H57 G58 (by omega) ⟨#[77]⟩ (by decide) _).mono ?_
            rintro e w67 ⟨f66, rfl, F68, H69, G70⟩
            clear H57 G58
            go_wp2
            go_end0
            have he71 : f66 = B.tofF f now := by
              have q72 := HB1.out
              (try simp only [F68.out, F61.out, HM.out, F36.out, F26.out] at q72)
              have q73 := HB20.out
              (try simp only [F68.out, F61.out, HM.out, F36.out, F26.out] at q73)
              have q74 := HB30.out
              (try simp only [F68.out, F61.out, HM.out, F36.out, F26.out] at q74)
              rw [F68.out]
              rw [F61.out]
              rw [HM.out]
              rw [F36.out]
              rw [F26.out]
              simp only [B.tofF, B.tofB, B.tofC, B.setET, B.after, F68.out, F61.out, HM.out, F36.out, F26.out, q72, q73, q74, Bool.true_or, Bool.false_or, Bool.or_true, Bool.or_false, Bool.true_and, Bool.false_and, Bool.and_true, Bool.and_false, Bool.not_true, Bool.not_false, if_true, if_false, Bool.false_eq_true, reduceIte, show b2i false = (0 : Int) from rfl, show b2i true = (1 : Int) from rfl]
            exact ⟨rfl, he71 ▸ H69.out.mono (by omega), G70.out⟩
      | false =>
        have HB30 := Aside0.mk hb30
        clear hb30
        go_wp2_with fail
        refine (on_calls H27.out ⟨#[73, 78]⟩ (by decide)).mono ?_
        rintro e w' ⟨rfl, rfl⟩
        go_wp2_with fail
        refine (set_callsA H27 G28 (by omega) ⟨#[77]⟩ (by decide) _).mono ?_
        rintro e w76 ⟨f75, rfl, F77, H78, G79⟩
        clear H27 G28
        go_wp2
        go_end0
        have he80 : f75 = B.tofF f now := by
          have q81 := HB1.out
          (try simp only [F77.out, F26.out] at q81)
          have q82 := HB20.out
          (try simp only [F77.out, F26.out] at q82)
          have q83 := HB30.out
          (try simp only [F77.out, F26.out] at q83)
          rw [F77.out]
          rw [F26.out]
          simp only [B.tofF, B.tofB, B.tofC, B.setET, B.after, F77.out, F26.out, q81, q82, q83, Bool.true_or, Bool.false_or, Bool.or_true, Bool.or_false, Bool.true_and, Bool.false_and, Bool.and_true, Bool.and_false, Bool.not_true, Bool.not_false, if_true, if_false, Bool.false_eq_true, reduceIte, show b2i false = (0 : Int) from rfl, show b2i true = (1 : Int) from rfl]
        exact ⟨rfl, he80 ▸ H78.out.mono (by omega), G79.out⟩
    | false =>
      have HB20 := Aside0.mk hb20
      clear hb20
      go_wp2_with fail
      refine (on_calls H0.out ⟨#[81]⟩ (by decide)).mono ?_
      rintro e w' ⟨rfl, rfl⟩
      cases hb84 : (f ⟨#[81]⟩ == 1) with
      | true =>
        have HB84 := Aside0.mk hb84
        clear hb84
        go_wp2_with fail
        refine (since_callsA H0 G0 h0 h1).mono ?_
        rintro e w87 ⟨rfl, H85, G86⟩
        clear H0 G0
        go_wp2_with fail
        refine (span_calls H85.out).mono ?_
        rintro e w' ⟨rfl, rfl⟩
        go_wp2_with fail
        refine (set_callsA H85 G86 (by omega) ⟨#[81]⟩ (by decide) _).mono ?_
        rintro e w89 ⟨f88, rfl, F90, H91, G92⟩
        clear H85 G86
        go_wp2_with fail
        obtain ⟨a, ha⟩ : ∃ a, a = sinceF f88 now := ⟨_, rfl⟩
        have Sa := since_bd f88 h0 h1
        rw [← ha] at Sa
        have Fa := Aside0.mk ha
        clear ha
        obtain ⟨b, hb⟩ : ∃ b, b = spanF f88 := ⟨_, rfl⟩
        have Sb := span_bd H91
        rw [← hb] at Sb
        have Fb := Aside0.mk hb
        clear hb
        have wa := Aside0.mk (WalkArith.wf_i64 (n := a) (by omega))
        have wb := Aside0.mk (WalkArith.wf_i64 (n := b) (by omega))
        clear Sa Sb
        by_cases hlt : b < a
        ·
          have HM : Aside0 (b = B.mnI (sinceF f88 now) (spanF f88)) := ⟨by rw [← Fa.out, ← Fb.out]; exact (if_pos hlt).symm⟩
          have hlt2 : decide (b < a) = true := decide_eq_true hlt
          have c0 := H91.out.drew.c0
          have HD := Aside0.mk H91.out.drew
          have GD := Aside0.mk (grown_drew G92.out)
          go_region_with (first | (go_at_call 78; (with_reducible refine (since_callsA HD GD h0 h1).mono ?_); rintro e w101 ⟨rfl, H99, G100⟩; rw [← Fa.out]; have c3 := H99.out.c0; obtain ⟨w96, f95, r98, F97, H93, G94⟩ := St.putA H99 G100 (by omega) ⟨#[69, 84]⟩ (by decide) b wb.out) | (go_at_call 79; (with_reducible refine (span_calls H99.out).mono ?_); rintro e w' ⟨rfl, rfl⟩; rw [← Fb.out]))
          all_goals
            clear c0 c3 r98 HD GD H91 G92 H99 G100 wa wb hlt hlt2
            go_wp2_with fail
            refine (on_calls H93.out ⟨#[73, 78]⟩ (by decide)).mono ?_
            rintro e w' ⟨rfl, rfl⟩
            go_wp2_with fail
            refine (set_callsA H93 G94 (by omega) ⟨#[77]⟩ (by decide) _).mono ?_
            rintro e w103 ⟨f102, rfl, F104, H105, G106⟩
            clear H93 G94
            go_wp2
            go_end0
            have he107 : f102 = B.tofF f now := by
              have q108 := HB1.out
              (try simp only [F104.out, F97.out, HM.out, F90.out] at q108)
              have q109 := HB20.out
              (try simp only [F104.out, F97.out, HM.out, F90.out] at q109)
              have q110 := HB84.out
              (try simp only [F104.out, F97.out, HM.out, F90.out] at q110)
              rw [F104.out]
              rw [F97.out]
              rw [HM.out]
              rw [F90.out]
              simp only [B.tofF, B.tofB, B.tofC, B.setET, B.after, F104.out, F97.out, HM.out, F90.out, q108, q109, q110, Bool.true_or, Bool.false_or, Bool.or_true, Bool.or_false, Bool.true_and, Bool.false_and, Bool.and_true, Bool.and_false, Bool.not_true, Bool.not_false, if_true, if_false, Bool.false_eq_true, reduceIte, show b2i false = (0 : Int) from rfl, show b2i true = (1 : Int) from rfl]
            exact ⟨rfl, he107 ▸ H105.out.mono (by omega), G106.out⟩
        ·
          have HM : Aside0 (a = B.mnI (sinceF f88 now) (spanF f88)) := ⟨by rw [← Fa.out, ← Fb.out]; exact (if_neg hlt).symm⟩
          have hlt2 : decide (b < a) = false := decide_eq_false hlt
          have c0 := H91.out.drew.c0
          have HD := Aside0.mk H91.out.drew
          have GD := Aside0.mk (grown_drew G92.out)
          go_region_with (first | (go_at_call 78; (with_reducible refine (since_callsA HD GD h0 h1).mono ?_); rintro e w119 ⟨rfl, H117, G118⟩; rw [← Fa.out]; have c3 := H117.out.c0; obtain ⟨w114, f113, r116, F115, H111, G112⟩ := St.putA H117 G118 (by omega) ⟨#[69, 84]⟩ (by decide) a wa.out) | (go_at_call 79; (with_reducible refine (span_calls H117.out).mono ?_); rintro e w' ⟨rfl, rfl⟩; rw [← Fb.out]))
          all_goals
            clear c0 c3 r116 HD GD H91 G92 H117 G118 wa wb hlt hlt2
            go_wp2_with fail
            refine (on_calls H111.out ⟨#[73, 78]⟩ (by decide)).mono ?_
            rintro e w' ⟨rfl, rfl⟩
            go_wp2_with fail
            refine (set_callsA H111 G112 (by omega) ⟨#[77]⟩ (by decide) _).mono ?_
            rintro e w121 ⟨f120, rfl, F122, H123, G124⟩
            clear H111 G112
            go_wp2
            go_end0
            have he125 : f120 = B.tofF f now := by
              have q126 := HB1.out
              (try simp only [F122.out, F115.out, HM.out, F90.out] at q126)
              have q127 := HB20.out
              (try simp only [F122.out, F115.out, HM.out, F90.out] at q127)
              have q128 := HB84.out
              (try simp only [F122.out, F115.out, HM.out, F90.out] at q128)
              rw [F122.out]
              rw [F115.out]
              rw [HM.out]
              rw [F90.out]
              simp only [B.tofF, B.tofB, B.tofC, B.setET, B.after, F122.out, F115.out, HM.out, F90.out, q126, q127, q128, Bool.true_or, Bool.false_or, Bool.or_true, Bool.or_false, Bool.true_and, Bool.false_and, Bool.and_true, Bool.and_false, Bool.not_true, Bool.not_false, if_true, if_false, Bool.false_eq_true, reduceIte, show b2i false = (0 : Int) from rfl, show b2i true = (1 : Int) from rfl]
            exact ⟨rfl, he125 ▸ H123.out.mono (by omega), G124.out⟩
      | false =>
        have HB84 := Aside0.mk hb84
        clear hb84
        go_wp2_with fail
        refine (on_calls H0.out ⟨#[73, 78]⟩ (by decide)).mono ?_
        rintro e w' ⟨rfl, rfl⟩
        go_wp2_with fail
        refine (set_callsA H0 G0 (by omega) ⟨#[77]⟩ (by decide) _).mono ?_
        rintro e w130 ⟨f129, rfl, F131, H132, G133⟩
        clear H0 G0
        go_wp2
        go_end0
        have he134 : f129 = B.tofF f now := by
          have q135 := HB1.out
          (try simp only [F131.out] at q135)
          have q136 := HB20.out
          (try simp only [F131.out] at q136)
          have q137 := HB84.out
          (try simp only [F131.out] at q137)
          rw [F131.out]
          simp only [B.tofF, B.tofB, B.tofC, B.setET, B.after, F131.out, q135, q136, q137, Bool.true_or, Bool.false_or, Bool.or_true, Bool.or_false, Bool.true_and, Bool.false_and, Bool.and_true, Bool.and_false, Bool.not_true, Bool.not_false, if_true, if_false, Bool.false_eq_true, reduceIte, show b2i false = (0 : Int) from rfl, show b2i true = (1 : Int) from rfl]
        exact ⟨rfl, he134 ▸ H132.out.mono (by omega), G133.out⟩

end Go.Proofs.Ytfadafgnahhmdaa.X
namespace Go.Proofs.Ytfadafgnahhmdaa.X
open Go.RowKit Go.Proofs.YtfadafgnahhmdaaW.PrintWords Go.Proofs.YtfadafgnahhmdaaW.PrintLast Go.Proofs.YtfadafgnahhmdaaW.PrintMore Go.Proofs.Ytfadafgnahhmdaa.E
attribute [local go_sem] max2_int min2_int max_two min_two max_three min_three max_four min_four
set_option linter.unusedVariables false
set_option linter.unusedSimpArgs false

open B (upd b2i mnI sinceF spanF)
set_option maxHeartbeats 8000000 in
set_option maxRecDepth 100000 in
theorem tp_calls {w : World} {sb mb n : Nat} {f : ByteArray → Int} {now : Int} (h : St w sb mb n f now) (hn : n ≤ 100) (h0 : 0 ≤ now) (h1 : now ≤ 4611686018427387904) :
    Calls Try.prog 59 #[.pointer (some ⟨sb, 0, none⟩)] w fun e w' => e = .returned (.tuple #[]) ∧ St w' sb mb (n + 60) (B.tpF f now) now ∧ w.grownBy w' (some mb) := by
  have hu74 := Try.underlying74
  have H0 := Aside0.mk h
  have G0 := Aside0.mk (grown_refl w (some mb))
  clear h
  go_enter Try.func59, Try.ntmps59
  go_wp2_with fail
  refine (on_calls H0.out ⟨#[81]⟩ (by decide)).mono ?_
  rintro e w' ⟨rfl, rfl⟩
  cases hb1 : (f ⟨#[81]⟩ == 1) with
  | true =>
    have HB1 := Aside0.mk hb1
    clear hb1
    go_wp2_with fail
    refine (since_callsA H0 G0 h0 h1).mono ?_
    rintro e w4 ⟨rfl, H2, G3⟩
    clear H0 G0
    go_wp2_with fail
    refine (span_calls H2.out).mono ?_
    rintro e w' ⟨rfl, rfl⟩
    cases hc5 : decide (spanF f ≤ sinceF f now) with
    | true =>
      have HC5 := Aside0.mk hc5
      go_wp2_with fail
      clear hc5
      refine (set_callsA H2 G3 (by omega) ⟨#[81]⟩ (by decide) false).mono ?_
      rintro e w7 ⟨f6, rfl, F8, H9, G10⟩
      clear H2 G3
      go_wp2_with fail
      obtain ⟨b, hb⟩ : ∃ b, b = spanF f6 := ⟨_, rfl⟩
      have SB := span_bd H9
      rw [← hb] at SB
      have FB := Aside0.mk hb
      clear hb
      have wb := Aside0.mk (WalkArith.wf_i64 (n := b) (by omega))
      clear SB
      have c0 := H9.out.drew.c0
      have HD := Aside0.mk H9.out.drew
      have GD := Aside0.mk (grown_drew G10.out)
      obtain ⟨w14, f13, r16, F15, H11, G12⟩ := St.putA HD GD (by omega) ⟨#[69, 84]⟩ (by decide) b wb.out
      go_region_with (go_at_call 79; (with_reducible refine (span_calls HD.out).mono ?_); rintro e w' ⟨rfl, rfl⟩; rw [← FB.out])
      all_goals
        clear c0 r16 HD GD H9 G10 wb
        have EA17 : Aside0 (f13 = B.tpA f now) := ⟨by
          rw [B.tpA_1 HB1.out HC5.out, F15.out, FB.out, F8.out]
          all_goals first | rfl | (simp only [B.setET, show b2i false = (0 : Int) from rfl, show b2i true = (1 : Int) from rfl]; done) | (simp only [B.setET, show b2i false = (0 : Int) from rfl, show b2i true = (1 : Int) from rfl]; rfl)⟩
        go_wp2_with fail
        refine (on_calls H11.out ⟨#[81]⟩ (by decide)).mono ?_
        rintro e w' ⟨rfl, rfl⟩
        cases hb18 : (f13 ⟨#[81]⟩ == 1) with
        | true =>
          have HB18 := Aside0.mk hb18
          clear hb18
          have EA19 : Aside0 (f13 = B.tpB f13 now) := ⟨by
            rw [B.tpB_1 HB18.out]
            all_goals first | rfl | (simp only [B.setET, show b2i false = (0 : Int) from rfl, show b2i true = (1 : Int) from rfl]; done) | (simp only [B.setET, show b2i false = (0 : Int) from rfl, show b2i true = (1 : Int) from rfl]; rfl)⟩
          go_wp2_with fail
          refine (on_calls H11.out ⟨#[73, 78]⟩ (by decide)).mono ?_
          rintro e w' ⟨rfl, rfl⟩
          go_wp2_with fail
          refine (set_callsA H11 G12 (by omega) ⟨#[77]⟩ (by decide) _).mono ?_
          rintro e w21 ⟨f20, rfl, F22, H23, G24⟩
          clear H11 G12
          go_wp2
          go_end0
          have he25 : f20 = B.tpF f now := by
            rw [F22.out, B.tpF, ← EA17.out, ← EA19.out, B.after]
          exact ⟨rfl, he25 ▸ H23.out.mono (by omega), G24.out⟩
        | false =>
          have HB18 := Aside0.mk hb18
          clear hb18
          go_wp2_with fail
          refine (rises_calls H11.out ⟨#[73, 78]⟩ ⟨#[77]⟩ (by decide) (by decide)).mono ?_
          rintro e w' ⟨rfl, rfl⟩
          cases hb26 : ((f13 ⟨#[73, 78]⟩ == 1) && !(f13 ⟨#[77]⟩ == 1)) with
          | true =>
            have HB26 := Aside0.mk hb26
            clear hb26
            go_wp2_with fail
            have HD := Aside0.mk H11.out.drew
            have GD := Aside0.mk (grown_drew G12.out)
            have hwf : (Lit.int .i64 now).wf = true := WalkArith.wf_i64 (by omega)
            have c0 := HD.out.c0
            have c1 := HD.out.c1
            obtain ⟨v0, st0, wa, w33, e1, e2, s2, g2, d0, d1⟩ := HD.out.entry (by omega) ⟨#[83]⟩ (by decide) now hwf
            obtain ⟨v3, st3, wc, w34, e3, e4, s4, g4, p0, p1⟩ := s2.entry (by omega) ⟨#[69, 84]⟩ (by decide) 0 (by decide)
            have k0 := s2.c0
            have k1 := s2.c1
            obtain ⟨f32, hf2⟩ : ∃ x, x = upd (upd f13 ⟨#[83]⟩ now) ⟨#[69, 84]⟩ 0 := ⟨_, rfl⟩
            rw [← hf2] at s4
            have F30 := Aside0.mk hf2
            have H27 := Aside0.mk s4
            have G28 := Aside0.mk (grown_trans (grown_trans GD.out g2) g4)
            clear s2 g2 s4 g4 hwf hf2
            go_region
            all_goals
              clear c0 c1 e1 e2 d0 d1 e3 e4 p0 p1 k0 k1 HD GD H11 G12
              go_wp2_with fail
              refine (span_calls H27.out).mono ?_
              rintro e w' ⟨rfl, rfl⟩
              go_wp2_with fail
              refine (set_callsA H27 G28 (by omega) ⟨#[81]⟩ (by decide) _).mono ?_
              rintro e w36 ⟨f35, rfl, F37, H38, G39⟩
              clear H27 G28
              have EA40 : Aside0 (f35 = B.tpB f13 now) := ⟨by
                rw [B.tpB_2 HB18.out HB26.out, F37.out, F30.out]
                all_goals first | rfl | (simp only [B.setET, show b2i false = (0 : Int) from rfl, show b2i true = (1 : Int) from rfl]; done) | (simp only [B.setET, show b2i false = (0 : Int) from rfl, show b2i true = (1 : Int) from rfl]; rfl)⟩
              go_wp2_with fail
              refine (on_calls H38.out ⟨#[73, 78]⟩ (by decide)).mono ?_
              rintro e w' ⟨rfl, rfl⟩
              go_wp2_with fail
              refine (set_callsA H38 G39 (by omega) ⟨#[77]⟩ (by decide) _).mono ?_
              rintro e w42 ⟨f41, rfl, F43, H44, G45⟩
              clear H38 G39
              go_wp2
              go_end0
              have he46 : f41 = B.tpF f now := by
                rw [F43.out, B.tpF, ← EA17.out, ← EA40.out, B.after]
              exact ⟨rfl, he46 ▸ H44.out.mono (by omega), G45.out⟩
          | false =>
            have HB26 := Aside0.mk hb26
            clear hb26
            go_wp2_with fail
            refine (on_calls H11.out ⟨#[73, 78]⟩ (by decide)).mono ?_
            rintro e w' ⟨rfl, rfl⟩
            cases hb47 : (f13 ⟨#[73, 78]⟩ == 1) with
            | true =>
              have HB47 := Aside0.mk hb47
              clear hb47
              have EA48 : Aside0 (f13 = B.tpB f13 now) := ⟨by
                rw [B.tpB_3 HB18.out HB26.out HB47.out]
                all_goals first | rfl | (simp only [B.setET, show b2i false = (0 : Int) from rfl, show b2i true = (1 : Int) from rfl]; done) | (simp only [B.setET, show b2i false = (0 : Int) from rfl, show b2i true = (1 : Int) from rfl]; rfl)⟩
              go_wp2_with fail
              refine (on_calls H11.out ⟨#[73, 78]⟩ (by decide)).mono ?_
              rintro e w' ⟨rfl, rfl⟩
              go_wp2_with fail
              refine (set_callsA H11 G12 (by omega) ⟨#[77]⟩ (by decide) _).mono ?_
              rintro e w50 ⟨f49, rfl, F51, H52, G53⟩
              clear H11 G12
              go_wp2
              go_end0
              have he54 : f49 = B.tpF f now := by
                rw [F51.out, B.tpF, ← EA17.out, ← EA48.out, B.after]
              exact ⟨rfl, he54 ▸ H52.out.mono (by omega), G53.out⟩
            | false =>
              have HB47 := Aside0.mk hb47
              clear hb47
              obtain ⟨w56, f55, r60, F57, H58, G59⟩ := St.putA H11 G12 (by omega) ⟨#[69, 84]⟩ (by decide) (0) (by decide)
              have c0 := H11.out.c0
              have c1 := H11.out.c1
              go_wp2_with fail
              clear c0 c1
              clear r60 H11 G12
              have EA61 : Aside0 (f55 = B.tpB f13 now) := ⟨by
                rw [B.tpB_4 HB18.out HB26.out HB47.out, F57.out]
                all_goals first | rfl | (simp only [B.setET, show b2i false = (0 : Int) from rfl, show b2i true = (1 : Int) from rfl]; done) | (simp only [B.setET, show b2i false = (0 : Int) from rfl, show b2i true = (1 : Int) from rfl]; rfl)⟩
              refine (on_calls H58.out ⟨#[73, 78]⟩ (by decide)).mono ?_
              rintro e w' ⟨rfl, rfl⟩
              go_wp2_with fail
              refine (set_callsA H58 G59 (by omega) ⟨#[77]⟩ (by decide) _).mono ?_
              rintro e w63 ⟨f62, rfl, F64, H65, G66⟩
              clear H58 G59
              go_wp2
              go_end0
              have he67 : f62 = B.tpF f now := by
                rw [F64.out, B.tpF, ← EA17.out, ← EA61.out, B.after]
              exact ⟨rfl, he67 ▸ H65.out.mono (by omega), G66.out⟩
    | false =>
      have HC5 := Aside0.mk hc5
      go_wp2_with fail
      clear hc5
      obtain ⟨a, ha⟩ : ∃ a, a = sinceF f now := ⟨_, rfl⟩
      have SA := since_bd f h0 h1
      rw [← ha] at SA
      have FA := Aside0.mk ha
      clear ha
      have wa := Aside0.mk (WalkArith.wf_i64 (n := a) (by omega))
      clear SA
      have c0 := H2.out.drew.c0
      have HD := Aside0.mk H2.out.drew
      have GD := Aside0.mk (grown_drew G3.out)
      go_region_with (go_at_call 78; (with_reducible refine (since_callsA HD GD h0 h1).mono ?_); rintro e w76 ⟨rfl, H74, G75⟩; rw [← FA.out]; have c3 := H74.out.c0; obtain ⟨w71, f70, r73, F72, H68, G69⟩ := St.putA H74 G75 (by omega) ⟨#[69, 84]⟩ (by decide) a wa.out)
      all_goals
        clear c0 c3 r73 HD GD H2 G3 H74 G75 wa
        have EA77 : Aside0 (f70 = B.tpA f now) := ⟨by
          rw [B.tpA_2 HB1.out HC5.out, F72.out, FA.out]
          all_goals first | rfl | (simp only [B.setET, show b2i false = (0 : Int) from rfl, show b2i true = (1 : Int) from rfl]; done) | (simp only [B.setET, show b2i false = (0 : Int) from rfl, show b2i true = (1 : Int) from rfl]; rfl)⟩
        go_wp2_with fail
        refine (on_calls H68.out ⟨#[81]⟩ (by decide)).mono ?_
        rintro e w' ⟨rfl, rfl⟩
        cases hb78 : (f70 ⟨#[81]⟩ == 1) with
        | true =>
          have HB78 := Aside0.mk hb78
          clear hb78
          have EA79 : Aside0 (f70 = B.tpB f70 now) := ⟨by
            rw [B.tpB_1 HB78.out]
            all_goals first | rfl | (simp only [B.setET, show b2i false = (0 : Int) from rfl, show b2i true = (1 : Int) from rfl]; done) | (simp only [B.setET, show b2i false = (0 : Int) from rfl, show b2i true = (1 : Int) from rfl]; rfl)⟩
          go_wp2_with fail
          refine (on_calls H68.out ⟨#[73, 78]⟩ (by decide)).mono ?_
          rintro e w' ⟨rfl, rfl⟩
          go_wp2_with fail
          refine (set_callsA H68 G69 (by omega) ⟨#[77]⟩ (by decide) _).mono ?_
          rintro e w81 ⟨f80, rfl, F82, H83, G84⟩
          clear H68 G69
          go_wp2
          go_end0
          have he85 : f80 = B.tpF f now := by
            rw [F82.out, B.tpF, ← EA77.out, ← EA79.out, B.after]
          exact ⟨rfl, he85 ▸ H83.out.mono (by omega), G84.out⟩
        | false =>
          have HB78 := Aside0.mk hb78
          clear hb78
          go_wp2_with fail
          refine (rises_calls H68.out ⟨#[73, 78]⟩ ⟨#[77]⟩ (by decide) (by decide)).mono ?_
          rintro e w' ⟨rfl, rfl⟩
          cases hb86 : ((f70 ⟨#[73, 78]⟩ == 1) && !(f70 ⟨#[77]⟩ == 1)) with
          | true =>
            have HB86 := Aside0.mk hb86
            clear hb86
            go_wp2_with fail
            have HD := Aside0.mk H68.out.drew
            have GD := Aside0.mk (grown_drew G69.out)
            have hwf : (Lit.int .i64 now).wf = true := WalkArith.wf_i64 (by omega)
            have c0 := HD.out.c0
            have c1 := HD.out.c1
            obtain ⟨v0, st0, wa, w93, e1, e2, s2, g2, d0, d1⟩ := HD.out.entry (by omega) ⟨#[83]⟩ (by decide) now hwf
            obtain ⟨v3, st3, wc, w94, e3, e4, s4, g4, p0, p1⟩ := s2.entry (by omega) ⟨#[69, 84]⟩ (by decide) 0 (by decide)
            have k0 := s2.c0
            have k1 := s2.c1
            obtain ⟨f92, hf2⟩ : ∃ x, x = upd (upd f70 ⟨#[83]⟩ now) ⟨#[69, 84]⟩ 0 := ⟨_, rfl⟩
            rw [← hf2] at s4
            have F90 := Aside0.mk hf2
            have H87 := Aside0.mk s4
            have G88 := Aside0.mk (grown_trans (grown_trans GD.out g2) g4)
            clear s2 g2 s4 g4 hwf hf2
            go_region
            all_goals
              clear c0 c1 e1 e2 d0 d1 e3 e4 p0 p1 k0 k1 HD GD H68 G69
              go_wp2_with fail
              refine (span_calls H87.out).mono ?_
              rintro e w' ⟨rfl, rfl⟩
              go_wp2_with fail
              refine (set_callsA H87 G88 (by omega) ⟨#[81]⟩ (by decide) _).mono ?_
              rintro e w96 ⟨f95, rfl, F97, H98, G99⟩
              clear H87 G88
              have EA100 : Aside0 (f95 = B.tpB f70 now) := ⟨by
                rw [B.tpB_2 HB78.out HB86.out, F97.out, F90.out]
                all_goals first | rfl | (simp only [B.setET, show b2i false = (0 : Int) from rfl, show b2i true = (1 : Int) from rfl]; done) | (simp only [B.setET, show b2i false = (0 : Int) from rfl, show b2i true = (1 : Int) from rfl]; rfl)⟩
              go_wp2_with fail
              refine (on_calls H98.out ⟨#[73, 78]⟩ (by decide)).mono ?_
              rintro e w' ⟨rfl, rfl⟩
              go_wp2_with fail
              refine (set_callsA H98 G99 (by omega) ⟨#[77]⟩ (by decide) _).mono ?_
              rintro e w102 ⟨f101, rfl, F103, H104, G105⟩
              clear H98 G99
              go_wp2
              go_end0
              have he106 : f101 = B.tpF f now := by
                rw [F103.out, B.tpF, ← EA77.out, ← EA100.out, B.after]
              exact ⟨rfl, he106 ▸ H104.out.mono (by omega), G105.out⟩
          | false =>
            have HB86 := Aside0.mk hb86
            clear hb86
            go_wp2_with fail
            refine (on_calls H68.out ⟨#[73, 78]⟩ (by decide)).mono ?_
            rintro e w' ⟨rfl, rfl⟩
            cases hb107 : (f70 ⟨#[73, 78]⟩ == 1) with
            | true =>
              have HB107 := Aside0.mk hb107
              clear hb107
              have EA108 : Aside0 (f70 = B.tpB f70 now) := ⟨by
                rw [B.tpB_3 HB78.out HB86.out HB107.out]
                all_goals first | rfl | (simp only [B.setET, show b2i false = (0 : Int) from rfl, show b2i true = (1 : Int) from rfl]; done) | (simp only [B.setET, show b2i false = (0 : Int) from rfl, show b2i true = (1 : Int) from rfl]; rfl)⟩
              go_wp2_with fail
              refine (on_calls H68.out ⟨#[73, 78]⟩ (by decide)).mono ?_
              rintro e w' ⟨rfl, rfl⟩
              go_wp2_with fail
              refine (set_callsA H68 G69 (by omega) ⟨#[77]⟩ (by decide) _).mono ?_
              rintro e w110 ⟨f109, rfl, F111, H112, G113⟩
              clear H68 G69
              go_wp2
              go_end0
              have he114 : f109 = B.tpF f now := by
                rw [F111.out, B.tpF, ← EA77.out, ← EA108.out, B.after]
              exact ⟨rfl, he114 ▸ H112.out.mono (by omega), G113.out⟩
            | false =>
              have HB107 := Aside0.mk hb107
              clear hb107
              obtain ⟨w116, f115, r120, F117, H118, G119⟩ := St.putA H68 G69 (by omega) ⟨#[69, 84]⟩ (by decide) (0) (by decide)
              have c0 := H68.out.c0
              have c1 := H68.out.c1
              go_wp2_with fail
              clear c0 c1
              clear r120 H68 G69
              have EA121 : Aside0 (f115 = B.tpB f70 now) := ⟨by
                rw [B.tpB_4 HB78.out HB86.out HB107.out, F117.out]
                all_goals first | rfl | (simp only [B.setET, show b2i false = (0 : Int) from rfl, show b2i true = (1 : Int) from rfl]; done) | (simp only [B.setET, show b2i false = (0 : Int) from rfl, show b2i true = (1 : Int) from rfl]; rfl)⟩
              refine (on_calls H118.out ⟨#[73, 78]⟩ (by decide)).mono ?_
              rintro e w' ⟨rfl, rfl⟩
              go_wp2_with fail
              refine (set_callsA H118 G119 (by omega) ⟨#[77]⟩ (by decide) _).mono ?_
              rintro e w123 ⟨f122, rfl, F124, H125, G126⟩
              clear H118 G119
              go_wp2
              go_end0
              have he127 : f122 = B.tpF f now := by
                rw [F124.out, B.tpF, ← EA77.out, ← EA121.out, B.after]
              exact ⟨rfl, he127 ▸ H125.out.mono (by omega), G126.out⟩
  | false =>
    have HB1 := Aside0.mk hb1
    clear hb1
    have EA128 : Aside0 (f = B.tpA f now) := ⟨by
      rw [B.tpA_3 HB1.out]
      all_goals first | rfl | (simp only [B.setET, show b2i false = (0 : Int) from rfl, show b2i true = (1 : Int) from rfl]; done) | (simp only [B.setET, show b2i false = (0 : Int) from rfl, show b2i true = (1 : Int) from rfl]; rfl)⟩
    go_wp2_with fail
    refine (on_calls H0.out ⟨#[81]⟩ (by decide)).mono ?_
    rintro e w' ⟨rfl, rfl⟩
    cases hb129 : (f ⟨#[81]⟩ == 1) with
    | true =>
      have HB129 := Aside0.mk hb129
      clear hb129
      have EA130 : Aside0 (f = B.tpB f now) := ⟨by
        rw [B.tpB_1 HB129.out]
        all_goals first | rfl | (simp only [B.setET, show b2i false = (0 : Int) from rfl, show b2i true = (1 : Int) from rfl]; done) | (simp only [B.setET, show b2i false = (0 : Int) from rfl, show b2i true = (1 : Int) from rfl]; rfl)⟩
      go_wp2_with fail
      refine (on_calls H0.out ⟨#[73, 78]⟩ (by decide)).mono ?_
      rintro e w' ⟨rfl, rfl⟩
      go_wp2_with fail
      refine (set_callsA H0 G0 (by omega) ⟨#[77]⟩ (by decide) _).mono ?_
      rintro e w132 ⟨f131, rfl, F133, H134, G135⟩
      clear H0 G0
      go_wp2
      go_end0
      have he136 : f131 = B.tpF f now := by
        rw [F133.out, B.tpF, ← EA128.out, ← EA130.out, B.after]
      exact ⟨rfl, he136 ▸ H134.out.mono (by omega), G135.out⟩
    | false =>
      have HB129 := Aside0.mk hb129
      clear hb129
      go_wp2_with fail
      refine (rises_calls H0.out ⟨#[73, 78]⟩ ⟨#[77]⟩ (by decide) (by decide)).mono ?_
      rintro e w' ⟨rfl, rfl⟩
      cases hb137 : ((f ⟨#[73, 78]⟩ == 1) && !(f ⟨#[77]⟩ == 1)) with
      | true =>
        have HB137 := Aside0.mk hb137
        clear hb137
        go_wp2_with fail
        have HD := Aside0.mk H0.out.drew
        have GD := Aside0.mk (grown_drew G0.out)
        have hwf : (Lit.int .i64 now).wf = true := WalkArith.wf_i64 (by omega)
        have c0 := HD.out.c0
        have c1 := HD.out.c1
        obtain ⟨v0, st0, wa, w144, e1, e2, s2, g2, d0, d1⟩ := HD.out.entry (by omega) ⟨#[83]⟩ (by decide) now hwf
        obtain ⟨v3, st3, wc, w145, e3, e4, s4, g4, p0, p1⟩ := s2.entry (by omega) ⟨#[69, 84]⟩ (by decide) 0 (by decide)
        have k0 := s2.c0
        have k1 := s2.c1
        obtain ⟨f143, hf2⟩ : ∃ x, x = upd (upd f ⟨#[83]⟩ now) ⟨#[69, 84]⟩ 0 := ⟨_, rfl⟩
        rw [← hf2] at s4
        have F141 := Aside0.mk hf2
        have H138 := Aside0.mk s4
        have G139 := Aside0.mk (grown_trans (grown_trans GD.out g2) g4)
        clear s2 g2 s4 g4 hwf hf2
        go_region
        all_goals
          clear c0 c1 e1 e2 d0 d1 e3 e4 p0 p1 k0 k1 HD GD H0 G0
          go_wp2_with fail
          refine (span_calls H138.out).mono ?_
          rintro e w' ⟨rfl, rfl⟩
          go_wp2_with fail
          refine (set_callsA H138 G139 (by omega) ⟨#[81]⟩ (by decide) _).mono ?_
          rintro e w147 ⟨f146, rfl, F148, H149, G150⟩
          clear H138 G139
          have EA151 : Aside0 (f146 = B.tpB f now) := ⟨by
            rw [B.tpB_2 HB129.out HB137.out, F148.out, F141.out]
            all_goals first | rfl | (simp only [B.setET, show b2i false = (0 : Int) from rfl, show b2i true = (1 : Int) from rfl]; done) | (simp only [B.setET, show b2i false = (0 : Int) from rfl, show b2i true = (1 : Int) from rfl]; rfl)⟩
          go_wp2_with fail
          refine (on_calls H149.out ⟨#[73, 78]⟩ (by decide)).mono ?_
          rintro e w' ⟨rfl, rfl⟩
          go_wp2_with fail
          refine (set_callsA H149 G150 (by omega) ⟨#[77]⟩ (by decide) _).mono ?_
          rintro e w153 ⟨f152, rfl, F154, H155, G156⟩
          clear H149 G150
          go_wp2
          go_end0
          have he157 : f152 = B.tpF f now := by
            rw [F154.out, B.tpF, ← EA128.out, ← EA151.out, B.after]
          exact ⟨rfl, he157 ▸ H155.out.mono (by omega), G156.out⟩
      | false =>
        have HB137 := Aside0.mk hb137
        clear hb137
        go_wp2_with fail
        refine (on_calls H0.out ⟨#[73, 78]⟩ (by decide)).mono ?_
        rintro e w' ⟨rfl, rfl⟩
        cases hb158 : (f ⟨#[73, 78]⟩ == 1) with
        | true =>
          have HB158 := Aside0.mk hb158
          clear hb158
          have EA159 : Aside0 (f = B.tpB f now) := ⟨by
            rw [B.tpB_3 HB129.out HB137.out HB158.out]
            all_goals first | rfl | (simp only [B.setET, show b2i false = (0 : Int) from rfl, show b2i true = (1 : Int) from rfl]; done) | (simp only [B.setET, show b2i false = (0 : Int) from rfl, show b2i true = (1 : Int) from rfl]; rfl)⟩
          go_wp2_with fail
          refine (on_calls H0.out ⟨#[73, 78]⟩ (by decide)).mono ?_
          rintro e w' ⟨rfl, rfl⟩
          go_wp2_with fail
          refine (set_callsA H0 G0 (by omega) ⟨#[77]⟩ (by decide) _).mono ?_
          rintro e w161 ⟨f160, rfl, F162, H163, G164⟩
          clear H0 G0
          go_wp2
          go_end0
          have he165 : f160 = B.tpF f now := by
            rw [F162.out, B.tpF, ← EA128.out, ← EA159.out, B.after]
          exact ⟨rfl, he165 ▸ H163.out.mono (by omega), G164.out⟩
        | false =>
          have HB158 := Aside0.mk hb158
          clear hb158
          obtain ⟨w167, f166, r171, F168, H169, G170⟩ := St.putA H0 G0 (by omega) ⟨#[69, 84]⟩ (by decide) (0) (by decide)
          have c0 := H0.out.c0
          have c1 := H0.out.c1
          go_wp2_with fail
          clear c0 c1
          clear r171 H0 G0
          have EA172 : Aside0 (f166 = B.tpB f now) := ⟨by
            rw [B.tpB_4 HB129.out HB137.out HB158.out, F168.out]
            all_goals first | rfl | (simp only [B.setET, show b2i false = (0 : Int) from rfl, show b2i true = (1 : Int) from rfl]; done) | (simp only [B.setET, show b2i false = (0 : Int) from rfl, show b2i true = (1 : Int) from rfl]; rfl)⟩
          refine (on_calls H169.out ⟨#[73, 78]⟩ (by decide)).mono ?_
          rintro e w' ⟨rfl, rfl⟩
          go_wp2_with fail
          refine (set_callsA H169 G170 (by omega) ⟨#[77]⟩ (by decide) _).mono ?_
          rintro e w174 ⟨f173, rfl, F175, H176, G177⟩
          clear H169 G170
          go_wp2
          go_end0
          have he178 : f173 = B.tpF f now := by
            rw [F175.out, B.tpF, ← EA128.out, ← EA172.out, B.after]
          exact ⟨rfl, he178 ▸ H176.out.mono (by omega), G177.out⟩

end Go.Proofs.Ytfadafgnahhmdaa.X
