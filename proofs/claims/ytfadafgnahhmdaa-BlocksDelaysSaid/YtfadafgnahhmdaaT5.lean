import Derived.Test.YtfadafgnahhmdaaT0
namespace Go.Proofs.Ytfadafgnahhmdaa.X
open Go.RowKit Go.Proofs.YtfadafgnahhmdaaW.PrintWords Go.Proofs.YtfadafgnahhmdaaW.PrintLast Go.Proofs.YtfadafgnahhmdaaW.PrintMore Go.Proofs.Ytfadafgnahhmdaa.E
attribute [local go_sem] max2_int min2_int max_two min_two max_three min_three max_four min_four
set_option linter.unusedVariables false
set_option linter.unusedSimpArgs false

open B (upd b2i mnI sinceF spanF)
set_option maxHeartbeats 8000000 in
set_option maxRecDepth 100000 in
theorem tof_calls {w : World} {sb mb n : Nat} {f : ByteArray → Int} {now : Int} (h : St w sb mb n f now) (hn : n ≤ 100) (h0 : 0 ≤ now) (h1 : now ≤ 4611686018427387904) :
    Calls Try.prog 61 #[.pointer (some ⟨sb, 0, none⟩)] w fun e w' => e = .returned (.tuple #[]) ∧ St w' sb mb (n + 60) (B.tofF f now) now ∧ w.grownBy w' (some mb) := by
  have hu74 := Try.underlying74
  have H0 := Aside0.mk h
  have G0 := Aside0.mk (grown_refl w (some mb))
  clear h
  go_enter Try.func61, Try.ntmps61
  go_wp2_with fail
  refine (on_calls H0.out ⟨#[73, 78]⟩ (by decide)).mono ?_
  rintro e w' ⟨rfl, rfl⟩
  cases hb1 : (f ⟨#[73, 78]⟩ == 1) with
  | true =>
    have HB1 := Aside0.mk hb1
    clear hb1
    go_wp2_with fail
    refine (set_callsA H0 G0 (by omega) ⟨#[81]⟩ (by decide) true).mono ?_
    rintro e w3 ⟨f2, rfl, F4, H5, G6⟩
    clear H0 G0
    obtain ⟨w8, f7, r12, F9, H10, G11⟩ := St.putA H5 G6 (by omega) ⟨#[69, 84]⟩ (by decide) (0) (by decide)
    have c0 := H5.out.c0
    have c1 := H5.out.c1
    go_wp2_with fail
    clear c0 c1
    clear r12 H5 G6
    refine (on_calls H10.out ⟨#[73, 78]⟩ (by decide)).mono ?_
    rintro e w' ⟨rfl, rfl⟩
    go_wp2_with fail
    refine (set_callsA H10 G11 (by omega) ⟨#[77]⟩ (by decide) _).mono ?_
    rintro e w14 ⟨f13, rfl, F15, H16, G17⟩
    clear H10 G11
    go_wp2
    go_end0
    have he18 : f13 = B.tofF f now := by
      have q19 := HB1.out
      (try simp only [F15.out, F9.out, F4.out] at q19)
      rw [F15.out]
      rw [F9.out]
      rw [F4.out]
      simp only [B.tofF, B.tofB, B.tofC, B.setET, B.after, F15.out, F9.out, F4.out, q19, Bool.true_or, Bool.false_or, Bool.or_true, Bool.or_false, Bool.true_and, Bool.false_and, Bool.and_true, Bool.and_false, Bool.not_true, Bool.not_false, if_true, if_false, Bool.false_eq_true, reduceIte, show b2i false = (0 : Int) from rfl, show b2i true = (1 : Int) from rfl]
    exact ⟨rfl, he18 ▸ H16.out.mono (by omega), G17.out⟩
  | false =>
    have HB1 := Aside0.mk hb1
    clear hb1
    go_wp2_with fail
    refine (on_calls H0.out ⟨#[77]⟩ (by decide)).mono ?_
    rintro e w' ⟨rfl, rfl⟩
    cases hb20 : (f ⟨#[77]⟩ == 1) with
    | true =>
      have HB20 := Aside0.mk hb20
      clear hb20
      go_wp2_with fail
      have c0 := H0.out.c0
      have c1 := H0.out.c1
      go_still_tail 8, (by kernel_rfl)
      change wpList _ _ _ _ _ w.drew
      have H21 := Aside0.mk H0.out.drew
      have G22 := Aside0.mk (grown_drew G0.out)
      clear c0 c1 H0 G0
      generalize w.drew = w23 at H21 G22 ⊢
      obtain ⟨w25, f24, r29, F26, H27, G28⟩ := St.putA H21 G22 (by omega) ⟨#[83]⟩ (by decide) (now) (WalkArith.wf_i64 (by omega))
      go_wp2_with fail
      clear r29 H21 G22
      refine (on_calls H27.out ⟨#[81]⟩ (by decide)).mono ?_
      rintro e w' ⟨rfl, rfl⟩
      cases hb30 : (f24 ⟨#[81]⟩ == 1) with
      | true =>
        have HB30 := Aside0.mk hb30
        clear hb30
        go_wp2_with fail
        refine (since_callsA H27 G28 h0 h1).mono ?_
        rintro e w33 ⟨rfl, H31, G32⟩
        clear H27 G28
        go_wp2_with fail
        refine (span_calls H31.out).mono ?_
        rintro e w' ⟨rfl, rfl⟩
        go_wp2_with fail
        refine (set_callsA H31 G32 (by omega) ⟨#[81]⟩ (by decide) _).mono ?_
        rintro e w35 ⟨f34, rfl, F36, H37, G38⟩
        clear H31 G32
        go_wp2_with fail
        obtain ⟨a, ha⟩ : ∃ a, a = sinceF f34 now := ⟨_, rfl⟩
        have Sa := since_bd f34 h0 h1
        rw [← ha] at Sa
        have Fa := Aside0.mk ha
        clear ha
        obtain ⟨b, hb⟩ : ∃ b, b = spanF f34 := ⟨_, rfl⟩
        have Sb := span_bd H37
        rw [← hb] at Sb
        have Fb := Aside0.mk hb
        clear hb
        have wa := Aside0.mk (WalkArith.wf_i64 (n := a) (by omega))
        have wb := Aside0.mk (WalkArith.wf_i64 (n := b) (by omega))
        clear Sa Sb
        by_cases hlt : b < a
        ·
          have HM : Aside0 (b = B.mnI (sinceF f34 now) (spanF f34)) := ⟨by rw [← Fa.out, ← Fb.out]; exact (if_pos hlt).symm⟩
          have hlt2 : decide (b < a) = true := decide_eq_true hlt
          have c0 := H37.out.drew.c0
          have HD := Aside0.mk H37.out.drew
          have GD := Aside0.mk (grown_drew G38.out)
          go_region_with (first | (go_at_call 78; (with_reducible refine (since_callsA HD GD h0 h1).mono ?_); rintro e w47 ⟨rfl, H45, G46⟩; rw [← Fa.out]; have c3 := H45.out.c0; obtain ⟨w42, f41, r44, F43, H39, G40⟩ := St.putA H45 G46 (by omega) ⟨#[69, 84]⟩ (by decide) b wb.out) | (go_at_call 79; (with_reducible refine (span_calls H45.out).mono ?_); rintro e w' ⟨rfl, rfl⟩; rw [← Fb.out]))
          all_goals
            clear c0 c3 r44 HD GD H37 G38 H45 G46 wa wb hlt hlt2
            go_wp2_with fail
            refine (on_calls H39.out ⟨#[73, 78]⟩ (by decide)).mono ?_
            rintro e w' ⟨rfl, rfl⟩
            go_wp2_with fail
            refine (set_callsA H39 G40 (by omega) ⟨#[77]⟩ (by decide) _).mono ?_
            rintro e w49 ⟨f48, rfl, F50, H51, G52⟩
            clear H39 G40
            go_wp2
            go_end0
            have he53 : f48 = B.tofF f now := by
              have q54 := HB1.out
              (try simp only [F50.out, F43.out, HM.out, F36.out, F26.out] at q54)
              have q55 := HB20.out
              (try simp only [F50.out, F43.out, HM.out, F36.out, F26.out] at q55)
              have q56 := HB30.out
              (try simp only [F50.out, F43.out, HM.out, F36.out, F26.out] at q56)
              rw [F50.out]
              rw [F43.out]
              rw [HM.out]
              rw [F36.out]
              rw [F26.out]
              simp only [B.tofF, B.tofB, B.tofC, B.setET, B.after, F50.out, F43.out, HM.out, F36.out, F26.out, q54, q55, q56, Bool.true_or, Bool.false_or, Bool.or_true, Bool.or_false, Bool.true_and, Bool.false_and, Bool.and_true, Bool.and_false, Bool.not_true, Bool.not_false, if_true, if_false, Bool.false_eq_true, reduceIte, show b2i false = (0 : Int) from rfl, show b2i true = (1 : Int) from rfl]
            exact ⟨rfl, he53 ▸ H51.out.mono (by omega), G52.out⟩
        ·
          have HM : Aside0 (a = B.mnI (sinceF f34 now) (spanF f34)) := ⟨by rw [← Fa.out, ← Fb.out]; exact (if_neg hlt).symm⟩
          have hlt2 : decide (b < a) = false := decide_eq_false hlt
          have c0 := H37.out.drew.c0
          have HD := Aside0.mk H37.out.drew
          have GD := Aside0.mk (grown_drew G38.out)
          go_region_with (first | (go_at_call 78; (with_reducible refine (since_callsA HD GD h0 h1).mono ?_); rintro e w65 ⟨rfl, H63, G64⟩; rw [← Fa.out]; have c3 := H63.out.c0; obtain ⟨w60, f59, r62, F61, H57, G58⟩ := St.putA H63 G64 (by omega) ⟨#[69, 84]⟩ (by decide) a wa.out) | (go_at_call 79; (with_reducible refine (span_calls H63.out).mono ?_); rintro e w' ⟨rfl, rfl⟩; rw [← Fb.out]))
          all_goals
            clear c0 c3 r62 HD GD H37 G38 H63 G64 wa wb hlt hlt2
            go_wp2_with fail
            refine (on_calls H57.out ⟨#[73, 78]⟩ (by decide)).mono ?_
            rintro e w' ⟨rfl, rfl⟩
            go_wp2_with fail
            refine (set_callsA H57 G58 (by omega) ⟨#[77]⟩ (by decide) _).mono ?_
            rintro e w67 ⟨f66, rfl, F68, H69, G70⟩
            clear H57 G58
            go_wp2
            go_end0
            have he71 : f66 = B.tofF f now := by
              have q72 := HB1.out
              (try simp only [F68.out, F61.out, HM.out, F36.out, F26.out] at q72)
              have q73 := HB20.out
              (try simp only [F68.out, F61.out, HM.out, F36.out, F26.out] at q73)
              have q74 := HB30.out
              (try simp only [F68.out, F61.out, HM.out, F36.out, F26.out] at q74)
              rw [F68.out]
              rw [F61.out]
              rw [HM.out]
              rw [F36.out]
              rw [F26.out]
              simp only [B.tofF, B.tofB, B.tofC, B.setET, B.after, F68.out, F61.out, HM.out, F36.out, F26.out, q72, q73, q74, Bool.true_or, Bool.false_or, Bool.or_true, Bool.or_false, Bool.true_and, Bool.false_and, Bool.and_true, Bool.and_false, Bool.not_true, Bool.not_false, if_true, if_false, Bool.false_eq_true, reduceIte, show b2i false = (0 : Int) from rfl, show b2i true = (1 : Int) from rfl]
            exact ⟨rfl, he71 ▸ H69.out.mono (by omega), G70.out⟩
      | false =>
        have HB30 := Aside0.mk hb30
        clear hb30
        go_wp2_with fail
        refine (on_calls H27.out ⟨#[73, 78]⟩ (by decide)).mono ?_
        rintro e w' ⟨rfl, rfl⟩
        go_wp2_with fail
        refine (set_callsA H27 G28 (by omega) ⟨#[77]⟩ (by decide) _).mono ?_
        rintro e w76 ⟨f75, rfl, F77, H78, G79⟩
        clear H27 G28
        go_wp2
        go_end0
        have he80 : f75 = B.tofF f now := by
          have q81 := HB1.out
          (try simp only [F77.out, F26.out] at q81)
          have q82 := HB20.out
          (try simp only [F77.out, F26.out] at q82)
          have q83 := HB30.out
          (try simp only [F77.out, F26.out] at q83)
          rw [F77.out]
          rw [F26.out]
          simp only [B.tofF, B.tofB, B.tofC, B.setET, B.after, F77.out, F26.out, q81, q82, q83, Bool.true_or, Bool.false_or, Bool.or_true, Bool.or_false, Bool.true_and, Bool.false_and, Bool.and_true, Bool.and_false, Bool.not_true, Bool.not_false, if_true, if_false, Bool.false_eq_true, reduceIte, show b2i false = (0 : Int) from rfl, show b2i true = (1 : Int) from rfl]
        exact ⟨rfl, he80 ▸ H78.out.mono (by omega), G79.out⟩
    | false =>
      have HB20 := Aside0.mk hb20
      clear hb20
      go_wp2_with fail
      refine (on_calls H0.out ⟨#[81]⟩ (by decide)).mono ?_
      rintro e w' ⟨rfl, rfl⟩
      cases hb84 : (f ⟨#[81]⟩ == 1) with
      | true =>
        have HB84 := Aside0.mk hb84
        clear hb84
        go_wp2_with fail
        refine (since_callsA H0 G0 h0 h1).mono ?_
        rintro e w87 ⟨rfl, H85, G86⟩
        clear H0 G0
        go_wp2_with fail
        refine (span_calls H85.out).mono ?_
        rintro e w' ⟨rfl, rfl⟩
        go_wp2_with fail
        refine (set_callsA H85 G86 (by omega) ⟨#[81]⟩ (by decide) _).mono ?_
        rintro e w89 ⟨f88, rfl, F90, H91, G92⟩
        clear H85 G86
        go_wp2_with fail
        obtain ⟨a, ha⟩ : ∃ a, a = sinceF f88 now := ⟨_, rfl⟩
        have Sa := since_bd f88 h0 h1
        rw [← ha] at Sa
        have Fa := Aside0.mk ha
        clear ha
        obtain ⟨b, hb⟩ : ∃ b, b = spanF f88 := ⟨_, rfl⟩
        have Sb := span_bd H91
        rw [← hb] at Sb
        have Fb := Aside0.mk hb
        clear hb
        have wa := Aside0.mk (WalkArith.wf_i64 (n := a) (by omega))
        have wb := Aside0.mk (WalkArith.wf_i64 (n := b) (by omega))
        clear Sa Sb
        by_cases hlt : b < a
        ·
          have HM : Aside0 (b = B.mnI (sinceF f88 now) (spanF f88)) := ⟨by rw [← Fa.out, ← Fb.out]; exact (if_pos hlt).symm⟩
          have hlt2 : decide (b < a) = true := decide_eq_true hlt
          have c0 := H91.out.drew.c0
          have HD := Aside0.mk H91.out.drew
          have GD := Aside0.mk (grown_drew G92.out)
          go_region_with (first | (go_at_call 78; (with_reducible refine (since_callsA HD GD h0 h1).mono ?_); rintro e w101 ⟨rfl, H99, G100⟩; rw [← Fa.out]; have c3 := H99.out.c0; obtain ⟨w96, f95, r98, F97, H93, G94⟩ := St.putA H99 G100 (by omega) ⟨#[69, 84]⟩ (by decide) b wb.out) | (go_at_call 79; (with_reducible refine (span_calls H99.out).mono ?_); rintro e w' ⟨rfl, rfl⟩; rw [← Fb.out]))
          all_goals
            clear c0 c3 r98 HD GD H91 G92 H99 G100 wa wb hlt hlt2
            go_wp2_with fail
            refine (on_calls H93.out ⟨#[73, 78]⟩ (by decide)).mono ?_
            rintro e w' ⟨rfl, rfl⟩
            go_wp2_with fail
            refine (set_callsA H93 G94 (by omega) ⟨#[77]⟩ (by decide) _).mono ?_
            rintro e w103 ⟨f102, rfl, F104, H105, G106⟩
            clear H93 G94
            go_wp2
            go_end0
            have he107 : f102 = B.tofF f now := by
              have q108 := HB1.out
              (try simp only [F104.out, F97.out, HM.out, F90.out] at q108)
              have q109 := HB20.out
              (try simp only [F104.out, F97.out, HM.out, F90.out] at q109)
              have q110 := HB84.out
              (try simp only [F104.out, F97.out, HM.out, F90.out] at q110)
              rw [F104.out]
              rw [F97.out]
              rw [HM.out]
              rw [F90.out]
              simp only [B.tofF, B.tofB, B.tofC, B.setET, B.after, F104.out, F97.out, HM.out, F90.out, q108, q109, q110, Bool.true_or, Bool.false_or, Bool.or_true, Bool.or_false, Bool.true_and, Bool.false_and, Bool.and_true, Bool.and_false, Bool.not_true, Bool.not_false, if_true, if_false, Bool.false_eq_true, reduceIte, show b2i false = (0 : Int) from rfl, show b2i true = (1 : Int) from rfl]
            exact ⟨rfl, he107 ▸ H105.out.mono (by omega), G106.out⟩
        ·
          have HM : Aside0 (a = B.mnI (sinceF f88 now) (spanF f88)) := ⟨by rw [← Fa.out, ← Fb.out]; exact (if_neg hlt).symm⟩
          have hlt2 : decide (b < a) = false := decide_eq_false hlt
          have c0 := H91.out.drew.c0
          have HD := Aside0.mk H91.out.drew
          have GD := Aside0.mk (grown_drew G92.out)
          go_region_with (first | (go_at_call 78; (with_reducible refine (since_callsA HD GD h0 h1).mono ?_); rintro e w119 ⟨rfl, H117, G118⟩; rw [← Fa.out]; have c3 := H117.out.c0; obtain ⟨w114, f113, r116, F115, H111, G112⟩ := St.putA H117 G118 (by omega) ⟨#[69, 84]⟩ (by decide) a wa.out) | (go_at_call 79; (with_reducible refine (span_calls H117.out).mono ?_); rintro e w' ⟨rfl, rfl⟩; rw [← Fb.out]))
          all_goals
            clear c0 c3 r116 HD GD H91 G92 H117 G118 wa wb hlt hlt2
            go_wp2_with fail
            refine (on_calls H111.out ⟨#[73, 78]⟩ (by decide)).mono ?_
            rintro e w' ⟨rfl, rfl⟩
            go_wp2_with fail
            refine (set_callsA H111 G112 (by omega) ⟨#[77]⟩ (by decide) _).mono ?_
            rintro e w121 ⟨f120, rfl, F122, H123, G124⟩
            clear H111 G112
            go_wp2
            go_end0
            have he125 : f120 = B.tofF f now := by
              have q126 := HB1.out
              (try simp only [F122.out, F115.out, HM.out, F90.out] at q126)
              have q127 := HB20.out
              (try simp only [F122.out, F115.out, HM.out, F90.out] at q127)
              have q128 := HB84.out
              (try simp only [F122.out, F115.out, HM.out, F90.out] at q128)
              rw [F122.out]
              rw [F115.out]
              rw [HM.out]
              rw [F90.out]
              simp only [B.tofF, B.tofB, B.tofC, B.setET, B.after, F122.out, F115.out, HM.out, F90.out, q126, q127, q128, Bool.true_or, Bool.false_or, Bool.or_true, Bool.or_false, Bool.true_and, Bool.false_and, Bool.and_true, Bool.and_false, Bool.not_true, Bool.not_false, if_true, if_false, Bool.false_eq_true, reduceIte, show b2i false = (0 : Int) from rfl, show b2i true = (1 : Int) from rfl]
            exact ⟨rfl, he125 ▸ H123.out.mono (by omega), G124.out⟩
      | false =>
        have HB84 := Aside0.mk hb84
        clear hb84
        go_wp2_with fail
        refine (on_calls H0.out ⟨#[73, 78]⟩ (by decide)).mono ?_
        rintro e w' ⟨rfl, rfl⟩
        go_wp2_with fail
        refine (set_callsA H0 G0 (by omega) ⟨#[77]⟩ (by decide) _).mono ?_
        rintro e w130 ⟨f129, rfl, F131, H132, G133⟩
        clear H0 G0
        go_wp2
        go_end0
        have he134 : f129 = B.tofF f now := by
          have q135 := HB1.out
          (try simp only [F131.out] at q135)
          have q136 := HB20.out
          (try simp only [F131.out] at q136)
          have q137 := HB84.out
          (try simp only [F131.out] at q137)
          rw [F131.out]
          simp only [B.tofF, B.tofB, B.tofC, B.setET, B.after, F131.out, q135, q136, q137, Bool.true_or, Bool.false_or, Bool.or_true, Bool.or_false, Bool.true_and, Bool.false_and, Bool.and_true, Bool.and_false, Bool.not_true, Bool.not_false, if_true, if_false, Bool.false_eq_true, reduceIte, show b2i false = (0 : Int) from rfl, show b2i true = (1 : Int) from rfl]
        exact ⟨rfl, he134 ▸ H132.out.mono (by omega), G133.out⟩

end Go.Proofs.Ytfadafgnahhmdaa.X

