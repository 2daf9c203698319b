import Derived.Test.YtfadafgnahhmdaaHC
set_option linter.unusedVariables false
set_option linter.unusedSimpArgs false
namespace Go.Proofs.Ytfadafgnahhmdaa.X
open Go.RowKit Go.Proofs.YtfadafgnahhmdaaW.PrintWords Go.Proofs.YtfadafgnahhmdaaW.PrintLast Go.Proofs.YtfadafgnahhmdaaW.PrintMore Go.Proofs.Ytfadafgnahhmdaa.E
attribute [local go_sem] max2_int min2_int max_two min_two max_three min_three max_four min_four
set_option linter.unusedVariables false
set_option linter.unusedSimpArgs false

open B (upd b2i mnI sinceF spanF)
set_option maxHeartbeats 8000000 in
set_option maxRecDepth 100000 in
theorem ton_calls {w : World} {sb mb n : Nat} {f : ByteArray → Int} {now : Int} (h : St w sb mb n f now) (hn : n ≤ 100) (h0 : 0 ≤ now) (h1 : now ≤ 4611686018427387904) :
    Calls Try.prog 60 #[.pointer (some ⟨sb, 0, none⟩)] w fun e w' => e = .returned (.tuple #[]) ∧ St w' sb mb (n + 60) (B.tonF f now) now ∧ w.grownBy w' (some mb) := by
  have hu74 := Try.underlying74
  have H0 := Aside0.mk h
  have G0 := Aside0.mk (grown_refl w (some mb))
  clear h
  go_enter Try.func60, Try.ntmps60
  go_wp2_with fail
  refine (on_calls H0.out ⟨#[73, 78]⟩ (by decide)).mono ?_
  rintro e w' ⟨rfl, rfl⟩
  cases hb1 : (f ⟨#[73, 78]⟩ == 1) with
  | true =>
    have HB1 := Aside0.mk hb1
    clear hb1
    go_wp2_with fail
    refine (on_calls H0.out ⟨#[77]⟩ (by decide)).mono ?_
    rintro e w' ⟨rfl, rfl⟩
    cases hb2 : (f ⟨#[77]⟩ == 1) with
    | true =>
      have HB2 := Aside0.mk hb2
      clear hb2
      go_wp2_with fail
      refine (since_callsA H0 G0 h0 h1).mono ?_
      rintro e w5 ⟨rfl, H3, G4⟩
      clear H0 G0
      go_wp2_with fail
      refine (span_calls H3.out).mono ?_
      rintro e w' ⟨rfl, rfl⟩
      go_wp2_with fail
      refine (set_callsA H3 G4 (by omega) ⟨#[81]⟩ (by decide) _).mono ?_
      rintro e w7 ⟨f6, rfl, F8, H9, G10⟩
      clear H3 G4
      go_wp2_with fail
      obtain ⟨a, ha⟩ : ∃ a, a = sinceF f6 now := ⟨_, rfl⟩
      have Sa := since_bd f6 h0 h1
      rw [← ha] at Sa
      have Fa := Aside0.mk ha
      clear ha
      obtain ⟨b, hb⟩ : ∃ b, b = spanF f6 := ⟨_, rfl⟩
      have Sb := span_bd H9
      rw [← hb] at Sb
      have Fb := Aside0.mk hb
      clear hb
      have wa := Aside0.mk (WalkArith.wf_i64 (n := a) (by omega))
      have wb := Aside0.mk (WalkArith.wf_i64 (n := b) (by omega))
      clear Sa Sb
      by_cases hlt : b < a
      ·
        have HM : Aside0 (b = B.mnI (sinceF f6 now) (spanF f6)) := ⟨by rw [← Fa.out, ← Fb.out]; exact (if_pos hlt).symm⟩
        have hlt2 : decide (b < a) = true := decide_eq_true hlt
        have c0 := H9.out.drew.c0
        have HD := Aside0.mk H9.out.drew
        have GD := Aside0.mk (grown_drew G10.out)
        go_region_with (first | (go_at_call 78; (with_reducible refine (since_callsA HD GD h0 h1).mono ?_); rintro e w19 ⟨rfl, H17, G18⟩; rw [← Fa.out]; have c3 := H17.out.c0; obtain ⟨w14, f13, r16, F15, H11, G12⟩ := St.putA H17 G18 (by omega) ⟨#[69, 84]⟩ (by decide) b wb.out) | (go_at_call 79; (with_reducible refine (span_calls H17.out).mono ?_); rintro e w' ⟨rfl, rfl⟩; rw [← Fb.out]))
        all_goals
          clear c0 c3 r16 HD GD H9 G10 H17 G18 wa wb hlt hlt2
          go_wp2_with fail
          refine (on_calls H11.out ⟨#[73, 78]⟩ (by decide)).mono ?_
          rintro e w' ⟨rfl, rfl⟩
          go_wp2_with fail
          refine (set_callsA H11 G12 (by omega) ⟨#[77]⟩ (by decide) _).mono ?_
          rintro e w21 ⟨f20, rfl, F22, H23, G24⟩
          clear H11 G12
          go_wp2
          go_end0
          have he25 : f20 = B.tonF f now := by
            have q26 := HB1.out
            (try simp only [F22.out, F15.out, HM.out, F8.out] at q26)
            have q27 := HB2.out
            (try simp only [F22.out, F15.out, HM.out, F8.out] at q27)
            rw [F22.out]
            rw [F15.out]
            rw [HM.out]
            rw [F8.out]
            simp only [B.tonF, B.tonB, B.setET, B.after, F22.out, F15.out, HM.out, F8.out, q26, q27, Bool.true_or, Bool.false_or, Bool.or_true, Bool.or_false, Bool.true_and, Bool.false_and, Bool.and_true, Bool.and_false, Bool.not_true, Bool.not_false, if_true, if_false, Bool.false_eq_true, reduceIte, show b2i false = (0 : Int) from rfl, show b2i true = (1 : Int) from rfl]
          exact ⟨rfl, he25 ▸ H23.out.mono (by omega), G24.out⟩
      ·
        have HM : Aside0 (a = B.mnI (sinceF f6 now) (spanF f6)) := ⟨by rw [← Fa.out, ← Fb.out]; exact (if_neg hlt).symm⟩
        have hlt2 : decide (b < a) = false := decide_eq_false hlt
        have c0 := H9.out.drew.c0
        have HD := Aside0.mk H9.out.drew
        have GD := Aside0.mk (grown_drew G10.out)
        go_region_with (first | (go_at_call 78; (with_reducible refine (since_callsA HD GD h0 h1).mono ?_); rintro e w36 ⟨rfl, H34, G35⟩; rw [← Fa.out]; have c3 := H34.out.c0; obtain ⟨w31, f30, r33, F32, H28, G29⟩ := St.putA H34 G35 (by omega) ⟨#[69, 84]⟩ (by decide) a wa.out) | (go_at_call 79; (with_reducible refine (span_calls H34.out).mono ?_); rintro e w' ⟨rfl, rfl⟩; rw [← Fb.out]))
        all_goals
          clear c0 c3 r33 HD GD H9 G10 H34 G35 wa wb hlt hlt2
          go_wp2_with fail
          refine (on_calls H28.out ⟨#[73, 78]⟩ (by decide)).mono ?_
          rintro e w' ⟨rfl, rfl⟩
          go_wp2_with fail
          refine (set_callsA H28 G29 (by omega) ⟨#[77]⟩ (by decide) _).mono ?_
          rintro e w38 ⟨f37, rfl, F39, H40, G41⟩
          clear H28 G29
          go_wp2
          go_end0
          have he42 : f37 = B.tonF f now := by
            have q43 := HB1.out
            (try simp only [F39.out, F32.out, HM.out, F8.out] at q43)
            have q44 := HB2.out
            (try simp only [F39.out, F32.out, HM.out, F8.out] at q44)
            rw [F39.out]
            rw [F32.out]
            rw [HM.out]
            rw [F8.out]
            simp only [B.tonF, B.tonB, B.setET, B.after, F39.out, F32.out, HM.out, F8.out, q43, q44, Bool.true_or, Bool.false_or, Bool.or_true, Bool.or_false, Bool.true_and, Bool.false_and, Bool.and_true, Bool.and_false, Bool.not_true, Bool.not_false, if_true, if_false, Bool.false_eq_true, reduceIte, show b2i false = (0 : Int) from rfl, show b2i true = (1 : Int) from rfl]
          exact ⟨rfl, he42 ▸ H40.out.mono (by omega), G41.out⟩
    | false =>
      have HB2 := Aside0.mk hb2
      clear hb2
      go_wp2_with fail
      have c0 := H0.out.c0
      have c1 := H0.out.c1
      go_still_tail 8, (by kernel_rfl)
      change wpList _ _ _ _ _ w.drew
      have H45 := Aside0.mk H0.out.drew
      have G46 := Aside0.mk (grown_drew G0.out)
      clear c0 c1 H0 G0
      generalize w.drew = w47 at H45 G46 ⊢
      obtain ⟨w49, f48, r53, F50, H51, G52⟩ := St.putA H45 G46 (by omega) ⟨#[83]⟩ (by decide) (now) (WalkArith.wf_i64 (by omega))
      go_wp2_with fail
      clear r53 H45 G46
      refine (since_callsA H51 G52 h0 h1).mono ?_
      rintro e w56 ⟨rfl, H54, G55⟩
      clear H51 G52
      go_wp2_with fail
      refine (span_calls H54.out).mono ?_
      rintro e w' ⟨rfl, rfl⟩
      go_wp2_with fail
      refine (set_callsA H54 G55 (by omega) ⟨#[81]⟩ (by decide) _).mono ?_
      rintro e w58 ⟨f57, rfl, F59, H60, G61⟩
      clear H54 G55
      go_wp2_with fail
      obtain ⟨a, ha⟩ : ∃ a, a = sinceF f57 now := ⟨_, rfl⟩
      have Sa := since_bd f57 h0 h1
      rw [← ha] at Sa
      have Fa := Aside0.mk ha
      clear ha
      obtain ⟨b, hb⟩ : ∃ b, b = spanF f57 := ⟨_, rfl⟩
      have Sb := span_bd H60
      rw [← hb] at Sb
      have Fb := Aside0.mk hb
      clear hb
      have wa := Aside0.mk (WalkArith.wf_i64 (n := a) (by omega))
      have wb := Aside0.mk (WalkArith.wf_i64 (n := b) (by omega))
      clear Sa Sb
      by_cases hlt : b < a
      ·
        have HM : Aside0 (b = B.mnI (sinceF f57 now) (spanF f57)) := ⟨by rw [← Fa.out, ← Fb.out]; exact (if_pos hlt).symm⟩
        have hlt2 : decide (b < a) = true := decide_eq_true hlt
        have c0 := H60.out.drew.c0
        have HD := Aside0.mk H60.out.drew
        have GD := Aside0.mk (grown_drew G61.out)
        go_region_with (first | (go_at_call 78; (with_reducible refine (since_callsA HD GD h0 h1).mono ?_); rintro e w70 ⟨rfl, H68, G69⟩; rw [← Fa.out]; have c3 := H68.out.c0; obtain ⟨w65, f64, r67, F66, H62, G63⟩ := St.putA H68 G69 (by omega) ⟨#[69, 84]⟩ (by decide) b wb.out) | (go_at_call 79; (with_reducible refine (span_calls H68.out).mono ?_); rintro e w' ⟨rfl, rfl⟩; rw [← Fb.out]))
        all_goals
          clear c0 c3 r67 HD GD H60 G61 H68 G69 wa wb hlt hlt2
          go_wp2_with fail
          refine (on_calls H62.out ⟨#[73, 78]⟩ (by decide)).mono ?_
          rintro e w' ⟨rfl, rfl⟩
          go_wp2_with fail
          refine (set_callsA H62 G63 (by omega) ⟨#[77]⟩ (by decide) _).mono ?_
          rintro e w72 ⟨f71, rfl, F73, H74, G75⟩
          clear H62 G63
          go_wp2
          go_end0
          have he76 : f71 = B.tonF f now := by
            have q77 := HB1.out
            (try simp only [F73.out, F66.out, HM.out, F59.out, F50.out] at q77)
            have q78 := HB2.out
            (try simp only [F73.out, F66.out, HM.out, F59.out, F50.out] at q78)
            rw [F73.out]
            rw [F66.out]
            rw [HM.out]
            rw [F59.out]
            rw [F50.out]
            simp only [B.tonF, B.tonB, B.setET, B.after, F73.out, F66.out, HM.out, F59.out, F50.out, q77, q78, Bool.true_or, Bool.false_or, Bool.or_true, Bool.or_false, Bool.true_and, Bool.false_and, Bool.and_true, Bool.and_false, Bool.not_true, Bool.not_false, if_true, if_false, Bool.false_eq_true, reduceIte, show b2i false = (0 : Int) from rfl, show b2i true = (1 : Int) from rfl]
          exact ⟨rfl, he76 ▸ H74.out.mono (by omega), G75.out⟩
      ·
        have HM : Aside0 (a = B.mnI (sinceF f57 now) (spanF f57)) := ⟨by rw [← Fa.out, ← Fb.out]; exact (if_neg hlt).symm⟩
        have hlt2 : decide (b < a) = false := decide_eq_false hlt
        have c0 := H60.out.drew.c0
        have HD := Aside0.mk H60.out.drew
        have GD := Aside0.mk (grown_drew G61.out)
        go_region_with (first | (go_at_call 78; (with_reducible refine (since_callsA HD GD h0 h1).mono ?_); rintro e w87 ⟨rfl, H85, G86⟩; rw [← Fa.out]; have c3 := H85.out.c0; obtain ⟨w82, f81, r84, F83, H79, G80⟩ := St.putA H85 G86 (by omega) ⟨#[69, 84]⟩ (by decide) a wa.out) | (go_at_call 79; (with_reducible refine (span_calls H85.out).mono ?_); rintro e w' ⟨rfl, rfl⟩; rw [← Fb.out]))
        all_goals
          clear c0 c3 r84 HD GD H60 G61 H85 G86 wa wb hlt hlt2
          go_wp2_with fail
          refine (on_calls H79.out ⟨#[73, 78]⟩ (by decide)).mono ?_
          rintro e w' ⟨rfl, rfl⟩
          go_wp2_with fail
          refine (set_callsA H79 G80 (by omega) ⟨#[77]⟩ (by decide) _).mono ?_
          rintro e w89 ⟨f88, rfl, F90, H91, G92⟩
          clear H79 G80
          go_wp2
          go_end0
          have he93 : f88 = B.tonF f now := by
            have q94 := HB1.out
            (try simp only [F90.out, F83.out, HM.out, F59.out, F50.out] at q94)
            have q95 := HB2.out
            (try simp only [F90.out, F83.out, HM.out, F59.out, F50.out] at q95)
            rw [F90.out]
            rw [F83.out]
            rw [HM.out]
            rw [F59.out]
            rw [F50.out]
            simp only [B.tonF, B.tonB, B.setET, B.after, F90.out, F83.out, HM.out, F59.out, F50.out, q94, q95, Bool.true_or, Bool.false_or, Bool.or_true, Bool.or_false, Bool.true_and, Bool.false_and, Bool.and_true, Bool.and_false, Bool.not_true, Bool.not_false, if_true, if_false, Bool.false_eq_true, reduceIte, show b2i false = (0 : Int) from rfl, show b2i true = (1 : Int) from rfl]
          exact ⟨rfl, he93 ▸ H91.out.mono (by omega), G92.out⟩
  | false =>
    have HB1 := Aside0.mk hb1
    clear hb1
    go_wp2_with fail
    refine (set_callsA H0 G0 (by omega) ⟨#[81]⟩ (by decide) false).mono ?_
    rintro e w97 ⟨f96, rfl, F98, H99, G100⟩
    clear H0 G0
    obtain ⟨w102, f101, r106, F103, H104, G105⟩ := St.putA H99 G100 (by omega) ⟨#[69, 84]⟩ (by decide) (0) (by decide)
    have c0 := H99.out.c0
    have c1 := H99.out.c1
    go_wp2_with fail
    clear c0 c1
    clear r106 H99 G100
    refine (on_calls H104.out ⟨#[73, 78]⟩ (by decide)).mono ?_
    rintro e w' ⟨rfl, rfl⟩
    go_wp2_with fail
    refine (set_callsA H104 G105 (by omega) ⟨#[77]⟩ (by decide) _).mono ?_
    rintro e w108 ⟨f107, rfl, F109, H110, G111⟩
    clear H104 G105
    go_wp2
    go_end0
    have he112 : f107 = B.tonF f now := by
      have q113 := HB1.out
      (try simp only [F109.out, F103.out, F98.out] at q113)
      rw [F109.out]
      rw [F103.out]
      rw [F98.out]
      simp only [B.tonF, B.tonB, B.setET, B.after, F109.out, F103.out, F98.out, q113, Bool.true_or, Bool.false_or, Bool.or_true, Bool.or_false, Bool.true_and, Bool.false_and, Bool.and_true, Bool.and_false, Bool.not_true, Bool.not_false, if_true, if_false, Bool.false_eq_true, reduceIte, show b2i false = (0 : Int) from rfl, show b2i true = (1 : Int) from rfl]
    exact ⟨rfl, he112 ▸ H110.out.mono (by omega), G111.out⟩

end Go.Proofs.Ytfadafgnahhmdaa.X
