import Derived.Test.YtfadafgnahhmdaaT0
namespace Go.Proofs.Ytfadafgnahhmdaa.X
open Go.RowKit Go.Proofs.YtfadafgnahhmdaaW.PrintWords Go.Proofs.YtfadafgnahhmdaaW.PrintLast Go.Proofs.YtfadafgnahhmdaaW.PrintMore Go.Proofs.Ytfadafgnahhmdaa.E
attribute [local go_sem] max2_int min2_int max_two min_two max_three min_three max_four min_four
set_option linter.unusedVariables false
set_option linter.unusedSimpArgs false

open B (upd b2i mnI sinceF spanF)
set_option maxHeartbeats 8000000 in
set_option maxRecDepth 100000 in
theorem tp_calls {w : World} {sb mb n : Nat} {f : ByteArray → Int} {now : Int} (h : St w sb mb n f now) (hn : n ≤ 100) (h0 : 0 ≤ now) (h1 : now ≤ 4611686018427387904) :
    Calls Try.prog 59 #[.pointer (some ⟨sb, 0, none⟩)] w fun e w' => e = .returned (.tuple #[]) ∧ St w' sb mb (n + 60) (B.tpF f now) now ∧ w.grownBy w' (some mb) := by
  have hu74 := Try.underlying74
  have H0 := Aside0.mk h
  have G0 := Aside0.mk (grown_refl w (some mb))
  clear h
  go_enter Try.func59, Try.ntmps59
  go_wp2_with fail
  refine (on_calls H0.out ⟨#[81]⟩ (by decide)).mono ?_
  rintro e w' ⟨rfl, rfl⟩
  cases hb1 : (f ⟨#[81]⟩ == 1) with
  | true =>
    have HB1 := Aside0.mk hb1
    clear hb1
    go_wp2_with fail
    refine (since_callsA H0 G0 h0 h1).mono ?_
    rintro e w4 ⟨rfl, H2, G3⟩
    clear H0 G0
    go_wp2_with fail
    refine (span_calls H2.out).mono ?_
    rintro e w' ⟨rfl, rfl⟩
    cases hc5 : decide (spanF f ≤ sinceF f now) with
    | true =>
      have HC5 := Aside0.mk hc5
      go_wp2_with fail
      clear hc5
      refine (set_callsA H2 G3 (by omega) ⟨#[81]⟩ (by decide) false).mono ?_
      rintro e w7 ⟨f6, rfl, F8, H9, G10⟩
      clear H2 G3
      go_wp2_with fail
      obtain ⟨b, hb⟩ : ∃ b, b = spanF f6 := ⟨_, rfl⟩
      have SB := span_bd H9
      rw [← hb] at SB
      have FB := Aside0.mk hb
      clear hb
      have wb := Aside0.mk (WalkArith.wf_i64 (n := b) (by omega))
      clear SB
      have c0 := H9.out.drew.c0
      have HD := Aside0.mk H9.out.drew
      have GD := Aside0.mk (grown_drew G10.out)
      obtain ⟨w14, f13, r16, F15, H11, G12⟩ := St.putA HD GD (by omega) ⟨#[69, 84]⟩ (by decide) b wb.out
      go_region_with (go_at_call 79; (with_reducible refine (span_calls HD.out).mono ?_); rintro e w' ⟨rfl, rfl⟩; rw [← FB.out])
      all_goals
        clear c0 r16 HD GD H9 G10 wb
        have EA17 : Aside0 (f13 = B.tpA f now) := ⟨by
          rw [B.tpA_1 HB1.out HC5.out, F15.out, FB.out, F8.out]
          all_goals first | rfl | (simp only [B.setET, show b2i false = (0 : Int) from rfl, show b2i true = (1 : Int) from rfl]; done) | (simp only [B.setET, show b2i false = (0 : Int) from rfl, show b2i true = (1 : Int) from rfl]; rfl)⟩
        go_wp2_with fail
        refine (on_calls H11.out ⟨#[81]⟩ (by decide)).mono ?_
        rintro e w' ⟨rfl, rfl⟩
        cases hb18 : (f13 ⟨#[81]⟩ == 1) with
        | true =>
          have HB18 := Aside0.mk hb18
          clear hb18
          have EA19 : Aside0 (f13 = B.tpB f13 now) := ⟨by
            rw [B.tpB_1 HB18.out]
            all_goals first | rfl | (simp only [B.setET, show b2i false = (0 : Int) from rfl, show b2i true = (1 : Int) from rfl]; done) | (simp only [B.setET, show b2i false = (0 : Int) from rfl, show b2i true = (1 : Int) from rfl]; rfl)⟩
          go_wp2_with fail
          refine (on_calls H11.out ⟨#[73, 78]⟩ (by decide)).mono ?_
          rintro e w' ⟨rfl, rfl⟩
          go_wp2_with fail
          refine (set_callsA H11 G12 (by omega) ⟨#[77]⟩ (by decide) _).mono ?_
          rintro e w21 ⟨f20, rfl, F22, H23, G24⟩
          clear H11 G12
          go_wp2
          go_end0
          have he25 : f20 = B.tpF f now := by
            rw [F22.out, B.tpF, ← EA17.out, ← EA19.out, B.after]
          exact ⟨rfl, he25 ▸ H23.out.mono (by omega), G24.out⟩
        | false =>
          have HB18 := Aside0.mk hb18
          clear hb18
          go_wp2_with fail
          refine (rises_calls H11.out ⟨#[73, 78]⟩ ⟨#[77]⟩ (by decide) (by decide)).mono ?_
          rintro e w' ⟨rfl, rfl⟩
          cases hb26 : ((f13 ⟨#[73, 78]⟩ == 1) && !(f13 ⟨#[77]⟩ == 1)) with
          | true =>
            have HB26 := Aside0.mk hb26
            clear hb26
            go_wp2_with fail
            have HD := Aside0.mk H11.out.drew
            have GD := Aside0.mk (grown_drew G12.out)
            have hwf : (Lit.int .i64 now).wf = true := WalkArith.wf_i64 (by omega)
            have c0 := HD.out.c0
            have c1 := HD.out.c1
            obtain ⟨v0, st0, wa, w33, e1, e2, s2, g2, d0, d1⟩ := HD.out.entry (by omega) ⟨#[83]⟩ (by decide) now hwf
            obtain ⟨v3, st3, wc, w34, e3, e4, s4, g4, p0, p1⟩ := s2.entry (by omega) ⟨#[69, 84]⟩ (by decide) 0 (by decide)
            have k0 := s2.c0
            have k1 := s2.c1
            obtain ⟨f32, hf2⟩ : ∃ x, x = upd (upd f13 ⟨#[83]⟩ now) ⟨#[69, 84]⟩ 0 := ⟨_, rfl⟩
            rw [← hf2] at s4
            have F30 := Aside0.mk hf2
            have H27 := Aside0.mk s4
            have G28 := Aside0.mk (grown_trans (grown_trans GD.out g2) g4)
            clear s2 g2 s4 g4 hwf hf2
            go_region
            all_goals
              clear c0 c1 e1 e2 d0 d1 e3 e4 p0 p1 k0 k1 HD GD H11 G12
              go_wp2_with fail
              refine (span_calls H27.out).mono ?_
              rintro e w' ⟨rfl, rfl⟩
              go_wp2_with fail
              refine (set_callsA H27 G28 (by omega) ⟨#[81]⟩ (by decide) _).mono ?_
              rintro e w36 ⟨f35, rfl, F37, H38, G39⟩
              clear H27 G28
              have EA40 : Aside0 (f35 = B.tpB f13 now) := ⟨by
                rw [B.tpB_2 HB18.out HB26.out, F37.out, F30.out]
                all_goals first | rfl | (simp only [B.setET, show b2i false = (0 : Int) from rfl, show b2i true = (1 : Int) from rfl]; done) | (simp only [B.setET, show b2i false = (0 : Int) from rfl, show b2i true = (1 : Int) from rfl]; rfl)⟩
              go_wp2_with fail
              refine (on_calls H38.out ⟨#[73, 78]⟩ (by decide)).mono ?_
              rintro e w' ⟨rfl, rfl⟩
              go_wp2_with fail
              refine (set_callsA H38 G39 (by omega) ⟨#[77]⟩ (by decide) _).mono ?_
              rintro e w42 ⟨f41, rfl, F43, H44, G45⟩
              clear H38 G39
              go_wp2
              go_end0
              have he46 : f41 = B.tpF f now := by
                rw [F43.out, B.tpF, ← EA17.out, ← EA40.out, B.after]
              exact ⟨rfl, he46 ▸ H44.out.mono (by omega), G45.out⟩
          | false =>
            have HB26 := Aside0.mk hb26
            clear hb26
            go_wp2_with fail
            refine (on_calls H11.out ⟨#[73, 78]⟩ (by decide)).mono ?_
            rintro e w' ⟨rfl, rfl⟩
            cases hb47 : (f13 ⟨#[73, 78]⟩ == 1) with
            | true =>
              have HB47 := Aside0.mk hb47
              clear hb47
              have EA48 : Aside0 (f13 = B.tpB f13 now) := ⟨by
                rw [B.tpB_3 HB18.out HB26.out HB47.out]
                all_goals first | rfl | (simp only [B.setET, show b2i false = (0 : Int) from rfl, show b2i true = (1 : Int) from rfl]; done) | (simp only [B.setET, show b2i false = (0 : Int) from rfl, show b2i true = (1 : Int) from rfl]; rfl)⟩
              go_wp2_with fail
              refine (on_calls H11.out ⟨#[73, 78]⟩ (by decide)).mono ?_
              rintro e w' ⟨rfl, rfl⟩
              go_wp2_with fail
              refine (set_callsA H11 G12 (by omega) ⟨#[77]⟩ (by decide) _).mono ?_
              rintro e w50 ⟨f49, rfl, F51, H52, G53⟩
              clear H11 G12
              go_wp2
              go_end0
              have he54 : f49 = B.tpF f now := by
                rw [F51.out, B.tpF, ← EA17.out, ← EA48.out, B.after]
              exact ⟨rfl, he54 ▸ H52.out.mono (by omega), G53.out⟩
            | false =>
              have HB47 := Aside0.mk hb47
              clear hb47
              obtain ⟨w56, f55, r60, F57, H58, G59⟩ := St.putA H11 G12 (by omega) ⟨#[69, 84]⟩ (by decide) (0) (by decide)
              have c0 := H11.out.c0
              have c1 := H11.out.c1
              go_wp2_with fail
              clear c0 c1
              clear r60 H11 G12
              have EA61 : Aside0 (f55 = B.tpB f13 now) := ⟨by
                rw [B.tpB_4 HB18.out HB26.out HB47.out, F57.out]
                all_goals first | rfl | (simp only [B.setET, show b2i false = (0 : Int) from rfl, show b2i true = (1 : Int) from rfl]; done) | (simp only [B.setET, show b2i false = (0 : Int) from rfl, show b2i true = (1 : Int) from rfl]; rfl)⟩
              refine (on_calls H58.out ⟨#[73, 78]⟩ (by decide)).mono ?_
              rintro e w' ⟨rfl, rfl⟩
              go_wp2_with fail
              refine (set_callsA H58 G59 (by omega) ⟨#[77]⟩ (by decide) _).mono ?_
              rintro e w63 ⟨f62, rfl, F64, H65, G66⟩
              clear H58 G59
              go_wp2
              go_end0
              have he67 : f62 = B.tpF f now := by
                rw [F64.out, B.tpF, ← EA17.out, ← EA61.out, B.after]
              exact ⟨rfl, he67 ▸ H65.out.mono (by omega), G66.out⟩
    | false =>
      have HC5 := Aside0.mk hc5
      go_wp2_with fail
      clear hc5
      obtain ⟨a, ha⟩ : ∃ a, a = sinceF f now := ⟨_, rfl⟩
      have SA := since_bd f h0 h1
      rw [← ha] at SA
      have FA := Aside0.mk ha
      clear ha
      have wa := Aside0.mk (WalkArith.wf_i64 (n := a) (by omega))
      clear SA
      have c0 := H2.out.drew.c0
      have HD := Aside0.mk H2.out.drew
      have GD := Aside0.mk (grown_drew G3.out)
      go_region_with (go_at_call 78; (with_reducible refine (since_callsA HD GD h0 h1).mono ?_); rintro e w76 ⟨rfl, H74, G75⟩; rw [← FA.out]; have c3 := H74.out.c0; obtain ⟨w71, f70, r73, F72, H68, G69⟩ := St.putA H74 G75 (by omega) ⟨#[69, 84]⟩ (by decide) a wa.out)
      all_goals
        clear c0 c3 r73 HD GD H2 G3 H74 G75 wa
        have EA77 : Aside0 (f70 = B.tpA f now) := ⟨by
          rw [B.tpA_2 HB1.out HC5.out, F72.out, FA.out]
          all_goals first | rfl | (simp only [B.setET, show b2i false = (0 : Int) from rfl, show b2i true = (1 : Int) from rfl]; done) | (simp only [B.setET, show b2i false = (0 : Int) from rfl, show b2i true = (1 : Int) from rfl]; rfl)⟩
        go_wp2_with fail
        refine (on_calls H68.out ⟨#[81]⟩ (by decide)).mono ?_
        rintro e w' ⟨rfl, rfl⟩
        cases hb78 : (f70 ⟨#[81]⟩ == 1) with
        | true =>
          have HB78 := Aside0.mk hb78
          clear hb78
          have EA79 : Aside0 (f70 = B.tpB f70 now) := ⟨by
            rw [B.tpB_1 HB78.out]
            all_goals first | rfl | (simp only [B.setET, show b2i false = (0 : Int) from rfl, show b2i true = (1 : Int) from rfl]; done) | (simp only [B.setET, show b2i false = (0 : Int) from rfl, show b2i true = (1 : Int) from rfl]; rfl)⟩
          go_wp2_with fail
          refine (on_calls H68.out ⟨#[73, 78]⟩ (by decide)).mono ?_
          rintro e w' ⟨rfl, rfl⟩
          go_wp2_with fail
          refine (set_callsA H68 G69 (by omega) ⟨#[77]⟩ (by decide) _).mono ?_
          rintro e w81 ⟨f80, rfl, F82, H83, G84⟩
          clear H68 G69
          go_wp2
          go_end0
          have he85 : f80 = B.tpF f now := by
            rw [F82.out, B.tpF, ← EA77.out, ← EA79.out, B.after]
          exact ⟨rfl, he85 ▸ H83.out.mono (by omega), G84.out⟩
        | false =>
          have HB78 := Aside0.mk hb78
          clear hb78
          go_wp2_with fail
          refine (rises_calls H68.out ⟨#[73, 78]⟩ ⟨#[77]⟩ (by decide) (by decide)).mono ?_
          rintro e w' ⟨rfl, rfl⟩
          cases hb86 : ((f70 ⟨#[73, 78]⟩ == 1) && !(f70 ⟨#[77]⟩ == 1)) with
          | true =>
            have HB86 := Aside0.mk hb86
            clear hb86
            go_wp2_with fail
            have HD := Aside0.mk H68.out.drew
            have GD := Aside0.mk (grown_drew G69.out)
            have hwf : (Lit.int .i64 now).wf = true := WalkArith.wf_i64 (by omega)
            have c0 := HD.out.c0
            have c1 := HD.out.c1
            obtain ⟨v0, st0, wa, w93, e1, e2, s2, g2, d0, d1⟩ := HD.out.entry (by omega) ⟨#[83]⟩ (by decide) now hwf
            obtain ⟨v3, st3, wc, w94, e3, e4, s4, g4, p0, p1⟩ := s2.entry (by omega) ⟨#[69, 84]⟩ (by decide) 0 (by decide)
            have k0 := s2.c0
            have k1 := s2.c1
            obtain ⟨f92, hf2⟩ : ∃ x, x = upd (upd f70 ⟨#[83]⟩ now) ⟨#[69, 84]⟩ 0 := ⟨_, rfl⟩
            rw [← hf2] at s4
            have F90 := Aside0.mk hf2
            have H87 := Aside0.mk s4
            have G88 := Aside0.mk (grown_trans (grown_trans GD.out g2) g4)
            clear s2 g2 s4 g4 hwf hf2
            go_region
            all_goals
              clear c0 c1 e1 e2 d0 d1 e3 e4 p0 p1 k0 k1 HD GD H68 G69
              go_wp2_with fail
              refine (span_calls H87.out).mono ?_
              rintro e w' ⟨rfl, rfl⟩
              go_wp2_with fail
              refine (set_callsA H87 G88 (by omega) ⟨#[81]⟩ (by decide) _).mono ?_
              rintro e w96 ⟨f95, rfl, F97, H98, G99⟩
              clear H87 G88
              have EA100 : Aside0 (f95 = B.tpB f70 now) := ⟨by
                rw [B.tpB_2 HB78.out HB86.out, F97.out, F90.out]
                all_goals first | rfl | (simp only [B.setET, show b2i false = (0 : Int) from rfl, show b2i true = (1 : Int) from rfl]; done) | (simp only [B.setET, show b2i false = (0 : Int) from rfl, show b2i true = (1 : Int) from rfl]; rfl)⟩
              go_wp2_with fail
              refine (on_calls H98.out ⟨#[73, 78]⟩ (by decide)).mono ?_
              rintro e w' ⟨rfl, rfl⟩
              go_wp2_with fail
              refine (set_callsA H98 G99 (by omega) ⟨#[77]⟩ (by decide) _).mono ?_
              rintro e w102 ⟨f101, rfl, F103, H104, G105⟩
              clear H98 G99
              go_wp2
              go_end0
              have he106 : f101 = B.tpF f now := by
                rw [F103.out, B.tpF, ← EA77.out, ← EA100.out, B.after]
              exact ⟨rfl, he106 ▸ H104.out.mono (by omega), G105.out⟩
          | false =>
            have HB86 := Aside0.mk hb86
            clear hb86
            go_wp2_with fail
            refine (on_calls H68.out ⟨#[73, 78]⟩ (by decide)).mono ?_
            rintro e w' ⟨rfl, rfl⟩
            cases hb107 : (f70 ⟨#[73, 78]⟩ == 1) with
            | true =>
              have HB107 := Aside0.mk hb107
              clear hb107
              have EA108 : Aside0 (f70 = B.tpB f70 now) := ⟨by
                rw [B.tpB_3 HB78.out HB86.out HB107.out]
                all_goals first | rfl | (simp only [B.setET, show b2i false = (0 : Int) from rfl, show b2i true = (1 : Int) from rfl]; done) | (simp only [B.setET, show b2i false = (0 : Int) from rfl, show b2i true = (1 : Int) from rfl]; rfl)⟩
              go_wp2_with fail
              refine (on_calls H68.out ⟨#[73, 78]⟩ (by decide)).mono ?_
              rintro e w' ⟨rfl, rfl⟩
              go_wp2_with fail
              refine (set_callsA H68 G69 (by omega) ⟨#[77]⟩ (by decide) _).mono ?_
              rintro e w110 ⟨f109, rfl, F111, H112, G113⟩
              clear H68 G69
              go_wp2
              go_end0
              have he114 : f109 = B.tpF f now := by
                rw [F111.out, B.tpF, ← EA77.out, ← EA108.out, B.after]
              exact ⟨rfl, he114 ▸ H112.out.mono (by omega), G113.out⟩
            | false =>
              have HB107 := Aside0.mk hb107
              clear hb107
              obtain ⟨w116, f115, r120, F117, H118, G119⟩ := St.putA H68 G69 (by omega) ⟨#[69, 84]⟩ (by decide) (0) (by decide)
              have c0 := H68.out.c0
              have c1 := H68.out.c1
              go_wp2_with fail
              clear c0 c1
              clear r120 H68 G69
              have EA121 : Aside0 (f115 = B.tpB f70 now) := ⟨by
                rw [B.tpB_4 HB78.out HB86.out HB107.out, F117.out]
                all_goals first | rfl | (simp only [B.setET, show b2i false = (0 : Int) from rfl, show b2i true = (1 : Int) from rfl]; done) | (simp only [B.setET, show b2i false = (0 : Int) from rfl, show b2i true = (1 : Int) from rfl]; rfl)⟩
              refine (on_calls H118.out ⟨#[73, 78]⟩ (by decide)).mono ?_
              rintro e w' ⟨rfl, rfl⟩
              go_wp2_with fail
              refine (set_callsA H118 G119 (by omega) ⟨#[77]⟩ (by decide) _).mono ?_
              rintro e w123 ⟨f122, rfl, F124, H125, G126⟩
              clear H118 G119
              go_wp2
              go_end0
              have he127 : f122 = B.tpF f now := by
                rw [F124.out, B.tpF, ← EA77.out, ← EA121.out, B.after]
              exact ⟨rfl, he127 ▸ H125.out.mono (by omega), G126.out⟩
  | false =>
    have HB1 := Aside0.mk hb1
    clear hb1
    have EA128 : Aside0 (f = B.tpA f now) := ⟨by
      rw [B.tpA_3 HB1.out]
      all_goals first | rfl | (simp only [B.setET, show b2i false = (0 : Int) from rfl, show b2i true = (1 : Int) from rfl]; done) | (simp only [B.setET, show b2i false = (0 : Int) from rfl, show b2i true = (1 : Int) from rfl]; rfl)⟩
    go_wp2_with fail
    refine (on_calls H0.out ⟨#[81]⟩ (by decide)).mono ?_
    rintro e w' ⟨rfl, rfl⟩
    cases hb129 : (f ⟨#[81]⟩ == 1) with
    | true =>
      have HB129 := Aside0.mk hb129
      clear hb129
      have EA130 : Aside0 (f = B.tpB f now) := ⟨by
        rw [B.tpB_1 HB129.out]
        all_goals first | rfl | (simp only [B.setET, show b2i false = (0 : Int) from rfl, show b2i true = (1 : Int) from rfl]; done) | (simp only [B.setET, show b2i false = (0 : Int) from rfl, show b2i true = (1 : Int) from rfl]; rfl)⟩
      go_wp2_with fail
      refine (on_calls H0.out ⟨#[73, 78]⟩ (by decide)).mono ?_
      rintro e w' ⟨rfl, rfl⟩
      go_wp2_with fail
      refine (set_callsA H0 G0 (by omega) ⟨#[77]⟩ (by decide) _).mono ?_
      rintro e w132 ⟨f131, rfl, F133, H134, G135⟩
      clear H0 G0
      go_wp2
      go_end0
      have he136 : f131 = B.tpF f now := by
        rw [F133.out, B.tpF, ← EA128.out, ← EA130.out, B.after]
      exact ⟨rfl, he136 ▸ H134.out.mono (by omega), G135.out⟩
    | false =>
      have HB129 := Aside0.mk hb129
      clear hb129
      go_wp2_with fail
      refine (rises_calls H0.out ⟨#[73, 78]⟩ ⟨#[77]⟩ (by decide) (by decide)).mono ?_
      rintro e w' ⟨rfl, rfl⟩
      cases hb137 : ((f ⟨#[73, 78]⟩ == 1) && !(f ⟨#[77]⟩ == 1)) with
      | true =>
        have HB137 := Aside0.mk hb137
        clear hb137
        go_wp2_with fail
        have HD := Aside0.mk H0.out.drew
        have GD := Aside0.mk (grown_drew G0.out)
        have hwf : (Lit.int .i64 now).wf = true := WalkArith.wf_i64 (by omega)
        have c0 := HD.out.c0
        have c1 := HD.out.c1
        obtain ⟨v0, st0, wa, w144, e1, e2, s2, g2, d0, d1⟩ := HD.out.entry (by omega) ⟨#[83]⟩ (by decide) now hwf
        obtain ⟨v3, st3, wc, w145, e3, e4, s4, g4, p0, p1⟩ := s2.entry (by omega) ⟨#[69, 84]⟩ (by decide) 0 (by decide)
        have k0 := s2.c0
        have k1 := s2.c1
        obtain ⟨f143, hf2⟩ : ∃ x, x = upd (upd f ⟨#[83]⟩ now) ⟨#[69, 84]⟩ 0 := ⟨_, rfl⟩
        rw [← hf2] at s4
        have F141 := Aside0.mk hf2
        have H138 := Aside0.mk s4
        have G139 := Aside0.mk (grown_trans (grown_trans GD.out g2) g4)
        clear s2 g2 s4 g4 hwf hf2
        go_region
        all_goals
          clear c0 c1 e1 e2 d0 d1 e3 e4 p0 p1 k0 k1 HD GD H0 G0
          go_wp2_with fail
          refine (span_calls H138.out).mono ?_
          rintro e w' ⟨rfl, rfl⟩
          go_wp2_with fail
          refine (set_callsA H138 G139 (by omega) ⟨#[81]⟩ (by decide) _).mono ?_
          rintro e w147 ⟨f146, rfl, F148, H149, G150⟩
          clear H138 G139
          have EA151 : Aside0 (f146 = B.tpB f now) := ⟨by
            rw [B.tpB_2 HB129.out HB137.out, F148.out, F141.out]
            all_goals first | rfl | (simp only [B.setET, show b2i false = (0 : Int) from rfl, show b2i true = (1 : Int) from rfl]; done) | (simp only [B.setET, show b2i false = (0 : Int) from rfl, show b2i true = (1 : Int) from rfl]; rfl)⟩
          go_wp2_with fail
          refine (on_calls H149.out ⟨#[73, 78]⟩ (by decide)).mono ?_
          rintro e w' ⟨rfl, rfl⟩
          go_wp2_with fail
          refine (set_callsA H149 G150 (by omega) ⟨#[77]⟩ (by decide) _).mono ?_
          rintro e w153 ⟨f152, rfl, F154, H155, G156⟩
          clear H149 G150
          go_wp2
          go_end0
          have he157 : f152 = B.tpF f now := by
            rw [F154.out, B.tpF, ← EA128.out, ← EA151.out, B.after]
          exact ⟨rfl, he157 ▸ H155.out.mono (by omega), G156.out⟩
      | false =>
        have HB137 := Aside0.mk hb137
        clear hb137
        go_wp2_with fail
        refine (on_calls H0.out ⟨#[73, 78]⟩ (by decide)).mono ?_
        rintro e w' ⟨rfl, rfl⟩
        cases hb158 : (f ⟨#[73, 78]⟩ == 1) with
        | true =>
          have HB158 := Aside0.mk hb158
          clear hb158
          have EA159 : Aside0 (f = B.tpB f now) := ⟨by
            rw [B.tpB_3 HB129.out HB137.out HB158.out]
            all_goals first | rfl | (simp only [B.setET, show b2i false = (0 : Int) from rfl, show b2i true = (1 : Int) from rfl]; done) | (simp only [B.setET, show b2i false = (0 : Int) from rfl, show b2i true = (1 : Int) from rfl]; rfl)⟩
          go_wp2_with fail
          refine (on_calls H0.out ⟨#[73, 78]⟩ (by decide)).mono ?_
          rintro e w' ⟨rfl, rfl⟩
          go_wp2_with fail
          refine (set_callsA H0 G0 (by omega) ⟨#[77]⟩ (by decide) _).mono ?_
          rintro e w161 ⟨f160, rfl, F162, H163, G164⟩
          clear H0 G0
          go_wp2
          go_end0
          have he165 : f160 = B.tpF f now := by
            rw [F162.out, B.tpF, ← EA128.out, ← EA159.out, B.after]
          exact ⟨rfl, he165 ▸ H163.out.mono (by omega), G164.out⟩
        | false =>
          have HB158 := Aside0.mk hb158
          clear hb158
          obtain ⟨w167, f166, r171, F168, H169, G170⟩ := St.putA H0 G0 (by omega) ⟨#[69, 84]⟩ (by decide) (0) (by decide)
          have c0 := H0.out.c0
          have c1 := H0.out.c1
          go_wp2_with fail
          clear c0 c1
          clear r171 H0 G0
          have EA172 : Aside0 (f166 = B.tpB f now) := ⟨by
            rw [B.tpB_4 HB129.out HB137.out HB158.out, F168.out]
            all_goals first | rfl | (simp only [B.setET, show b2i false = (0 : Int) from rfl, show b2i true = (1 : Int) from rfl]; done) | (simp only [B.setET, show b2i false = (0 : Int) from rfl, show b2i true = (1 : Int) from rfl]; rfl)⟩
          refine (on_calls H169.out ⟨#[73, 78]⟩ (by decide)).mono ?_
          rintro e w' ⟨rfl, rfl⟩
          go_wp2_with fail
          refine (set_callsA H169 G170 (by omega) ⟨#[77]⟩ (by decide) _).mono ?_
          rintro e w174 ⟨f173, rfl, F175, H176, G177⟩
          clear H169 G170
          go_wp2
          go_end0
          have he178 : f173 = B.tpF f now := by
            rw [F175.out, B.tpF, ← EA128.out, ← EA172.out, B.after]
          exact ⟨rfl, he178 ▸ H176.out.mono (by omega), G177.out⟩

end Go.Proofs.Ytfadafgnahhmdaa.X

