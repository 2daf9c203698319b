import Derived.Test.YtfadafgnahhmdaaCE
import Derived.Deep.RegionHeldLaw
import Derived.Deep.DeepCutAuto
namespace Go.Proofs.Ytfadafgnahhmdaa.X
open Go.RowKit Go.Proofs.YtfadafgnahhmdaaW.PrintWords Go.Proofs.YtfadafgnahhmdaaW.PrintLast Go.Proofs.YtfadafgnahhmdaaW.PrintMore Go.Proofs.Ytfadafgnahhmdaa.E
attribute [local go_sem] max2_int min2_int max_two min_two max_three min_three max_four min_four
set_option linter.unusedVariables false
set_option linter.unusedSimpArgs false

attribute [local go_sem high] eqA34
theorem pv_bd8 (n : Int) : -32768 ≤ wrap64 (IntKind.i16.wrap n) ∧ wrap64 (IntKind.i16.wrap n) ≤ 32767 := by
  have h : IntKind.i16.wrap n = (n + 32768) % 65536 - 32768 := by
    simp [IntKind.wrap, IntKind.signed, IntKind.bits]
    split <;> omega
  rw [h]
  unfold wrap64
  omega
set_option maxHeartbeats 16000000 in
set_option maxRecDepth 100000 in
theorem sums_calls (A B' : Option Addr) (nu cp nd cr : Nat) (lu ld : List Bool) (pv0 : Int) (w : World) (hr : Kd.C Kd.bool w A nu lu) (hrr : Kd.C Kd.bool w B' nd ld) :
    Calls Try.prog 8 #[.slice A nu cp, .slice B' nd cr, .int .i64 pv0] w fun e w' => e = .returned (.bool true) ∧ Below w.heap.size w w' := by
  have hu34 := Try.underlying34
  have q30 : ∀ (w : World) (a : Option Addr) (n c n' c' : Nat), (binOp .eql 30 (.slice a n c) (.slice none n' c')).run Try.prog w = .ok (.bool a.isNone) w := fun w a n c n' c' => Lib.run_eql_slice_nil w _ _ a n c n' c' Try.underlying30
  have HR := Aside0.mk hr
  have HRR := Aside0.mk hrr
  clear hr hrr
  go_enter Try.func8, Try.ntmps8
  go_upto_region 2 with (fail)
  have hpv := pv_bd8 pv0
  generalize wrap64 (IntKind.i16.wrap pv0) = pv at hpv ⊢
  have HPV := Aside0.mk hpv
  clear hpv
  go_upto_region 3 with (first
    | (go_at_call 23; refine (startG 7 _ 10 _ start7 rfl (by omega)).mono ?_; rintro e w1 ⟨g1, c1, rfl, hC, hb⟩; have HB := Aside0.mk hb; have HS1 := Aside0.mk hC; have HW : Aside0 (Below w1.heap.size w1 w1) := ⟨Below.refl _ _⟩; clear hb hC)
    | (go_at_call 25; refine (bitL _ _).mono ?_; rintro e wb ⟨rfl, hb⟩; have HW := Aside0.mk (below_step HW.out hb); clear hb) | (go_at_call 30; refine (whole_calls _ _).mono ?_; rintro e wb ⟨rfl, hb⟩; have HW := Aside0.mk (below_step HW.out hb); clear hb)
    | (go_at_call 26; refine (stepL 7 (n := 10) (m := 5) (now := 0) (l := [bv false, bv false, bv false, bv false, iv 0, bv false, bv false, iv 0, bv false, bv false]) (is := [bv false, bv false, bv false, bv true, iv pv]) (ctud_step false false false true false false false false pv 0 false false 0 false false HPV.out.1 HPV.out.2 (by omega) (by omega) pv rfl) rfl ?aA ?aB (by omega) (by omega) (by omega)).mono ?_; (case aA => exact Kd.C_alloc (Kd.C_below HS1.out HW.out) _); (case aB => exact C34_lit _ [bv false, bv false, bv false, bv true, iv pv] _ rfl (by simp)); rintro e w2 ⟨g2, c2, rfl, h1, h2⟩; have HB := Aside0.mk (below_step HB.out (below_step (below_alloc HW.out _) h2)); have HS1 := Aside0.mk h1; clear h1 h2))
  clear HW
  have HR := Aside0.mk (Kd.C_below HR.out HB.out)
  have HRR := Aside0.mk (Kd.C_below HRR.out HB.out)
  have HM : Aside0 (nu ≤ 9223372036854775807 ∧ nd ≤ 9223372036854775807) := ⟨HR.out.2.1, HRR.out.2.1⟩
  obtain ⟨mn, hmn, hmn2, HMN⟩ : ∃ mn : Nat, (if (nd : Int) < (nu : Int) then (nd : Int) else (nu : Int)) = (mn : Int) ∧ (if nd < nu then (nd : Int) else (nu : Int)) = (mn : Int) ∧ Aside0 (mn ≤ nu ∧ mn ≤ nd) := by
    by_cases h : nd < nu
    · exact ⟨nd, by rw [if_pos (by omega)], by rw [if_pos h], ⟨by omega⟩⟩
    · exact ⟨nu, by rw [if_neg (by omega)], by rw [if_neg h], ⟨by omega⟩⟩
  go_wp2_with fail
  go_loopw [7, 8, 9, 10, 34] (fun s7 s8 s9 s10 i wr => ∃ (j g c : Nat) (b0 b1 b2 b3 : Bool) (p0 : Int) (nn : Int) (a b : Bool), j ≤ mn ∧ i = .int .i64 j ∧ s7 = .slice (some ⟨g, 0, none⟩) 10 c ∧ s8 = .int .i64 nn ∧ s9 = .bool a ∧ s10 = .bool b ∧
      Aside0 (Kd.C k34 wr (some ⟨g, 0, none⟩) 10 [bv b0, bv b1, bv b2, bv b3, iv p0, bv (decide (pv ≤ nn)), bv (decide (nn ≤ 0)), iv nn, bv a, bv b]) ∧ Aside0 (-32768 ≤ nn ∧ nn ≤ 32767) ∧ Aside0 (Below w2.heap.size w2 wr)) (fun _ _ _ _ i _ => mn - (intOf i).toNat)
  case atStart => exact ⟨0, _, _, _, _, _, _, _, _, _, _, Nat.zero_le _, rfl, rfl, rfl, rfl, rfl, HS1, ⟨HPV.out⟩, ⟨Below.refl _ _⟩⟩
  case round =>
    obtain ⟨j, g, c, b0, b1, b2, b3, p0, nn, a, b, hj, rfl, rfl, rfl, rfl, rfl, HS1, HN, HWL⟩ := hrel
    by_cases hlt : j < mn
    · obtain ⟨ad, x, rfl, hx, hc⟩ := at_B (Kd.C_below HR.out HWL.out) j (by have := HMN.out; omega)
      obtain ⟨ad2, y, rfl, hy, hc2⟩ := at_B (Kd.C_below HRR.out HWL.out) j (by have := HMN.out; omega)
      clear hx hy
      have hm : mn ≤ 9223372036854775807 := by have h1 := HM.out; have h2 := HMN.out; omega
      have hb0 : ((j : Int) < (mn : Int)) = True := eq_true (by omega)
      have hb1 : (0 ≤ (j : Int)) = True := eq_true (by omega)
      have hb2 : ((j : Int) < (nu : Int)) = True := eq_true (by have := HMN.out; omega)
      have hb3 : ((j : Int) < (nd : Int)) = True := eq_true (by have := HMN.out; omega)
      go_upto_region 9 with (fail)
      have HX := Aside0.mk hc
      have HY := Aside0.mk hc2
      clear hc hc2 hmn hmn2
      have HW : Aside0 (Below wr.heap.size wr wr.drew) := ⟨below_drew (Below.refl _ _)⟩
      have G : Aside0 (∀ w', Below wr.heap.size wr w' → w'.cell? (ad.add j) = some (.bool x) ∧ w'.cell? (ad2.add j) = some (.bool y)) := ⟨fun w' hb => ⟨(hb.cell (World.block_lt_of_cell? wr _ HX.out)).trans HX.out, (hb.cell (World.block_lt_of_cell? wr _ HY.out)).trans HY.out⟩⟩
      first | go_region_held (fun w' => w'.cell? (ad.add j) = some (.bool x) ∧ w'.cell? (ad2.add j) = some (.bool y)) (first | exact G.out _ HW.out | exact G.out _ (below_alloc HW.out _))
        (first | (go_at_call 25; refine (bitL _ _).mono ?_; rintro e wb ⟨rfl, hb⟩; have HW := Aside0.mk (below_step HW.out hb); clear hb) | (go_at_call 30; refine (whole_calls _ _).mono ?_; rintro e wb ⟨rfl, hb⟩; have HW := Aside0.mk (below_step HW.out hb); clear hb) | (go_at_call 26; refine (stepL 7 (n := 10) (m := 5) (now := 0) (l := [bv b0, bv b1, bv b2, bv b3, iv p0, bv (decide (pv ≤ nn)), bv (decide (nn ≤ 0)), iv nn, bv a, bv b]) (is := [bv x, bv y, bv false, bv false, iv pv]) (ctud_step x y false false b0 b1 b2 b3 pv p0 (decide (pv ≤ nn)) (decide (nn ≤ 0)) nn a b HPV.out.1 HPV.out.2 HN.out.1 HN.out.2 (cdV (x && !a) (y && !b) nn) rfl) rfl ?aA ?aB (by omega) (by omega) (by omega)).mono ?_; (case aA => exact Kd.C_alloc (Kd.C_below HS1.out HW.out) _); (case aB => exact C34_lit _ [bv x, bv y, bv false, bv false, iv pv] _ rfl (by simp)); rintro e w5 ⟨g5, c5, rfl, h1, h2⟩; have HW := Aside0.mk (below_step (below_alloc HW.out _) h2); have HS1 := Aside0.mk h1; clear h1 h2)) | fail
      go_upto_region 10 with (fail)
      have HWL := Aside0.mk (below_step HWL.out HW.out)
      have G := Aside0.mk (show ∀ w', Below w5.heap.size w5 w' → w'.cell? (ad.add j) = some (.bool x) ∧ w'.cell? (ad2.add j) = some (.bool y) from fun w' hb => G.out w' (below_step HW.out hb))
      go_cut [12, 13] (fun s12 s13 w => ∃ u d : Bool, s12 = .bool u ∧ s13 = .bool d ∧ (x && !a) = u ∧ (y && !b) = d ∧ Aside0 (Below w5.heap.size w5 w))
      case first =>
        have f1 := (G.out _ (Below.refl _ _)).1
        have f2 := (G.out _ (Below.refl _ _)).2
        cases x <;> cases y
        all_goals go_quiet (fail)
        all_goals try go_wp2
        all_goals go_meet
        all_goals exact ⟨_, _, rfl, rfl, by simp, by simp, ⟨by first | exact Below.refl _ _ | exact below_drew (Below.refl _ _) | exact pw_below_drewN (Below.refl _ _) _⟩⟩
      case rest =>
        obtain ⟨u, d, rfl, rfl, hu, hd, HC5⟩ := hcut
        rw [hu, hd] at HS1
        clear hu hd
        have HS1 := Aside0.mk (Kd.C_below HS1.out HC5.out)
        have HWL := Aside0.mk (below_step HWL.out HC5.out)
        have G := Aside0.mk (show ∀ w', Below wc.heap.size wc w' → w'.cell? (ad.add j) = some (.bool x) ∧ w'.cell? (ad2.add j) = some (.bool y) from fun w' hb => G.out w' (below_step HC5.out hb))
        clear HW HC5
        have hadd : wrap64 (nn + 1) = nn + 1 := by have := HN.out; unfold wrap64; omega
        have hsub : wrap64 (nn - 1) = nn - 1 := by have := HN.out; unfold wrap64; omega
        cases u <;> cases d
        · have hT : cdV false false nn = nn := by simp [cdV]
          rw [hT] at HS1
          clear hT
          go_upto_region 15 with (fail)
          have f1 := (G.out _ (Below.refl _ _)).1
          have f2 := (G.out _ (Below.refl _ _)).2
          go_quiet (fail)
          try go_upto_region 16 with (fail)
          clear f1 f2 G
          generalize hwd : wc.drewN _ = wd
          have hX : Below wc.heap.size wc wd := by rw [← hwd]; exact pw_below_drewN (Below.refl _ _) _
          have HS1 := Aside0.mk (Kd.C_below HS1.out hX)
          have HWL := Aside0.mk (below_step HWL.out hX)
          clear hX hwd
          have e1 : wd.cell? ⟨g5, 21, none⟩ = some (.int .u8 3) := (C34_at HS1.out 7 (iv (nn)) rfl).1
          have e2 : wd.cell? ⟨g5, 22, none⟩ = some (.int .u64 (IntKind.u64.wrap (nn))) := (C34_at HS1.out 7 (iv (nn)) rfl).2.1
          have e3 : wd.cell? ⟨g5, 23, none⟩ = some (.string ⟨#[]⟩) := (C34_at HS1.out 7 (iv (nn)) rfl).2.2
          have F := Aside0.mk (show ∀ w', Below wd.heap.size wd w' → (w'.cell? ⟨g5, 21, none⟩ = some (.int .u8 3) ∧ w'.cell? ⟨g5, 22, none⟩ = some (.int .u64 (IntKind.u64.wrap (nn))) ∧ w'.cell? ⟨g5, 23, none⟩ = some (.string ⟨#[]⟩)) from fun w' hb => ⟨(hb.cell (World.block_lt_of_cell? wd _ e1)).trans e1, (hb.cell (World.block_lt_of_cell? wd _ e2)).trans e2, (hb.cell (World.block_lt_of_cell? wd _ e3)).trans e3⟩)
          clear e1 e2 e3
          first | go_region_held (fun w' => Below wd.heap.size wd w' ∧ w'.cell? ⟨g5, 21, none⟩ = some (.int .u8 3) ∧ w'.cell? ⟨g5, 22, none⟩ = some (.int .u64 (IntKind.u64.wrap (nn))) ∧ w'.cell? ⟨g5, 23, none⟩ = some (.string ⟨#[]⟩)) (first | exact ⟨below_drew (Below.refl _ _), F.out _ (below_drew (Below.refl _ _))⟩ | exact ⟨by assumption, F.out _ (by assumption)⟩) ((go_at_call 30; refine (whole_calls _ _).mono ?_; rintro e wb ⟨rfl, hb⟩; have hk := below_step (And.left (by assumption)) hb; clear hb)) | fail
          all_goals (go_wp2; go_roundw)
          all_goals first | exact ⟨j + 1, _, _, _, _, _, _, _, _, _, _, by omega, by go_num, rfl, rfl, rfl, rfl, ⟨Kd.C_below HS1.out (by assumption)⟩, ⟨by have := HN.out; omega⟩, ⟨below_step HWL.out (by assumption)⟩⟩ | (simp [intOf]; omega)
        · by_cases hn : -32768 < nn
          · have hnT : (-32768 < nn) = True := eq_true hn
            have hT : cdV false true nn = nn - 1 := by simp [cdV, hn]
            rw [hT] at HS1
            clear hT
            go_upto_region 15 with (fail)
            have f1 := (G.out _ (Below.refl _ _)).1
            have f2 := (G.out _ (Below.refl _ _)).2
            go_quiet (fail)
            try go_upto_region 16 with (fail)
            clear f1 f2 G
            generalize hwd : wc.drewN _ = wd
            have hX : Below wc.heap.size wc wd := by rw [← hwd]; exact pw_below_drewN (Below.refl _ _) _
            have HS1 := Aside0.mk (Kd.C_below HS1.out hX)
            have HWL := Aside0.mk (below_step HWL.out hX)
            clear hX hwd
            have e1 : wd.cell? ⟨g5, 21, none⟩ = some (.int .u8 3) := (C34_at HS1.out 7 (iv (nn - 1)) rfl).1
            have e2 : wd.cell? ⟨g5, 22, none⟩ = some (.int .u64 (IntKind.u64.wrap (nn - 1))) := (C34_at HS1.out 7 (iv (nn - 1)) rfl).2.1
            have e3 : wd.cell? ⟨g5, 23, none⟩ = some (.string ⟨#[]⟩) := (C34_at HS1.out 7 (iv (nn - 1)) rfl).2.2
            have F := Aside0.mk (show ∀ w', Below wd.heap.size wd w' → (w'.cell? ⟨g5, 21, none⟩ = some (.int .u8 3) ∧ w'.cell? ⟨g5, 22, none⟩ = some (.int .u64 (IntKind.u64.wrap (nn - 1))) ∧ w'.cell? ⟨g5, 23, none⟩ = some (.string ⟨#[]⟩)) from fun w' hb => ⟨(hb.cell (World.block_lt_of_cell? wd _ e1)).trans e1, (hb.cell (World.block_lt_of_cell? wd _ e2)).trans e2, (hb.cell (World.block_lt_of_cell? wd _ e3)).trans e3⟩)
            clear e1 e2 e3
            first | go_region_held (fun w' => Below wd.heap.size wd w' ∧ w'.cell? ⟨g5, 21, none⟩ = some (.int .u8 3) ∧ w'.cell? ⟨g5, 22, none⟩ = some (.int .u64 (IntKind.u64.wrap (nn - 1))) ∧ w'.cell? ⟨g5, 23, none⟩ = some (.string ⟨#[]⟩)) (first | exact ⟨below_drew (Below.refl _ _), F.out _ (below_drew (Below.refl _ _))⟩ | exact ⟨by assumption, F.out _ (by assumption)⟩) ((go_at_call 30; refine (whole_calls _ _).mono ?_; rintro e wb ⟨rfl, hb⟩; have hk := below_step (And.left (by assumption)) hb; clear hb)) | fail
            all_goals (go_wp2; go_roundw)
            all_goals first | exact ⟨j + 1, _, _, _, _, _, _, _, _, _, _, by omega, by go_num, rfl, rfl, rfl, rfl, ⟨Kd.C_below HS1.out (by assumption)⟩, ⟨by have := HN.out; omega⟩, ⟨below_step HWL.out (by assumption)⟩⟩ | (simp [intOf]; omega)
          · have hnF : (-32768 < nn) = False := eq_false hn
            have hT : cdV false true nn = nn := by simp [cdV, hn]
            rw [hT] at HS1
            clear hT
            go_upto_region 15 with (fail)
            have f1 := (G.out _ (Below.refl _ _)).1
            have f2 := (G.out _ (Below.refl _ _)).2
            go_quiet (fail)
            try go_upto_region 16 with (fail)
            clear f1 f2 G
            generalize hwd : wc.drewN _ = wd
            have hX : Below wc.heap.size wc wd := by rw [← hwd]; exact pw_below_drewN (Below.refl _ _) _
            have HS1 := Aside0.mk (Kd.C_below HS1.out hX)
            have HWL := Aside0.mk (below_step HWL.out hX)
            clear hX hwd
            have e1 : wd.cell? ⟨g5, 21, none⟩ = some (.int .u8 3) := (C34_at HS1.out 7 (iv (nn)) rfl).1
            have e2 : wd.cell? ⟨g5, 22, none⟩ = some (.int .u64 (IntKind.u64.wrap (nn))) := (C34_at HS1.out 7 (iv (nn)) rfl).2.1
            have e3 : wd.cell? ⟨g5, 23, none⟩ = some (.string ⟨#[]⟩) := (C34_at HS1.out 7 (iv (nn)) rfl).2.2
            have F := Aside0.mk (show ∀ w', Below wd.heap.size wd w' → (w'.cell? ⟨g5, 21, none⟩ = some (.int .u8 3) ∧ w'.cell? ⟨g5, 22, none⟩ = some (.int .u64 (IntKind.u64.wrap (nn))) ∧ w'.cell? ⟨g5, 23, none⟩ = some (.string ⟨#[]⟩)) from fun w' hb => ⟨(hb.cell (World.block_lt_of_cell? wd _ e1)).trans e1, (hb.cell (World.block_lt_of_cell? wd _ e2)).trans e2, (hb.cell (World.block_lt_of_cell? wd _ e3)).trans e3⟩)
            clear e1 e2 e3
            first | go_region_held (fun w' => Below wd.heap.size wd w' ∧ w'.cell? ⟨g5, 21, none⟩ = some (.int .u8 3) ∧ w'.cell? ⟨g5, 22, none⟩ = some (.int .u64 (IntKind.u64.wrap (nn))) ∧ w'.cell? ⟨g5, 23, none⟩ = some (.string ⟨#[]⟩)) (first | exact ⟨below_drew (Below.refl _ _), F.out _ (below_drew (Below.refl _ _))⟩ | exact ⟨by assumption, F.out _ (by assumption)⟩) ((go_at_call 30; refine (whole_calls _ _).mono ?_; rintro e wb ⟨rfl, hb⟩; have hk := below_step (And.left (by assumption)) hb; clear hb)) | fail
            all_goals (go_wp2; go_roundw)
            all_goals first | exact ⟨j + 1, _, _, _, _, _, _, _, _, _, _, by omega, by go_num, rfl, rfl, rfl, rfl, ⟨Kd.C_below HS1.out (by assumption)⟩, ⟨by have := HN.out; omega⟩, ⟨below_step HWL.out (by assumption)⟩⟩ | (simp [intOf]; omega)
        · by_cases hn : nn < 32767
          · have hnT : (nn < 32767) = True := eq_true hn
            have hT : cdV true false nn = nn + 1 := by simp [cdV, hn]
            rw [hT] at HS1
            clear hT
            go_upto_region 15 with (fail)
            have f1 := (G.out _ (Below.refl _ _)).1
            have f2 := (G.out _ (Below.refl _ _)).2
            go_quiet (fail)
            try go_upto_region 16 with (fail)
            clear f1 f2 G
            generalize hwd : wc.drewN _ = wd
            have hX : Below wc.heap.size wc wd := by rw [← hwd]; exact pw_below_drewN (Below.refl _ _) _
            have HS1 := Aside0.mk (Kd.C_below HS1.out hX)
            have HWL := Aside0.mk (below_step HWL.out hX)
            clear hX hwd
            have e1 : wd.cell? ⟨g5, 21, none⟩ = some (.int .u8 3) := (C34_at HS1.out 7 (iv (nn + 1)) rfl).1
            have e2 : wd.cell? ⟨g5, 22, none⟩ = some (.int .u64 (IntKind.u64.wrap (nn + 1))) := (C34_at HS1.out 7 (iv (nn + 1)) rfl).2.1
            have e3 : wd.cell? ⟨g5, 23, none⟩ = some (.string ⟨#[]⟩) := (C34_at HS1.out 7 (iv (nn + 1)) rfl).2.2
            have F := Aside0.mk (show ∀ w', Below wd.heap.size wd w' → (w'.cell? ⟨g5, 21, none⟩ = some (.int .u8 3) ∧ w'.cell? ⟨g5, 22, none⟩ = some (.int .u64 (IntKind.u64.wrap (nn + 1))) ∧ w'.cell? ⟨g5, 23, none⟩ = some (.string ⟨#[]⟩)) from fun w' hb => ⟨(hb.cell (World.block_lt_of_cell? wd _ e1)).trans e1, (hb.cell (World.block_lt_of_cell? wd _ e2)).trans e2, (hb.cell (World.block_lt_of_cell? wd _ e3)).trans e3⟩)
            clear e1 e2 e3
            first | go_region_held (fun w' => Below wd.heap.size wd w' ∧ w'.cell? ⟨g5, 21, none⟩ = some (.int .u8 3) ∧ w'.cell? ⟨g5, 22, none⟩ = some (.int .u64 (IntKind.u64.wrap (nn + 1))) ∧ w'.cell? ⟨g5, 23, none⟩ = some (.string ⟨#[]⟩)) (first | exact ⟨below_drew (Below.refl _ _), F.out _ (below_drew (Below.refl _ _))⟩ | exact ⟨by assumption, F.out _ (by assumption)⟩) ((go_at_call 30; refine (whole_calls _ _).mono ?_; rintro e wb ⟨rfl, hb⟩; have hk := below_step (And.left (by assumption)) hb; clear hb)) | fail
            all_goals (go_wp2; go_roundw)
            all_goals first | exact ⟨j + 1, _, _, _, _, _, _, _, _, _, _, by omega, by go_num, rfl, rfl, rfl, rfl, ⟨Kd.C_below HS1.out (by assumption)⟩, ⟨by have := HN.out; omega⟩, ⟨below_step HWL.out (by assumption)⟩⟩ | (simp [intOf]; omega)
          · have hnF : (nn < 32767) = False := eq_false hn
            have hT : cdV true false nn = nn := by simp [cdV, hn]
            rw [hT] at HS1
            clear hT
            go_upto_region 15 with (fail)
            have f1 := (G.out _ (Below.refl _ _)).1
            have f2 := (G.out _ (Below.refl _ _)).2
            go_quiet (fail)
            try go_upto_region 16 with (fail)
            clear f1 f2 G
            generalize hwd : wc.drewN _ = wd
            have hX : Below wc.heap.size wc wd := by rw [← hwd]; exact pw_below_drewN (Below.refl _ _) _
            have HS1 := Aside0.mk (Kd.C_below HS1.out hX)
            have HWL := Aside0.mk (below_step HWL.out hX)
            clear hX hwd
            have e1 : wd.cell? ⟨g5, 21, none⟩ = some (.int .u8 3) := (C34_at HS1.out 7 (iv (nn)) rfl).1
            have e2 : wd.cell? ⟨g5, 22, none⟩ = some (.int .u64 (IntKind.u64.wrap (nn))) := (C34_at HS1.out 7 (iv (nn)) rfl).2.1
            have e3 : wd.cell? ⟨g5, 23, none⟩ = some (.string ⟨#[]⟩) := (C34_at HS1.out 7 (iv (nn)) rfl).2.2
            have F := Aside0.mk (show ∀ w', Below wd.heap.size wd w' → (w'.cell? ⟨g5, 21, none⟩ = some (.int .u8 3) ∧ w'.cell? ⟨g5, 22, none⟩ = some (.int .u64 (IntKind.u64.wrap (nn))) ∧ w'.cell? ⟨g5, 23, none⟩ = some (.string ⟨#[]⟩)) from fun w' hb => ⟨(hb.cell (World.block_lt_of_cell? wd _ e1)).trans e1, (hb.cell (World.block_lt_of_cell? wd _ e2)).trans e2, (hb.cell (World.block_lt_of_cell? wd _ e3)).trans e3⟩)
            clear e1 e2 e3
            first | go_region_held (fun w' => Below wd.heap.size wd w' ∧ w'.cell? ⟨g5, 21, none⟩ = some (.int .u8 3) ∧ w'.cell? ⟨g5, 22, none⟩ = some (.int .u64 (IntKind.u64.wrap (nn))) ∧ w'.cell? ⟨g5, 23, none⟩ = some (.string ⟨#[]⟩)) (first | exact ⟨below_drew (Below.refl _ _), F.out _ (below_drew (Below.refl _ _))⟩ | exact ⟨by assumption, F.out _ (by assumption)⟩) ((go_at_call 30; refine (whole_calls _ _).mono ?_; rintro e wb ⟨rfl, hb⟩; have hk := below_step (And.left (by assumption)) hb; clear hb)) | fail
            all_goals (go_wp2; go_roundw)
            all_goals first | exact ⟨j + 1, _, _, _, _, _, _, _, _, _, _, by omega, by go_num, rfl, rfl, rfl, rfl, ⟨Kd.C_below HS1.out (by assumption)⟩, ⟨by have := HN.out; omega⟩, ⟨below_step HWL.out (by assumption)⟩⟩ | (simp [intOf]; omega)
        · have hT : cdV true true nn = nn := by simp [cdV]
          rw [hT] at HS1
          clear hT
          go_upto_region 15 with (fail)
          have f1 := (G.out _ (Below.refl _ _)).1
          have f2 := (G.out _ (Below.refl _ _)).2
          go_quiet (fail)
          try go_upto_region 16 with (fail)
          clear f1 f2 G
          generalize hwd : wc.drewN _ = wd
          have hX : Below wc.heap.size wc wd := by rw [← hwd]; exact pw_below_drewN (Below.refl _ _) _
          have HS1 := Aside0.mk (Kd.C_below HS1.out hX)
          have HWL := Aside0.mk (below_step HWL.out hX)
          clear hX hwd
          have e1 : wd.cell? ⟨g5, 21, none⟩ = some (.int .u8 3) := (C34_at HS1.out 7 (iv (nn)) rfl).1
          have e2 : wd.cell? ⟨g5, 22, none⟩ = some (.int .u64 (IntKind.u64.wrap (nn))) := (C34_at HS1.out 7 (iv (nn)) rfl).2.1
          have e3 : wd.cell? ⟨g5, 23, none⟩ = some (.string ⟨#[]⟩) := (C34_at HS1.out 7 (iv (nn)) rfl).2.2
          have F := Aside0.mk (show ∀ w', Below wd.heap.size wd w' → (w'.cell? ⟨g5, 21, none⟩ = some (.int .u8 3) ∧ w'.cell? ⟨g5, 22, none⟩ = some (.int .u64 (IntKind.u64.wrap (nn))) ∧ w'.cell? ⟨g5, 23, none⟩ = some (.string ⟨#[]⟩)) from fun w' hb => ⟨(hb.cell (World.block_lt_of_cell? wd _ e1)).trans e1, (hb.cell (World.block_lt_of_cell? wd _ e2)).trans e2, (hb.cell (World.block_lt_of_cell? wd _ e3)).trans e3⟩)
          clear e1 e2 e3
          first | go_region_held (fun w' => Below wd.heap.size wd w' ∧ w'.cell? ⟨g5, 21, none⟩ = some (.int .u8 3) ∧ w'.cell? ⟨g5, 22, none⟩ = some (.int .u64 (IntKind.u64.wrap (nn))) ∧ w'.cell? ⟨g5, 23, none⟩ = some (.string ⟨#[]⟩)) (first | exact ⟨below_drew (Below.refl _ _), F.out _ (below_drew (Below.refl _ _))⟩ | exact ⟨by assumption, F.out _ (by assumption)⟩) ((go_at_call 30; refine (whole_calls _ _).mono ?_; rintro e wb ⟨rfl, hb⟩; have hk := below_step (And.left (by assumption)) hb; clear hb)) | fail
          all_goals (go_wp2; go_roundw)
          all_goals first | exact ⟨j + 1, _, _, _, _, _, _, _, _, _, _, by omega, by go_num, rfl, rfl, rfl, rfl, ⟨Kd.C_below HS1.out (by assumption)⟩, ⟨by have := HN.out; omega⟩, ⟨below_step HWL.out (by assumption)⟩⟩ | (simp [intOf]; omega)
    · obtain rfl : j = mn := by omega
      go_upto_region 19 with (fail)
      have e1 : wr.cell? ⟨g, 15, none⟩ = some (.int .u8 1) := (C34_at HS1.out 5 (bv (decide (pv ≤ nn))) rfl).1
      have e2 : wr.cell? ⟨g, 16, none⟩ = some (.int .u64 (B.b2i (decide (pv ≤ nn)))) := (C34_at HS1.out 5 (bv (decide (pv ≤ nn))) rfl).2.1
      have e3 : wr.cell? ⟨g, 17, none⟩ = some (.string ⟨#[]⟩) := (C34_at HS1.out 5 (bv (decide (pv ≤ nn))) rfl).2.2
      have e4 : wr.cell? ⟨g, 18, none⟩ = some (.int .u8 1) := (C34_at HS1.out 6 (bv (decide (nn ≤ 0))) rfl).1
      have e5 : wr.cell? ⟨g, 19, none⟩ = some (.int .u64 (B.b2i (decide (nn ≤ 0)))) := (C34_at HS1.out 6 (bv (decide (nn ≤ 0))) rfl).2.1
      have e6 : wr.cell? ⟨g, 20, none⟩ = some (.string ⟨#[]⟩) := (C34_at HS1.out 6 (bv (decide (nn ≤ 0))) rfl).2.2
      have F := Aside0.mk (show ∀ w', Below wr.heap.size wr w' → (w'.cell? ⟨g, 15, none⟩ = some (.int .u8 1) ∧ w'.cell? ⟨g, 16, none⟩ = some (.int .u64 (B.b2i (decide (pv ≤ nn)))) ∧ w'.cell? ⟨g, 17, none⟩ = some (.string ⟨#[]⟩) ∧ w'.cell? ⟨g, 18, none⟩ = some (.int .u8 1) ∧ w'.cell? ⟨g, 19, none⟩ = some (.int .u64 (B.b2i (decide (nn ≤ 0)))) ∧ w'.cell? ⟨g, 20, none⟩ = some (.string ⟨#[]⟩)) from fun w' hb => ⟨(hb.cell (World.block_lt_of_cell? wr _ e1)).trans e1, (hb.cell (World.block_lt_of_cell? wr _ e2)).trans e2, (hb.cell (World.block_lt_of_cell? wr _ e3)).trans e3, (hb.cell (World.block_lt_of_cell? wr _ e4)).trans e4, (hb.cell (World.block_lt_of_cell? wr _ e5)).trans e5, (hb.cell (World.block_lt_of_cell? wr _ e6)).trans e6⟩)
      clear e1 e2 e3 e4 e5 e6
      first | go_region_held (fun w' => Below wr.heap.size wr w' ∧ w'.cell? ⟨g, 15, none⟩ = some (.int .u8 1) ∧ w'.cell? ⟨g, 16, none⟩ = some (.int .u64 (B.b2i (decide (pv ≤ nn)))) ∧ w'.cell? ⟨g, 17, none⟩ = some (.string ⟨#[]⟩) ∧ w'.cell? ⟨g, 18, none⟩ = some (.int .u8 1) ∧ w'.cell? ⟨g, 19, none⟩ = some (.int .u64 (B.b2i (decide (nn ≤ 0)))) ∧ w'.cell? ⟨g, 20, none⟩ = some (.string ⟨#[]⟩)) (first | exact ⟨below_drew (Below.refl _ _), F.out _ (below_drew (Below.refl _ _))⟩ | exact ⟨by assumption, F.out _ (by assumption)⟩) ((go_at_call 25; refine (bitL _ _).mono ?_; rintro e wb ⟨rfl, hb⟩; have hk := below_step (And.left (by assumption)) hb; clear hb)) | fail
      all_goals (go_wp2; go_ret; exact ⟨rfl, below_step HB.out (below_step HWL.out (by assumption))⟩)

end Go.Proofs.Ytfadafgnahhmdaa.X

