import Derived.Test.YtfadafgnahhmdaaCN
import Derived.Deep.RegionHeldLaw
import Derived.Deep.DeepCutAuto
namespace Go.Proofs.Ytfadafgnahhmdaa.X
open Go.RowKit Go.Proofs.YtfadafgnahhmdaaW.PrintWords Go.Proofs.YtfadafgnahhmdaaW.PrintLast Go.Proofs.YtfadafgnahhmdaaW.PrintMore Go.Proofs.Ytfadafgnahhmdaa.E
attribute [local go_sem] max2_int min2_int max_two min_two max_three min_three max_four min_four
set_option linter.unusedVariables false
set_option linter.unusedSimpArgs false

attribute [local go_sem high] eqA34
theorem pv_bd (n : Int) : -32768 ≤ wrap64 (IntKind.i16.wrap n) ∧ wrap64 (IntKind.i16.wrap n) ≤ 32767 := by
  have h : IntKind.i16.wrap n = (n + 32768) % 65536 - 32768 := by
    simp [IntKind.wrap, IntKind.signed, IntKind.bits]
    split <;> omega
  rw [h]
  unfold wrap64
  omega
set_option maxHeartbeats 8000000 in
set_option maxRecDepth 100000 in
theorem counts_calls (A B' : Option Addr) (n cp nr cr : Nat) (l lr : List Bool) (pv0 : Int) (w : World) (hr : Kd.C Kd.bool w A n l) (hrr : Kd.C Kd.bool w B' nr lr) (hl : n ≤ 140737488351232) (hlr : nr ≤ 140737488351232) :
    Calls Try.prog 7 #[.slice A n cp, .slice B' nr cr, .int .i64 pv0] w fun e w' => e = .returned (.bool true) ∧ Below w.heap.size w w' := by
  have hu34 := Try.underlying34
  have q30 : ∀ (w : World) (a : Option Addr) (n c n' c' : Nat), (binOp .eql 30 (.slice a n c) (.slice none n' c')).run Try.prog w = .ok (.bool a.isNone) w := fun w a n c n' c' => Lib.run_eql_slice_nil w _ _ a n c n' c' Try.underlying30
  have HR := Aside0.mk hr
  have HRR := Aside0.mk hrr
  have HL := Aside0.mk hl
  have HLR := Aside0.mk hlr
  clear hr hrr hl hlr
  go_enter Try.func7, Try.ntmps7
  go_upto_region 2 with (fail)
  have hpv := pv_bd pv0
  generalize wrap64 (IntKind.i16.wrap pv0) = pv at hpv ⊢
  have HPV := Aside0.mk hpv
  clear hpv
  go_upto_region 4 with (go_at_call 23; refine (startG 5 _ 6 _ start5 rfl (by omega)).mono ?_; rintro e w1 ⟨g1, c1, rfl, hC, hb⟩; have HB := Aside0.mk hb; have HS1 := Aside0.mk hC; clear hb hC)
  have HR2 := Aside0.mk (Kd.C_alloc (Kd.C_below HR.out HB.out) (.cells #[.bool true] 4))
  go_wp2_with (at_builtin; refine Kd.R_append_rows Kd.bool (Rr := fun x cs => cs = [.bool x]) (w0 := w1) w1.heap.size rfl (.tmp 17) (.tmp 18) 44 4 (.bool false) 1 rfl Try.underlying44 info4 rfl (by decide) (by omega) (.slice (some ⟨w1.heap.size, 0, none⟩) 1 1) [true] l A n cp (fun _ => True) (fun _ => False) rfl rfl (R_litB _ _ (Nat.le_refl _) [true] _ rfl (by simp)) HR2.out (fun _ _ h => h) (fun _ h => h.elim) (fun _ _ => trivial) (below_alloc (Below.refl _ _) _) (by simp) (by have := HL.out; simp; omega) ?_; intro vl w3 ho hb hg hat; obtain ⟨ys, hys⟩ : ∃ ys, ys = [true] ++ l := ⟨_, rfl⟩; rw [← hys] at ho; clear hys; obtain ⟨Al, cl, rfl, hle, hC⟩ := Kd.R_reads ho; have HB := Aside0.mk (below_step HB.out hb); have HS1 := Aside0.mk (Kd.C_below HS1.out hb); have HCL := Aside0.mk hC; clear ho hb hg hat hC)
  clear HR2
  have HRR := Aside0.mk (Kd.C_below HRR.out HB.out)
  have HM : Aside0 (ys.length ≤ 9223372036854775807) := ⟨HCL.out.2.1⟩
  clear hle
  go_loopw [7, 8, 9, 21] (fun s7 s8 s9 i wr => ∃ (j g c : Nat) (b0 b1 : Bool) (p0 : Int) (q : Bool) (nn : Int) (m : Bool), j ≤ ys.length ∧ i = .int .i64 j ∧ s7 = .slice (some ⟨g, 0, none⟩) 6 c ∧ s8 = .int .i64 nn ∧ s9 = .bool m ∧
      Aside0 (Kd.C k34 wr (some ⟨g, 0, none⟩) 6 [bv b0, bv b1, iv p0, bv q, iv nn, bv m]) ∧ Aside0 (0 ≤ nn ∧ nn ≤ 32767) ∧ Aside0 (Below w3.heap.size w3 wr)) (fun _ _ _ i _ => ys.length - (intOf i).toNat)
  case atStart => exact ⟨0, _, _, _, _, _, _, _, _, Nat.zero_le _, rfl, rfl, rfl, rfl, HS1, ⟨by omega⟩, ⟨Below.refl _ _⟩⟩
  case round =>
    obtain ⟨j, g, c, b0, b1, p0, q, nn, m, hj, rfl, rfl, rfl, rfl, HS1, HN, HWL⟩ := hrel
    by_cases hlt : j < ys.length
    · obtain ⟨ad, x, rfl, hx, hc⟩ := at_B (Kd.C_below HCL.out HWL.out) j hlt
      clear hx
      have hm := HM.out
      have hb1 : (0 ≤ (j : Int)) = True := eq_true (by omega)
      have hb2 : ((j : Int) < (ys.length : Int)) = True := eq_true (by omega)
      have HW : Aside0 (Below wr.heap.size wr wr) := ⟨Below.refl _ _⟩
      go_upto_region 7 with (fail)
      clear hc hb1 hb2
      go_cut [12] (fun s12 w => ∃ rs : Bool, s12 = .bool rs ∧ w = wr)
      case first =>
        by_cases h0 : j = 0
        · subst h0
          go_wp2
          go_meet
          case rel => exact ⟨_, rfl, rfl⟩
        · obtain ⟨jj, rfl⟩ : ∃ jj, j = jj + 1 := ⟨j - 1, by omega⟩
          have t1 : (0 < (jj : Int) + 1) = True := eq_true (by omega)
          by_cases h1 : jj + 1 ≤ nr
          · have t2 : ((jj : Int) + 1 ≤ (nr : Int)) = True := eq_true (by omega)
            have t3 : wrap64 (jj : Int) = jj := by unfold wrap64; omega
            have t4 : wrap64 ((jj : Int) + 1 - 1) = jj := by unfold wrap64; omega
            obtain ⟨ad2, x2, rfl, hx2, hc2⟩ := at_B (Kd.C_below HRR.out HWL.out) jj (by omega)
            clear hx2
            have hb1 : (0 ≤ (jj : Int)) = True := eq_true (by omega)
            have hb2 : ((jj : Int) < (nr : Int)) = True := eq_true (by omega)
            go_wp2
            go_meet
            case rel => exact ⟨_, rfl, rfl⟩
          · have t2 : ((jj : Int) + 1 ≤ (nr : Int)) = False := eq_false (by omega)
            go_wp2
            go_meet
            case rel => exact ⟨_, rfl, rfl⟩
      case rest =>
        obtain ⟨rs, rfl, hwc⟩ := hcut
        subst hwc
        go_upto_region 9 with (first | (go_at_call 25; refine (bitL _ _).mono ?_; rintro e wb ⟨rfl, hb⟩; have HW := Aside0.mk (below_step HW.out hb); clear hb) | (go_at_call 30; refine (whole_calls _ _).mono ?_; rintro e wb ⟨rfl, hb⟩; have HW := Aside0.mk (below_step HW.out hb); clear hb) | (go_at_call 26; refine (stepL 5 (n := 6) (m := 3) (now := 0) (l := [bv b0, bv b1, iv p0, bv q, iv nn, bv m]) (is := [bv x, bv rs, iv pv]) (ctu_step x rs b0 b1 pv p0 q nn m HPV.out.1 HPV.out.2 HN.out.1 HN.out.2) rfl ?aA ?aB (by omega) (by omega) (by omega)).mono ?_; (case aA => exact Kd.C_alloc (Kd.C_below HS1.out HW.out) _); (case aB => exact C34_lit _ [bv x, bv rs, iv pv] _ rfl (by simp)); rintro e w5 ⟨g5, c5, rfl, h1, h2⟩; have hX := below_step (below_alloc HW.out _) h2; have HS1 := Aside0.mk h1; have HWL := Aside0.mk (below_step HWL.out hX); clear h1 h2 hX))
        clear HW
        have hadd : wrap64 (nn + 1) = nn + 1 := by have := HN.out; unfold wrap64; omega
        cases rs
        · cases x
          · have hT : cuN false false m nn = nn := by simp [cuN]
            rw [hT] at HS1
            clear hT
            go_upto_region 14 with (fail)
            have e1 : w5.cell? ⟨g5, 12, none⟩ = some (.int .u8 3) := (C34_at HS1.out 4 (iv (nn)) rfl).1
            have e2 : w5.cell? ⟨g5, 13, none⟩ = some (.int .u64 (IntKind.u64.wrap (nn))) := (C34_at HS1.out 4 (iv (nn)) rfl).2.1
            have e3 : w5.cell? ⟨g5, 14, none⟩ = some (.string ⟨#[]⟩) := (C34_at HS1.out 4 (iv (nn)) rfl).2.2
            have e4 : w5.cell? ⟨g5, 9, none⟩ = some (.int .u8 1) := (C34_at HS1.out 3 (bv (decide (pv ≤ nn))) rfl).1
            have e5 : w5.cell? ⟨g5, 10, none⟩ = some (.int .u64 (B.b2i (decide (pv ≤ nn)))) := (C34_at HS1.out 3 (bv (decide (pv ≤ nn))) rfl).2.1
            have e6 : w5.cell? ⟨g5, 11, none⟩ = some (.string ⟨#[]⟩) := (C34_at HS1.out 3 (bv (decide (pv ≤ nn))) rfl).2.2
            have F := Aside0.mk (show ∀ w', Below w5.heap.size w5 w' → (w'.cell? ⟨g5, 12, none⟩ = some (.int .u8 3) ∧ w'.cell? ⟨g5, 13, none⟩ = some (.int .u64 (IntKind.u64.wrap (nn))) ∧ w'.cell? ⟨g5, 14, none⟩ = some (.string ⟨#[]⟩) ∧ w'.cell? ⟨g5, 9, none⟩ = some (.int .u8 1) ∧ w'.cell? ⟨g5, 10, none⟩ = some (.int .u64 (B.b2i (decide (pv ≤ nn)))) ∧ w'.cell? ⟨g5, 11, none⟩ = some (.string ⟨#[]⟩)) from fun w' hb => ⟨(hb.cell (World.block_lt_of_cell? w5 _ e1)).trans e1, (hb.cell (World.block_lt_of_cell? w5 _ e2)).trans e2, (hb.cell (World.block_lt_of_cell? w5 _ e3)).trans e3, (hb.cell (World.block_lt_of_cell? w5 _ e4)).trans e4, (hb.cell (World.block_lt_of_cell? w5 _ e5)).trans e5, (hb.cell (World.block_lt_of_cell? w5 _ e6)).trans e6⟩)
            clear e1 e2 e3 e4 e5 e6
            first | go_region_held (fun w' => Below w5.heap.size w5 w' ∧ w'.cell? ⟨g5, 12, none⟩ = some (.int .u8 3) ∧ w'.cell? ⟨g5, 13, none⟩ = some (.int .u64 (IntKind.u64.wrap (nn))) ∧ w'.cell? ⟨g5, 14, none⟩ = some (.string ⟨#[]⟩) ∧ w'.cell? ⟨g5, 9, none⟩ = some (.int .u8 1) ∧ w'.cell? ⟨g5, 10, none⟩ = some (.int .u64 (B.b2i (decide (pv ≤ nn)))) ∧ w'.cell? ⟨g5, 11, none⟩ = some (.string ⟨#[]⟩)) (first | exact ⟨below_drew (Below.refl _ _), F.out _ (below_drew (Below.refl _ _))⟩ | exact ⟨by assumption, F.out _ (by assumption)⟩) (first | (go_at_call 25; refine (bitL _ _).mono ?_; rintro e wb ⟨rfl, hb⟩; have hk := below_step (And.left (by assumption)) hb; clear hb) | (go_at_call 30; refine (whole_calls _ _).mono ?_; rintro e wb ⟨rfl, hb⟩; have hk := below_step (And.left (by assumption)) hb; clear hb)) | fail
            all_goals (go_wp2; go_roundw)
            all_goals first | exact ⟨j + 1, _, _, _, _, _, _, _, _, by omega, by go_num, rfl, rfl, rfl, ⟨Kd.C_below HS1.out (by assumption)⟩, ⟨by have := HN.out; omega⟩, ⟨below_step HWL.out (by assumption)⟩⟩ | (simp [intOf]; omega)
          · cases m
            · by_cases hn : nn < 32767
              · have hnT : (nn < 32767) = True := eq_true hn
                have hT : cuN true false false nn = nn + 1 := by simp [cuN, hn]
                rw [hT] at HS1
                clear hT
                go_upto_region 14 with (fail)
                have e1 : w5.cell? ⟨g5, 12, none⟩ = some (.int .u8 3) := (C34_at HS1.out 4 (iv (nn + 1)) rfl).1
                have e2 : w5.cell? ⟨g5, 13, none⟩ = some (.int .u64 (IntKind.u64.wrap (nn + 1))) := (C34_at HS1.out 4 (iv (nn + 1)) rfl).2.1
                have e3 : w5.cell? ⟨g5, 14, none⟩ = some (.string ⟨#[]⟩) := (C34_at HS1.out 4 (iv (nn + 1)) rfl).2.2
                have e4 : w5.cell? ⟨g5, 9, none⟩ = some (.int .u8 1) := (C34_at HS1.out 3 (bv (decide (pv ≤ nn + 1))) rfl).1
                have e5 : w5.cell? ⟨g5, 10, none⟩ = some (.int .u64 (B.b2i (decide (pv ≤ nn + 1)))) := (C34_at HS1.out 3 (bv (decide (pv ≤ nn + 1))) rfl).2.1
                have e6 : w5.cell? ⟨g5, 11, none⟩ = some (.string ⟨#[]⟩) := (C34_at HS1.out 3 (bv (decide (pv ≤ nn + 1))) rfl).2.2
                have F := Aside0.mk (show ∀ w', Below w5.heap.size w5 w' → (w'.cell? ⟨g5, 12, none⟩ = some (.int .u8 3) ∧ w'.cell? ⟨g5, 13, none⟩ = some (.int .u64 (IntKind.u64.wrap (nn + 1))) ∧ w'.cell? ⟨g5, 14, none⟩ = some (.string ⟨#[]⟩) ∧ w'.cell? ⟨g5, 9, none⟩ = some (.int .u8 1) ∧ w'.cell? ⟨g5, 10, none⟩ = some (.int .u64 (B.b2i (decide (pv ≤ nn + 1)))) ∧ w'.cell? ⟨g5, 11, none⟩ = some (.string ⟨#[]⟩)) from fun w' hb => ⟨(hb.cell (World.block_lt_of_cell? w5 _ e1)).trans e1, (hb.cell (World.block_lt_of_cell? w5 _ e2)).trans e2, (hb.cell (World.block_lt_of_cell? w5 _ e3)).trans e3, (hb.cell (World.block_lt_of_cell? w5 _ e4)).trans e4, (hb.cell (World.block_lt_of_cell? w5 _ e5)).trans e5, (hb.cell (World.block_lt_of_cell? w5 _ e6)).trans e6⟩)
                clear e1 e2 e3 e4 e5 e6
                first | go_region_held (fun w' => Below w5.heap.size w5 w' ∧ w'.cell? ⟨g5, 12, none⟩ = some (.int .u8 3) ∧ w'.cell? ⟨g5, 13, none⟩ = some (.int .u64 (IntKind.u64.wrap (nn + 1))) ∧ w'.cell? ⟨g5, 14, none⟩ = some (.string ⟨#[]⟩) ∧ w'.cell? ⟨g5, 9, none⟩ = some (.int .u8 1) ∧ w'.cell? ⟨g5, 10, none⟩ = some (.int .u64 (B.b2i (decide (pv ≤ nn + 1)))) ∧ w'.cell? ⟨g5, 11, none⟩ = some (.string ⟨#[]⟩)) (first | exact ⟨below_drew (Below.refl _ _), F.out _ (below_drew (Below.refl _ _))⟩ | exact ⟨by assumption, F.out _ (by assumption)⟩) (first | (go_at_call 25; refine (bitL _ _).mono ?_; rintro e wb ⟨rfl, hb⟩; have hk := below_step (And.left (by assumption)) hb; clear hb) | (go_at_call 30; refine (whole_calls _ _).mono ?_; rintro e wb ⟨rfl, hb⟩; have hk := below_step (And.left (by assumption)) hb; clear hb)) | fail
                all_goals (go_wp2; go_roundw)
                all_goals first | exact ⟨j + 1, _, _, _, _, _, _, _, _, by omega, by go_num, rfl, rfl, rfl, ⟨Kd.C_below HS1.out (by assumption)⟩, ⟨by have := HN.out; omega⟩, ⟨below_step HWL.out (by assumption)⟩⟩ | (simp [intOf]; omega)
              · have hnF : (nn < 32767) = False := eq_false hn
                have hT : cuN true false false nn = nn := by simp [cuN, hn]
                rw [hT] at HS1
                clear hT
                go_upto_region 14 with (fail)
                have e1 : w5.cell? ⟨g5, 12, none⟩ = some (.int .u8 3) := (C34_at HS1.out 4 (iv (nn)) rfl).1
                have e2 : w5.cell? ⟨g5, 13, none⟩ = some (.int .u64 (IntKind.u64.wrap (nn))) := (C34_at HS1.out 4 (iv (nn)) rfl).2.1
                have e3 : w5.cell? ⟨g5, 14, none⟩ = some (.string ⟨#[]⟩) := (C34_at HS1.out 4 (iv (nn)) rfl).2.2
                have e4 : w5.cell? ⟨g5, 9, none⟩ = some (.int .u8 1) := (C34_at HS1.out 3 (bv (decide (pv ≤ nn))) rfl).1
                have e5 : w5.cell? ⟨g5, 10, none⟩ = some (.int .u64 (B.b2i (decide (pv ≤ nn)))) := (C34_at HS1.out 3 (bv (decide (pv ≤ nn))) rfl).2.1
                have e6 : w5.cell? ⟨g5, 11, none⟩ = some (.string ⟨#[]⟩) := (C34_at HS1.out 3 (bv (decide (pv ≤ nn))) rfl).2.2
                have F := Aside0.mk (show ∀ w', Below w5.heap.size w5 w' → (w'.cell? ⟨g5, 12, none⟩ = some (.int .u8 3) ∧ w'.cell? ⟨g5, 13, none⟩ = some (.int .u64 (IntKind.u64.wrap (nn))) ∧ w'.cell? ⟨g5, 14, none⟩ = some (.string ⟨#[]⟩) ∧ w'.cell? ⟨g5, 9, none⟩ = some (.int .u8 1) ∧ w'.cell? ⟨g5, 10, none⟩ = some (.int .u64 (B.b2i (decide (pv ≤ nn)))) ∧ w'.cell? ⟨g5, 11, none⟩ = some (.string ⟨#[]⟩)) from fun w' hb => ⟨(hb.cell (World.block_lt_of_cell? w5 _ e1)).trans e1, (hb.cell (World.block_lt_of_cell? w5 _ e2)).trans e2, (hb.cell (World.block_lt_of_cell? w5 _ e3)).trans e3, (hb.cell (World.block_lt_of_cell? w5 _ e4)).trans e4, (hb.cell (World.block_lt_of_cell? w5 _ e5)).trans e5, (hb.cell (World.block_lt_of_cell? w5 _ e6)).trans e6⟩)
                clear e1 e2 e3 e4 e5 e6
                first | go_region_held (fun w' => Below w5.heap.size w5 w' ∧ w'.cell? ⟨g5, 12, none⟩ = some (.int .u8 3) ∧ w'.cell? ⟨g5, 13, none⟩ = some (.int .u64 (IntKind.u64.wrap (nn))) ∧ w'.cell? ⟨g5, 14, none⟩ = some (.string ⟨#[]⟩) ∧ w'.cell? ⟨g5, 9, none⟩ = some (.int .u8 1) ∧ w'.cell? ⟨g5, 10, none⟩ = some (.int .u64 (B.b2i (decide (pv ≤ nn)))) ∧ w'.cell? ⟨g5, 11, none⟩ = some (.string ⟨#[]⟩)) (first | exact ⟨below_drew (Below.refl _ _), F.out _ (below_drew (Below.refl _ _))⟩ | exact ⟨by assumption, F.out _ (by assumption)⟩) (first | (go_at_call 25; refine (bitL _ _).mono ?_; rintro e wb ⟨rfl, hb⟩; have hk := below_step (And.left (by assumption)) hb; clear hb) | (go_at_call 30; refine (whole_calls _ _).mono ?_; rintro e wb ⟨rfl, hb⟩; have hk := below_step (And.left (by assumption)) hb; clear hb)) | fail
                all_goals (go_wp2; go_roundw)
                all_goals first | exact ⟨j + 1, _, _, _, _, _, _, _, _, by omega, by go_num, rfl, rfl, rfl, ⟨Kd.C_below HS1.out (by assumption)⟩, ⟨by have := HN.out; omega⟩, ⟨below_step HWL.out (by assumption)⟩⟩ | (simp [intOf]; omega)
            · have hT : cuN true false true nn = nn := by simp [cuN]
              rw [hT] at HS1
              clear hT
              go_upto_region 14 with (fail)
              have e1 : w5.cell? ⟨g5, 12, none⟩ = some (.int .u8 3) := (C34_at HS1.out 4 (iv (nn)) rfl).1
              have e2 : w5.cell? ⟨g5, 13, none⟩ = some (.int .u64 (IntKind.u64.wrap (nn))) := (C34_at HS1.out 4 (iv (nn)) rfl).2.1
              have e3 : w5.cell? ⟨g5, 14, none⟩ = some (.string ⟨#[]⟩) := (C34_at HS1.out 4 (iv (nn)) rfl).2.2
              have e4 : w5.cell? ⟨g5, 9, none⟩ = some (.int .u8 1) := (C34_at HS1.out 3 (bv (decide (pv ≤ nn))) rfl).1
              have e5 : w5.cell? ⟨g5, 10, none⟩ = some (.int .u64 (B.b2i (decide (pv ≤ nn)))) := (C34_at HS1.out 3 (bv (decide (pv ≤ nn))) rfl).2.1
              have e6 : w5.cell? ⟨g5, 11, none⟩ = some (.string ⟨#[]⟩) := (C34_at HS1.out 3 (bv (decide (pv ≤ nn))) rfl).2.2
              have F := Aside0.mk (show ∀ w', Below w5.heap.size w5 w' → (w'.cell? ⟨g5, 12, none⟩ = some (.int .u8 3) ∧ w'.cell? ⟨g5, 13, none⟩ = some (.int .u64 (IntKind.u64.wrap (nn))) ∧ w'.cell? ⟨g5, 14, none⟩ = some (.string ⟨#[]⟩) ∧ w'.cell? ⟨g5, 9, none⟩ = some (.int .u8 1) ∧ w'.cell? ⟨g5, 10, none⟩ = some (.int .u64 (B.b2i (decide (pv ≤ nn)))) ∧ w'.cell? ⟨g5, 11, none⟩ = some (.string ⟨#[]⟩)) from fun w' hb => ⟨(hb.cell (World.block_lt_of_cell? w5 _ e1)).trans e1, (hb.cell (World.block_lt_of_cell? w5 _ e2)).trans e2, (hb.cell (World.block_lt_of_cell? w5 _ e3)).trans e3, (hb.cell (World.block_lt_of_cell? w5 _ e4)).trans e4, (hb.cell (World.block_lt_of_cell? w5 _ e5)).trans e5, (hb.cell (World.block_lt_of_cell? w5 _ e6)).trans e6⟩)
              clear e1 e2 e3 e4 e5 e6
              first | go_region_held (fun w' => Below w5.heap.size w5 w' ∧ w'.cell? ⟨g5, 12, none⟩ = some (.int .u8 3) ∧ w'.cell? ⟨g5, 13, none⟩ = some (.int .u64 (IntKind.u64.wrap (nn))) ∧ w'.cell? ⟨g5, 14, none⟩ = some (.string ⟨#[]⟩) ∧ w'.cell? ⟨g5, 9, none⟩ = some (.int .u8 1) ∧ w'.cell? ⟨g5, 10, none⟩ = some (.int .u64 (B.b2i (decide (pv ≤ nn)))) ∧ w'.cell? ⟨g5, 11, none⟩ = some (.string ⟨#[]⟩)) (first | exact ⟨below_drew (Below.refl _ _), F.out _ (below_drew (Below.refl _ _))⟩ | exact ⟨by assumption, F.out _ (by assumption)⟩) (first | (go_at_call 25; refine (bitL _ _).mono ?_; rintro e wb ⟨rfl, hb⟩; have hk := below_step (And.left (by assumption)) hb; clear hb) | (go_at_call 30; refine (whole_calls _ _).mono ?_; rintro e wb ⟨rfl, hb⟩; have hk := below_step (And.left (by assumption)) hb; clear hb)) | fail
              all_goals (go_wp2; go_roundw)
              all_goals first | exact ⟨j + 1, _, _, _, _, _, _, _, _, by omega, by go_num, rfl, rfl, rfl, ⟨Kd.C_below HS1.out (by assumption)⟩, ⟨by have := HN.out; omega⟩, ⟨below_step HWL.out (by assumption)⟩⟩ | (simp [intOf]; omega)
        · have hT : cuN x true m nn = 0 := by simp [cuN]
          rw [hT] at HS1
          clear hT
          go_upto_region 14 with (fail)
          have e1 : w5.cell? ⟨g5, 12, none⟩ = some (.int .u8 3) := (C34_at HS1.out 4 (iv (0)) rfl).1
          have e2 : w5.cell? ⟨g5, 13, none⟩ = some (.int .u64 (IntKind.u64.wrap (0))) := (C34_at HS1.out 4 (iv (0)) rfl).2.1
          have e3 : w5.cell? ⟨g5, 14, none⟩ = some (.string ⟨#[]⟩) := (C34_at HS1.out 4 (iv (0)) rfl).2.2
          have e4 : w5.cell? ⟨g5, 9, none⟩ = some (.int .u8 1) := (C34_at HS1.out 3 (bv (decide (pv ≤ 0))) rfl).1
          have e5 : w5.cell? ⟨g5, 10, none⟩ = some (.int .u64 (B.b2i (decide (pv ≤ 0)))) := (C34_at HS1.out 3 (bv (decide (pv ≤ 0))) rfl).2.1
          have e6 : w5.cell? ⟨g5, 11, none⟩ = some (.string ⟨#[]⟩) := (C34_at HS1.out 3 (bv (decide (pv ≤ 0))) rfl).2.2
          have F := Aside0.mk (show ∀ w', Below w5.heap.size w5 w' → (w'.cell? ⟨g5, 12, none⟩ = some (.int .u8 3) ∧ w'.cell? ⟨g5, 13, none⟩ = some (.int .u64 (IntKind.u64.wrap (0))) ∧ w'.cell? ⟨g5, 14, none⟩ = some (.string ⟨#[]⟩) ∧ w'.cell? ⟨g5, 9, none⟩ = some (.int .u8 1) ∧ w'.cell? ⟨g5, 10, none⟩ = some (.int .u64 (B.b2i (decide (pv ≤ 0)))) ∧ w'.cell? ⟨g5, 11, none⟩ = some (.string ⟨#[]⟩)) from fun w' hb => ⟨(hb.cell (World.block_lt_of_cell? w5 _ e1)).trans e1, (hb.cell (World.block_lt_of_cell? w5 _ e2)).trans e2, (hb.cell (World.block_lt_of_cell? w5 _ e3)).trans e3, (hb.cell (World.block_lt_of_cell? w5 _ e4)).trans e4, (hb.cell (World.block_lt_of_cell? w5 _ e5)).trans e5, (hb.cell (World.block_lt_of_cell? w5 _ e6)).trans e6⟩)
          clear e1 e2 e3 e4 e5 e6
          first | go_region_held (fun w' => Below w5.heap.size w5 w' ∧ w'.cell? ⟨g5, 12, none⟩ = some (.int .u8 3) ∧ w'.cell? ⟨g5, 13, none⟩ = some (.int .u64 (IntKind.u64.wrap (0))) ∧ w'.cell? ⟨g5, 14, none⟩ = some (.string ⟨#[]⟩) ∧ w'.cell? ⟨g5, 9, none⟩ = some (.int .u8 1) ∧ w'.cell? ⟨g5, 10, none⟩ = some (.int .u64 (B.b2i (decide (pv ≤ 0)))) ∧ w'.cell? ⟨g5, 11, none⟩ = some (.string ⟨#[]⟩)) (first | exact ⟨below_drew (Below.refl _ _), F.out _ (below_drew (Below.refl _ _))⟩ | exact ⟨by assumption, F.out _ (by assumption)⟩) (first | (go_at_call 25; refine (bitL _ _).mono ?_; rintro e wb ⟨rfl, hb⟩; have hk := below_step (And.left (by assumption)) hb; clear hb) | (go_at_call 30; refine (whole_calls _ _).mono ?_; rintro e wb ⟨rfl, hb⟩; have hk := below_step (And.left (by assumption)) hb; clear hb)) | fail
          all_goals (go_wp2; go_roundw)
          all_goals first | exact ⟨j + 1, _, _, _, _, _, _, _, _, by omega, by go_num, rfl, rfl, rfl, ⟨Kd.C_below HS1.out (by assumption)⟩, ⟨by have := HN.out; omega⟩, ⟨below_step HWL.out (by assumption)⟩⟩ | (simp [intOf]; omega)
    · go_wp2
      all_goals (go_ret; exact ⟨rfl, below_step HB.out HWL.out⟩)

end Go.Proofs.Ytfadafgnahhmdaa.X

