import Derived.Test.YtfadafgnahhmdaaG
import Derived.Deep.RegionHeldLaw
import Derived.Deep.DeepCutAuto
namespace Go.Proofs.Ytfadafgnahhmdaa.X
open Go.RowKit Go.Proofs.YtfadafgnahhmdaaW.PrintWords Go.Proofs.YtfadafgnahhmdaaW.PrintLast Go.Proofs.YtfadafgnahhmdaaW.PrintMore Go.Proofs.Ytfadafgnahhmdaa.E
attribute [local go_sem] max2_int min2_int max_two min_two max_three min_three max_four min_four
set_option linter.unusedVariables false
set_option linter.unusedSimpArgs false

attribute [local go_sem high] eqA34
theorem e_rise (x b q m : Bool) : B.stepC 3 (([bv x] ++ [bv b, bv q, bv m].drop 1).map tup) 0 = ([bv x, bv (x && !m), bv x].map tup, 0) := rise_step x q m 0
theorem e_fall (x b q m : Bool) : B.stepC 4 (([bv x] ++ [bv b, bv q, bv m].drop 1).map tup) 0 = ([bv x, bv (!x && m), bv x].map tup, 0) := by
  have h := fall_step x q m 0
  rw [Bool.and_comm m] at h
  exact h
set_option maxHeartbeats 1600000 in
set_option maxRecDepth 100000 in
theorem edges_calls (A : Option Addr) (n cp : Nat) (l : List Bool) (w : World) (hr : Kd.C Kd.bool w A n l) (hl : n ≤ 140737488351232) :
    Calls Try.prog 6 #[.slice A n cp] w fun e w' => e = .returned (.bool true) ∧ Below w.heap.size w w' := by
  have hu34 := Try.underlying34
  have q30 : ∀ (w : World) (a : Option Addr) (n c n' c' : Nat), (binOp .eql 30 (.slice a n c) (.slice none n' c')).run Try.prog w = .ok (.bool a.isNone) w := fun w a n c n' c' => Lib.run_eql_slice_nil w _ _ a n c n' c' Try.underlying30
  have HR := Aside0.mk hr
  have HL := Aside0.mk hl
  clear hr hl
  go_enter Try.func6, Try.ntmps6
  go_upto_region 3 with (first
    | (go_at_call 23; (with_reducible show Calls Try.prog 23 #[.int .i64 3] _ _); refine (startG 3 _ 3 _ start3 rfl (by omega)).mono ?_; rintro e w1 ⟨g1, c1, rfl, hC, hb⟩; have HB := Aside0.mk hb; have HS1 := Aside0.mk hC; clear hb hC)
    | (go_at_call 23; (with_reducible show Calls Try.prog 23 #[.int .i64 4] _ _); refine (startG 4 _ 3 _ start4 rfl (by omega)).mono ?_; rintro e w2 ⟨g2, c2, rfl, hC, hb⟩; have HB := Aside0.mk (below_step HB.out hb); have HS1 := Aside0.mk (Kd.C_below HS1.out hb); have HS2 := Aside0.mk hC; clear hb hC))
  have HR2 := Aside0.mk (Kd.C_alloc (Kd.C_below HR.out HB.out) (.cells #[.bool true, .bool false] 4))
  go_wp2_with (at_builtin; refine Kd.R_append_rows Kd.bool (Rr := fun x cs => cs = [.bool x]) (w0 := w2) w2.heap.size rfl (.tmp 11) (.tmp 12) 44 4 (.bool false) 1 rfl Try.underlying44 info4 rfl (by decide) (by omega) (.slice (some ⟨w2.heap.size, 0, none⟩) 2 2) [true, false] l A n cp (fun _ => True) (fun _ => False) rfl rfl (R_litB _ _ (Nat.le_refl _) [true, false] _ rfl (by simp)) HR2.out (fun _ _ h => h) (fun _ h => h.elim) (fun _ _ => trivial) (below_alloc (Below.refl _ _) _) (by simp) (by have := HL.out; simp; omega) ?_; intro vl w3 ho hb hg hat; obtain ⟨ys, hys⟩ : ∃ ys, ys = [true, false] ++ l := ⟨_, rfl⟩; rw [← hys] at ho; clear hys; obtain ⟨Al, cl, rfl, hle, hC⟩ := Kd.R_reads ho; have HB := Aside0.mk (below_step HB.out hb); have HS1 := Aside0.mk (Kd.C_below HS1.out hb); have HS2 := Aside0.mk (Kd.C_below HS2.out hb); have HCL := Aside0.mk hC; clear ho hb hg hat hC)
  clear HR2
  have HM : Aside0 (ys.length ≤ 9223372036854775807) := ⟨HCL.out.2.1⟩
  clear hle
  have H1 : ∃ b q m : Bool, m = false ∧ Aside0 (Kd.C k34 w3 (some ⟨g1, 0, none⟩) 3 [bv b, bv q, bv m]) := ⟨_, _, _, rfl, HS1⟩
  have H2 : ∃ b q m : Bool, m = true ∧ Aside0 (Kd.C k34 w3 (some ⟨g2, 0, none⟩) 3 [bv b, bv q, bv m]) := ⟨_, _, _, rfl, HS2⟩
  clear HS1 HS2
  go_loopw [3, 4, 5, 6, 15] (fun s3 s4 s5 s6 i wr => ∃ (j g1 c1 g2 c2 : Nat) (b1 q1 was b2 q2 had : Bool), j ≤ ys.length ∧ i = .int .i64 j ∧ s3 = .slice (some ⟨g1, 0, none⟩) 3 c1 ∧ s4 = .slice (some ⟨g2, 0, none⟩) 3 c2 ∧ s5 = .bool was ∧ s6 = .bool had ∧
      Aside0 (Kd.C k34 wr (some ⟨g1, 0, none⟩) 3 [bv b1, bv q1, bv was]) ∧ Aside0 (Kd.C k34 wr (some ⟨g2, 0, none⟩) 3 [bv b2, bv q2, bv had]) ∧ Aside0 (Below w3.heap.size w3 wr)) (fun _ _ _ _ i _ => ys.length - (intOf i).toNat)
  case atStart =>
    obtain ⟨b1, q1, m1, rfl, h1⟩ := H1
    obtain ⟨b2, q2, m2, rfl, h2⟩ := H2
    exact ⟨0, _, _, _, _, _, _, _, _, _, _, Nat.zero_le _, rfl, rfl, rfl, rfl, rfl, h1, h2, ⟨Below.refl _ _⟩⟩
  case round =>
    obtain ⟨j, g1, c1, g2, c2, b1, q1, was, b2, q2, had, hj, rfl, rfl, rfl, rfl, rfl, HS1, HS2, HWL⟩ := hrel
    clear H1 H2
    by_cases hlt : j < ys.length
    · obtain ⟨ad, x, rfl, hx, hc⟩ := at_B (Kd.C_below HCL.out HWL.out) j hlt
      clear hx
      have hm := HM.out
      have hb1 : (0 ≤ (j : Int)) = True := eq_true (by omega)
      have hb2 : ((j : Int) < (ys.length : Int)) = True := eq_true (by omega)
      have HW : Aside0 (Below wr.heap.size wr wr) := ⟨Below.refl _ _⟩
      go_upto_region 7 with (first | (go_at_call 25; refine (bitL _ _).mono ?_; rintro e wb ⟨rfl, hb⟩; have HW := Aside0.mk (below_step HW.out hb); clear hb) | (go_at_call 26; (with_reducible show Calls Try.prog 26 #[.int .i64 3, _, _, _] _ _); refine (stepL 3 (n := 3) (m := 1) (l := [bv b1, bv q1, bv was]) (is := [bv x]) (ol := [bv x, bv (x && !was), bv x]) (e_rise x b1 q1 was) rfl ?aA ?aB (by omega) (by omega) (by omega)).mono ?_; (case aA => exact Kd.C_alloc (Kd.C_below HS1.out HW.out) _); (case aB => exact C34_lit _ [bv x] _ rfl (by simp)); rintro e w4 ⟨g4, c4, rfl, h1, h2⟩; have hX := below_step (below_alloc HW.out _) h2; have HS2 := Aside0.mk (Kd.C_below HS2.out hX); have HS1 := Aside0.mk h1; have HWL := Aside0.mk (below_step HWL.out hX); have HW : Aside0 (Below w4.heap.size w4 w4) := ⟨Below.refl _ _⟩; clear h1 h2 hX) | (go_at_call 26; (with_reducible show Calls Try.prog 26 #[.int .i64 4, _, _, _] _ _); refine (stepL 4 (n := 3) (m := 1) (l := [bv b2, bv q2, bv had]) (is := [bv x]) (ol := [bv x, bv (!x && had), bv x]) (e_fall x b2 q2 had) rfl ?aA ?aB (by omega) (by omega) (by omega)).mono ?_; (case aA => exact Kd.C_alloc (Kd.C_below HS2.out HW.out) _); (case aB => exact C34_lit _ [bv x] _ rfl (by simp)); rintro e w5 ⟨g5, c5, rfl, h1, h2⟩; have hX := below_step (below_alloc HW.out _) h2; have HS1 := Aside0.mk (Kd.C_below HS1.out hX); have HS2 := Aside0.mk h1; have HWL := Aside0.mk (below_step HWL.out hX); have HW : Aside0 (Below w5.heap.size w5 w5) := ⟨Below.refl _ _⟩; clear h1 h2 hX))
      clear hc HW hb1 hb2
      cases x <;> cases was <;> cases had
      · have e1 : w5.cell? ⟨g4, 3, none⟩ = some (.int .u8 1) := (C34_at HS1.out 1 (bv false) rfl).1
        have e2 : w5.cell? ⟨g4, 4, none⟩ = some (.int .u64 (B.b2i false)) := (C34_at HS1.out 1 (bv false) rfl).2.1
        have e3 : w5.cell? ⟨g4, 5, none⟩ = some (.string ⟨#[]⟩) := (C34_at HS1.out 1 (bv false) rfl).2.2
        have e4 : w5.cell? ⟨g5, 3, none⟩ = some (.int .u8 1) := (C34_at HS2.out 1 (bv false) rfl).1
        have e5 : w5.cell? ⟨g5, 4, none⟩ = some (.int .u64 (B.b2i false)) := (C34_at HS2.out 1 (bv false) rfl).2.1
        have e6 : w5.cell? ⟨g5, 5, none⟩ = some (.string ⟨#[]⟩) := (C34_at HS2.out 1 (bv false) rfl).2.2
        have F := Aside0.mk (show ∀ w', Below w5.heap.size w5 w' → (w'.cell? ⟨g4, 3, none⟩ = some (.int .u8 1) ∧ w'.cell? ⟨g4, 4, none⟩ = some (.int .u64 (B.b2i false)) ∧ w'.cell? ⟨g4, 5, none⟩ = some (.string ⟨#[]⟩) ∧ w'.cell? ⟨g5, 3, none⟩ = some (.int .u8 1) ∧ w'.cell? ⟨g5, 4, none⟩ = some (.int .u64 (B.b2i false)) ∧ w'.cell? ⟨g5, 5, none⟩ = some (.string ⟨#[]⟩)) from fun w' hb => ⟨(hb.cell (World.block_lt_of_cell? w5 _ e1)).trans e1, (hb.cell (World.block_lt_of_cell? w5 _ e2)).trans e2, (hb.cell (World.block_lt_of_cell? w5 _ e3)).trans e3, (hb.cell (World.block_lt_of_cell? w5 _ e4)).trans e4, (hb.cell (World.block_lt_of_cell? w5 _ e5)).trans e5, (hb.cell (World.block_lt_of_cell? w5 _ e6)).trans e6⟩)
        clear e1 e2 e3 e4 e5 e6
        first | go_region_held (fun w' => Below w5.heap.size w5 w' ∧ w'.cell? ⟨g4, 3, none⟩ = some (.int .u8 1) ∧ w'.cell? ⟨g4, 4, none⟩ = some (.int .u64 (B.b2i false)) ∧ w'.cell? ⟨g4, 5, none⟩ = some (.string ⟨#[]⟩) ∧ w'.cell? ⟨g5, 3, none⟩ = some (.int .u8 1) ∧ w'.cell? ⟨g5, 4, none⟩ = some (.int .u64 (B.b2i false)) ∧ w'.cell? ⟨g5, 5, none⟩ = some (.string ⟨#[]⟩)) (first | exact ⟨below_drew (Below.refl _ _), F.out _ (below_drew (Below.refl _ _))⟩ | exact ⟨by assumption, F.out _ (by assumption)⟩) ((go_at_call 25; refine (bitL _ _).mono ?_; rintro e wb ⟨rfl, hb⟩; have hk := below_step (And.left (by assumption)) hb; clear hb)) | fail
        all_goals (go_wp2; go_roundw)
        all_goals first | exact ⟨j + 1, _, _, _, _, _, _, _, _, _, _, by omega, by go_num, rfl, rfl, rfl, rfl, ⟨Kd.C_below HS1.out (by assumption)⟩, ⟨Kd.C_below HS2.out (by assumption)⟩, ⟨below_step HWL.out (by assumption)⟩⟩ | (simp [intOf]; omega)
      · have e1 : w5.cell? ⟨g4, 3, none⟩ = some (.int .u8 1) := (C34_at HS1.out 1 (bv false) rfl).1
        have e2 : w5.cell? ⟨g4, 4, none⟩ = some (.int .u64 (B.b2i false)) := (C34_at HS1.out 1 (bv false) rfl).2.1
        have e3 : w5.cell? ⟨g4, 5, none⟩ = some (.string ⟨#[]⟩) := (C34_at HS1.out 1 (bv false) rfl).2.2
        have e4 : w5.cell? ⟨g5, 3, none⟩ = some (.int .u8 1) := (C34_at HS2.out 1 (bv true) rfl).1
        have e5 : w5.cell? ⟨g5, 4, none⟩ = some (.int .u64 (B.b2i true)) := (C34_at HS2.out 1 (bv true) rfl).2.1
        have e6 : w5.cell? ⟨g5, 5, none⟩ = some (.string ⟨#[]⟩) := (C34_at HS2.out 1 (bv true) rfl).2.2
        have F := Aside0.mk (show ∀ w', Below w5.heap.size w5 w' → (w'.cell? ⟨g4, 3, none⟩ = some (.int .u8 1) ∧ w'.cell? ⟨g4, 4, none⟩ = some (.int .u64 (B.b2i false)) ∧ w'.cell? ⟨g4, 5, none⟩ = some (.string ⟨#[]⟩) ∧ w'.cell? ⟨g5, 3, none⟩ = some (.int .u8 1) ∧ w'.cell? ⟨g5, 4, none⟩ = some (.int .u64 (B.b2i true)) ∧ w'.cell? ⟨g5, 5, none⟩ = some (.string ⟨#[]⟩)) from fun w' hb => ⟨(hb.cell (World.block_lt_of_cell? w5 _ e1)).trans e1, (hb.cell (World.block_lt_of_cell? w5 _ e2)).trans e2, (hb.cell (World.block_lt_of_cell? w5 _ e3)).trans e3, (hb.cell (World.block_lt_of_cell? w5 _ e4)).trans e4, (hb.cell (World.block_lt_of_cell? w5 _ e5)).trans e5, (hb.cell (World.block_lt_of_cell? w5 _ e6)).trans e6⟩)
        clear e1 e2 e3 e4 e5 e6
        first | go_region_held (fun w' => Below w5.heap.size w5 w' ∧ w'.cell? ⟨g4, 3, none⟩ = some (.int .u8 1) ∧ w'.cell? ⟨g4, 4, none⟩ = some (.int .u64 (B.b2i false)) ∧ w'.cell? ⟨g4, 5, none⟩ = some (.string ⟨#[]⟩) ∧ w'.cell? ⟨g5, 3, none⟩ = some (.int .u8 1) ∧ w'.cell? ⟨g5, 4, none⟩ = some (.int .u64 (B.b2i true)) ∧ w'.cell? ⟨g5, 5, none⟩ = some (.string ⟨#[]⟩)) (first | exact ⟨below_drew (Below.refl _ _), F.out _ (below_drew (Below.refl _ _))⟩ | exact ⟨by assumption, F.out _ (by assumption)⟩) ((go_at_call 25; refine (bitL _ _).mono ?_; rintro e wb ⟨rfl, hb⟩; have hk := below_step (And.left (by assumption)) hb; clear hb)) | fail
        all_goals (go_wp2; go_roundw)
        all_goals first | exact ⟨j + 1, _, _, _, _, _, _, _, _, _, _, by omega, by go_num, rfl, rfl, rfl, rfl, ⟨Kd.C_below HS1.out (by assumption)⟩, ⟨Kd.C_below HS2.out (by assumption)⟩, ⟨below_step HWL.out (by assumption)⟩⟩ | (simp [intOf]; omega)
      · have e1 : w5.cell? ⟨g4, 3, none⟩ = some (.int .u8 1) := (C34_at HS1.out 1 (bv false) rfl).1
        have e2 : w5.cell? ⟨g4, 4, none⟩ = some (.int .u64 (B.b2i false)) := (C34_at HS1.out 1 (bv false) rfl).2.1
        have e3 : w5.cell? ⟨g4, 5, none⟩ = some (.string ⟨#[]⟩) := (C34_at HS1.out 1 (bv false) rfl).2.2
        have e4 : w5.cell? ⟨g5, 3, none⟩ = some (.int .u8 1) := (C34_at HS2.out 1 (bv false) rfl).1
        have e5 : w5.cell? ⟨g5, 4, none⟩ = some (.int .u64 (B.b2i false)) := (C34_at HS2.out 1 (bv false) rfl).2.1
        have e6 : w5.cell? ⟨g5, 5, none⟩ = some (.string ⟨#[]⟩) := (C34_at HS2.out 1 (bv false) rfl).2.2
        have F := Aside0.mk (show ∀ w', Below w5.heap.size w5 w' → (w'.cell? ⟨g4, 3, none⟩ = some (.int .u8 1) ∧ w'.cell? ⟨g4, 4, none⟩ = some (.int .u64 (B.b2i false)) ∧ w'.cell? ⟨g4, 5, none⟩ = some (.string ⟨#[]⟩) ∧ w'.cell? ⟨g5, 3, none⟩ = some (.int .u8 1) ∧ w'.cell? ⟨g5, 4, none⟩ = some (.int .u64 (B.b2i false)) ∧ w'.cell? ⟨g5, 5, none⟩ = some (.string ⟨#[]⟩)) from fun w' hb => ⟨(hb.cell (World.block_lt_of_cell? w5 _ e1)).trans e1, (hb.cell (World.block_lt_of_cell? w5 _ e2)).trans e2, (hb.cell (World.block_lt_of_cell? w5 _ e3)).trans e3, (hb.cell (World.block_lt_of_cell? w5 _ e4)).trans e4, (hb.cell (World.block_lt_of_cell? w5 _ e5)).trans e5, (hb.cell (World.block_lt_of_cell? w5 _ e6)).trans e6⟩)
        clear e1 e2 e3 e4 e5 e6
        first | go_region_held (fun w' => Below w5.heap.size w5 w' ∧ w'.cell? ⟨g4, 3, none⟩ = some (.int .u8 1) ∧ w'.cell? ⟨g4, 4, none⟩ = some (.int .u64 (B.b2i false)) ∧ w'.cell? ⟨g4, 5, none⟩ = some (.string ⟨#[]⟩) ∧ w'.cell? ⟨g5, 3, none⟩ = some (.int .u8 1) ∧ w'.cell? ⟨g5, 4, none⟩ = some (.int .u64 (B.b2i false)) ∧ w'.cell? ⟨g5, 5, none⟩ = some (.string ⟨#[]⟩)) (first | exact ⟨below_drew (Below.refl _ _), F.out _ (below_drew (Below.refl _ _))⟩ | exact ⟨by assumption, F.out _ (by assumption)⟩) ((go_at_call 25; refine (bitL _ _).mono ?_; rintro e wb ⟨rfl, hb⟩; have hk := below_step (And.left (by assumption)) hb; clear hb)) | fail
        all_goals (go_wp2; go_roundw)
        all_goals first | exact ⟨j + 1, _, _, _, _, _, _, _, _, _, _, by omega, by go_num, rfl, rfl, rfl, rfl, ⟨Kd.C_below HS1.out (by assumption)⟩, ⟨Kd.C_below HS2.out (by assumption)⟩, ⟨below_step HWL.out (by assumption)⟩⟩ | (simp [intOf]; omega)
      · have e1 : w5.cell? ⟨g4, 3, none⟩ = some (.int .u8 1) := (C34_at HS1.out 1 (bv false) rfl).1
        have e2 : w5.cell? ⟨g4, 4, none⟩ = some (.int .u64 (B.b2i false)) := (C34_at HS1.out 1 (bv false) rfl).2.1
        have e3 : w5.cell? ⟨g4, 5, none⟩ = some (.string ⟨#[]⟩) := (C34_at HS1.out 1 (bv false) rfl).2.2
        have e4 : w5.cell? ⟨g5, 3, none⟩ = some (.int .u8 1) := (C34_at HS2.out 1 (bv true) rfl).1
        have e5 : w5.cell? ⟨g5, 4, none⟩ = some (.int .u64 (B.b2i true)) := (C34_at HS2.out 1 (bv true) rfl).2.1
        have e6 : w5.cell? ⟨g5, 5, none⟩ = some (.string ⟨#[]⟩) := (C34_at HS2.out 1 (bv true) rfl).2.2
        have F := Aside0.mk (show ∀ w', Below w5.heap.size w5 w' → (w'.cell? ⟨g4, 3, none⟩ = some (.int .u8 1) ∧ w'.cell? ⟨g4, 4, none⟩ = some (.int .u64 (B.b2i false)) ∧ w'.cell? ⟨g4, 5, none⟩ = some (.string ⟨#[]⟩) ∧ w'.cell? ⟨g5, 3, none⟩ = some (.int .u8 1) ∧ w'.cell? ⟨g5, 4, none⟩ = some (.int .u64 (B.b2i true)) ∧ w'.cell? ⟨g5, 5, none⟩ = some (.string ⟨#[]⟩)) from fun w' hb => ⟨(hb.cell (World.block_lt_of_cell? w5 _ e1)).trans e1, (hb.cell (World.block_lt_of_cell? w5 _ e2)).trans e2, (hb.cell (World.block_lt_of_cell? w5 _ e3)).trans e3, (hb.cell (World.block_lt_of_cell? w5 _ e4)).trans e4, (hb.cell (World.block_lt_of_cell? w5 _ e5)).trans e5, (hb.cell (World.block_lt_of_cell? w5 _ e6)).trans e6⟩)
        clear e1 e2 e3 e4 e5 e6
        first | go_region_held (fun w' => Below w5.heap.size w5 w' ∧ w'.cell? ⟨g4, 3, none⟩ = some (.int .u8 1) ∧ w'.cell? ⟨g4, 4, none⟩ = some (.int .u64 (B.b2i false)) ∧ w'.cell? ⟨g4, 5, none⟩ = some (.string ⟨#[]⟩) ∧ w'.cell? ⟨g5, 3, none⟩ = some (.int .u8 1) ∧ w'.cell? ⟨g5, 4, none⟩ = some (.int .u64 (B.b2i true)) ∧ w'.cell? ⟨g5, 5, none⟩ = some (.string ⟨#[]⟩)) (first | exact ⟨below_drew (Below.refl _ _), F.out _ (below_drew (Below.refl _ _))⟩ | exact ⟨by assumption, F.out _ (by assumption)⟩) ((go_at_call 25; refine (bitL _ _).mono ?_; rintro e wb ⟨rfl, hb⟩; have hk := below_step (And.left (by assumption)) hb; clear hb)) | fail
        all_goals (go_wp2; go_roundw)
        all_goals first | exact ⟨j + 1, _, _, _, _, _, _, _, _, _, _, by omega, by go_num, rfl, rfl, rfl, rfl, ⟨Kd.C_below HS1.out (by assumption)⟩, ⟨Kd.C_below HS2.out (by assumption)⟩, ⟨below_step HWL.out (by assumption)⟩⟩ | (simp [intOf]; omega)
      · have e1 : w5.cell? ⟨g4, 3, none⟩ = some (.int .u8 1) := (C34_at HS1.out 1 (bv true) rfl).1
        have e2 : w5.cell? ⟨g4, 4, none⟩ = some (.int .u64 (B.b2i true)) := (C34_at HS1.out 1 (bv true) rfl).2.1
        have e3 : w5.cell? ⟨g4, 5, none⟩ = some (.string ⟨#[]⟩) := (C34_at HS1.out 1 (bv true) rfl).2.2
        have e4 : w5.cell? ⟨g5, 3, none⟩ = some (.int .u8 1) := (C34_at HS2.out 1 (bv false) rfl).1
        have e5 : w5.cell? ⟨g5, 4, none⟩ = some (.int .u64 (B.b2i false)) := (C34_at HS2.out 1 (bv false) rfl).2.1
        have e6 : w5.cell? ⟨g5, 5, none⟩ = some (.string ⟨#[]⟩) := (C34_at HS2.out 1 (bv false) rfl).2.2
        have F := Aside0.mk (show ∀ w', Below w5.heap.size w5 w' → (w'.cell? ⟨g4, 3, none⟩ = some (.int .u8 1) ∧ w'.cell? ⟨g4, 4, none⟩ = some (.int .u64 (B.b2i true)) ∧ w'.cell? ⟨g4, 5, none⟩ = some (.string ⟨#[]⟩) ∧ w'.cell? ⟨g5, 3, none⟩ = some (.int .u8 1) ∧ w'.cell? ⟨g5, 4, none⟩ = some (.int .u64 (B.b2i false)) ∧ w'.cell? ⟨g5, 5, none⟩ = some (.string ⟨#[]⟩)) from fun w' hb => ⟨(hb.cell (World.block_lt_of_cell? w5 _ e1)).trans e1, (hb.cell (World.block_lt_of_cell? w5 _ e2)).trans e2, (hb.cell (World.block_lt_of_cell? w5 _ e3)).trans e3, (hb.cell (World.block_lt_of_cell? w5 _ e4)).trans e4, (hb.cell (World.block_lt_of_cell? w5 _ e5)).trans e5, (hb.cell (World.block_lt_of_cell? w5 _ e6)).trans e6⟩)
        clear e1 e2 e3 e4 e5 e6
        first | go_region_held (fun w' => Below w5.heap.size w5 w' ∧ w'.cell? ⟨g4, 3, none⟩ = some (.int .u8 1) ∧ w'.cell? ⟨g4, 4, none⟩ = some (.int .u64 (B.b2i true)) ∧ w'.cell? ⟨g4, 5, none⟩ = some (.string ⟨#[]⟩) ∧ w'.cell? ⟨g5, 3, none⟩ = some (.int .u8 1) ∧ w'.cell? ⟨g5, 4, none⟩ = some (.int .u64 (B.b2i false)) ∧ w'.cell? ⟨g5, 5, none⟩ = some (.string ⟨#[]⟩)) (first | exact ⟨below_drew (Below.refl _ _), F.out _ (below_drew (Below.refl _ _))⟩ | exact ⟨by assumption, F.out _ (by assumption)⟩) ((go_at_call 25; refine (bitL _ _).mono ?_; rintro e wb ⟨rfl, hb⟩; have hk := below_step (And.left (by assumption)) hb; clear hb)) | fail
        all_goals (go_wp2; go_roundw)
        all_goals first | exact ⟨j + 1, _, _, _, _, _, _, _, _, _, _, by omega, by go_num, rfl, rfl, rfl, rfl, ⟨Kd.C_below HS1.out (by assumption)⟩, ⟨Kd.C_below HS2.out (by assumption)⟩, ⟨below_step HWL.out (by assumption)⟩⟩ | (simp [intOf]; omega)
      · have e1 : w5.cell? ⟨g4, 3, none⟩ = some (.int .u8 1) := (C34_at HS1.out 1 (bv true) rfl).1
        have e2 : w5.cell? ⟨g4, 4, none⟩ = some (.int .u64 (B.b2i true)) := (C34_at HS1.out 1 (bv true) rfl).2.1
        have e3 : w5.cell? ⟨g4, 5, none⟩ = some (.string ⟨#[]⟩) := (C34_at HS1.out 1 (bv true) rfl).2.2
        have e4 : w5.cell? ⟨g5, 3, none⟩ = some (.int .u8 1) := (C34_at HS2.out 1 (bv false) rfl).1
        have e5 : w5.cell? ⟨g5, 4, none⟩ = some (.int .u64 (B.b2i false)) := (C34_at HS2.out 1 (bv false) rfl).2.1
        have e6 : w5.cell? ⟨g5, 5, none⟩ = some (.string ⟨#[]⟩) := (C34_at HS2.out 1 (bv false) rfl).2.2
        have F := Aside0.mk (show ∀ w', Below w5.heap.size w5 w' → (w'.cell? ⟨g4, 3, none⟩ = some (.int .u8 1) ∧ w'.cell? ⟨g4, 4, none⟩ = some (.int .u64 (B.b2i true)) ∧ w'.cell? ⟨g4, 5, none⟩ = some (.string ⟨#[]⟩) ∧ w'.cell? ⟨g5, 3, none⟩ = some (.int .u8 1) ∧ w'.cell? ⟨g5, 4, none⟩ = some (.int .u64 (B.b2i false)) ∧ w'.cell? ⟨g5, 5, none⟩ = some (.string ⟨#[]⟩)) from fun w' hb => ⟨(hb.cell (World.block_lt_of_cell? w5 _ e1)).trans e1, (hb.cell (World.block_lt_of_cell? w5 _ e2)).trans e2, (hb.cell (World.block_lt_of_cell? w5 _ e3)).trans e3, (hb.cell (World.block_lt_of_cell? w5 _ e4)).trans e4, (hb.cell (World.block_lt_of_cell? w5 _ e5)).trans e5, (hb.cell (World.block_lt_of_cell? w5 _ e6)).trans e6⟩)
        clear e1 e2 e3 e4 e5 e6
        first | go_region_held (fun w' => Below w5.heap.size w5 w' ∧ w'.cell? ⟨g4, 3, none⟩ = some (.int .u8 1) ∧ w'.cell? ⟨g4, 4, none⟩ = some (.int .u64 (B.b2i true)) ∧ w'.cell? ⟨g4, 5, none⟩ = some (.string ⟨#[]⟩) ∧ w'.cell? ⟨g5, 3, none⟩ = some (.int .u8 1) ∧ w'.cell? ⟨g5, 4, none⟩ = some (.int .u64 (B.b2i false)) ∧ w'.cell? ⟨g5, 5, none⟩ = some (.string ⟨#[]⟩)) (first | exact ⟨below_drew (Below.refl _ _), F.out _ (below_drew (Below.refl _ _))⟩ | exact ⟨by assumption, F.out _ (by assumption)⟩) ((go_at_call 25; refine (bitL _ _).mono ?_; rintro e wb ⟨rfl, hb⟩; have hk := below_step (And.left (by assumption)) hb; clear hb)) | fail
        all_goals (go_wp2; go_roundw)
        all_goals first | exact ⟨j + 1, _, _, _, _, _, _, _, _, _, _, by omega, by go_num, rfl, rfl, rfl, rfl, ⟨Kd.C_below HS1.out (by assumption)⟩, ⟨Kd.C_below HS2.out (by assumption)⟩, ⟨below_step HWL.out (by assumption)⟩⟩ | (simp [intOf]; omega)
      · have e1 : w5.cell? ⟨g4, 3, none⟩ = some (.int .u8 1) := (C34_at HS1.out 1 (bv false) rfl).1
        have e2 : w5.cell? ⟨g4, 4, none⟩ = some (.int .u64 (B.b2i false)) := (C34_at HS1.out 1 (bv false) rfl).2.1
        have e3 : w5.cell? ⟨g4, 5, none⟩ = some (.string ⟨#[]⟩) := (C34_at HS1.out 1 (bv false) rfl).2.2
        have e4 : w5.cell? ⟨g5, 3, none⟩ = some (.int .u8 1) := (C34_at HS2.out 1 (bv false) rfl).1
        have e5 : w5.cell? ⟨g5, 4, none⟩ = some (.int .u64 (B.b2i false)) := (C34_at HS2.out 1 (bv false) rfl).2.1
        have e6 : w5.cell? ⟨g5, 5, none⟩ = some (.string ⟨#[]⟩) := (C34_at HS2.out 1 (bv false) rfl).2.2
        have F := Aside0.mk (show ∀ w', Below w5.heap.size w5 w' → (w'.cell? ⟨g4, 3, none⟩ = some (.int .u8 1) ∧ w'.cell? ⟨g4, 4, none⟩ = some (.int .u64 (B.b2i false)) ∧ w'.cell? ⟨g4, 5, none⟩ = some (.string ⟨#[]⟩) ∧ w'.cell? ⟨g5, 3, none⟩ = some (.int .u8 1) ∧ w'.cell? ⟨g5, 4, none⟩ = some (.int .u64 (B.b2i false)) ∧ w'.cell? ⟨g5, 5, none⟩ = some (.string ⟨#[]⟩)) from fun w' hb => ⟨(hb.cell (World.block_lt_of_cell? w5 _ e1)).trans e1, (hb.cell (World.block_lt_of_cell? w5 _ e2)).trans e2, (hb.cell (World.block_lt_of_cell? w5 _ e3)).trans e3, (hb.cell (World.block_lt_of_cell? w5 _ e4)).trans e4, (hb.cell (World.block_lt_of_cell? w5 _ e5)).trans e5, (hb.cell (World.block_lt_of_cell? w5 _ e6)).trans e6⟩)
        clear e1 e2 e3 e4 e5 e6
        first | go_region_held (fun w' => Below w5.heap.size w5 w' ∧ w'.cell? ⟨g4, 3, none⟩ = some (.int .u8 1) ∧ w'.cell? ⟨g4, 4, none⟩ = some (.int .u64 (B.b2i false)) ∧ w'.cell? ⟨g4, 5, none⟩ = some (.string ⟨#[]⟩) ∧ w'.cell? ⟨g5, 3, none⟩ = some (.int .u8 1) ∧ w'.cell? ⟨g5, 4, none⟩ = some (.int .u64 (B.b2i false)) ∧ w'.cell? ⟨g5, 5, none⟩ = some (.string ⟨#[]⟩)) (first | exact ⟨below_drew (Below.refl _ _), F.out _ (below_drew (Below.refl _ _))⟩ | exact ⟨by assumption, F.out _ (by assumption)⟩) ((go_at_call 25; refine (bitL _ _).mono ?_; rintro e wb ⟨rfl, hb⟩; have hk := below_step (And.left (by assumption)) hb; clear hb)) | fail
        all_goals (go_wp2; go_roundw)
        all_goals first | exact ⟨j + 1, _, _, _, _, _, _, _, _, _, _, by omega, by go_num, rfl, rfl, rfl, rfl, ⟨Kd.C_below HS1.out (by assumption)⟩, ⟨Kd.C_below HS2.out (by assumption)⟩, ⟨below_step HWL.out (by assumption)⟩⟩ | (simp [intOf]; omega)
      · have e1 : w5.cell? ⟨g4, 3, none⟩ = some (.int .u8 1) := (C34_at HS1.out 1 (bv false) rfl).1
        have e2 : w5.cell? ⟨g4, 4, none⟩ = some (.int .u64 (B.b2i false)) := (C34_at HS1.out 1 (bv false) rfl).2.1
        have e3 : w5.cell? ⟨g4, 5, none⟩ = some (.string ⟨#[]⟩) := (C34_at HS1.out 1 (bv false) rfl).2.2
        have e4 : w5.cell? ⟨g5, 3, none⟩ = some (.int .u8 1) := (C34_at HS2.out 1 (bv false) rfl).1
        have e5 : w5.cell? ⟨g5, 4, none⟩ = some (.int .u64 (B.b2i false)) := (C34_at HS2.out 1 (bv false) rfl).2.1
        have e6 : w5.cell? ⟨g5, 5, none⟩ = some (.string ⟨#[]⟩) := (C34_at HS2.out 1 (bv false) rfl).2.2
        have F := Aside0.mk (show ∀ w', Below w5.heap.size w5 w' → (w'.cell? ⟨g4, 3, none⟩ = some (.int .u8 1) ∧ w'.cell? ⟨g4, 4, none⟩ = some (.int .u64 (B.b2i false)) ∧ w'.cell? ⟨g4, 5, none⟩ = some (.string ⟨#[]⟩) ∧ w'.cell? ⟨g5, 3, none⟩ = some (.int .u8 1) ∧ w'.cell? ⟨g5, 4, none⟩ = some (.int .u64 (B.b2i false)) ∧ w'.cell? ⟨g5, 5, none⟩ = some (.string ⟨#[]⟩)) from fun w' hb => ⟨(hb.cell (World.block_lt_of_cell? w5 _ e1)).trans e1, (hb.cell (World.block_lt_of_cell? w5 _ e2)).trans e2, (hb.cell (World.block_lt_of_cell? w5 _ e3)).trans e3, (hb.cell (World.block_lt_of_cell? w5 _ e4)).trans e4, (hb.cell (World.block_lt_of_cell? w5 _ e5)).trans e5, (hb.cell (World.block_lt_of_cell? w5 _ e6)).trans e6⟩)
        clear e1 e2 e3 e4 e5 e6
        first | go_region_held (fun w' => Below w5.heap.size w5 w' ∧ w'.cell? ⟨g4, 3, none⟩ = some (.int .u8 1) ∧ w'.cell? ⟨g4, 4, none⟩ = some (.int .u64 (B.b2i false)) ∧ w'.cell? ⟨g4, 5, none⟩ = some (.string ⟨#[]⟩) ∧ w'.cell? ⟨g5, 3, none⟩ = some (.int .u8 1) ∧ w'.cell? ⟨g5, 4, none⟩ = some (.int .u64 (B.b2i false)) ∧ w'.cell? ⟨g5, 5, none⟩ = some (.string ⟨#[]⟩)) (first | exact ⟨below_drew (Below.refl _ _), F.out _ (below_drew (Below.refl _ _))⟩ | exact ⟨by assumption, F.out _ (by assumption)⟩) ((go_at_call 25; refine (bitL _ _).mono ?_; rintro e wb ⟨rfl, hb⟩; have hk := below_step (And.left (by assumption)) hb; clear hb)) | fail
        all_goals (go_wp2; go_roundw)
        all_goals first | exact ⟨j + 1, _, _, _, _, _, _, _, _, _, _, by omega, by go_num, rfl, rfl, rfl, rfl, ⟨Kd.C_below HS1.out (by assumption)⟩, ⟨Kd.C_below HS2.out (by assumption)⟩, ⟨below_step HWL.out (by assumption)⟩⟩ | (simp [intOf]; omega)
    · go_wp2
      go_ret
      exact ⟨rfl, below_step HB.out HWL.out⟩

end Go.Proofs.Ytfadafgnahhmdaa.X

