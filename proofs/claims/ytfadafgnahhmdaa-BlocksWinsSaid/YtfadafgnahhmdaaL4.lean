import Derived.Test.YtfadafgnahhmdaaD
import Derived.Deep.RegionHeldLaw
import Derived.Deep.DeepCutAuto
namespace Go.Proofs.Ytfadafgnahhmdaa.X
open Go.RowKit Go.Proofs.YtfadafgnahhmdaaW.PrintWords Go.Proofs.YtfadafgnahhmdaaW.PrintLast Go.Proofs.YtfadafgnahhmdaaW.PrintMore Go.Proofs.Ytfadafgnahhmdaa.E
attribute [local go_sem] max2_int min2_int max_two min_two max_three min_three max_four min_four
set_option linter.unusedVariables false
set_option linter.unusedSimpArgs false

attribute [local go_sem high] eqA34
theorem wins_sr (q o : Bool) : B.stepC 1 (([bv true, bv o] ++ [bv false, bv false, bv q].drop 2).map tup) 0 = ([bv true, bv o, bv true].map tup, 0) := by
  rw [show [bv true, bv o] ++ [bv false, bv false, bv q].drop 2 = [bv true, bv o, bv q] from rfl, sr_step]; rfl
theorem wins_rs (q o : Bool) : B.stepC 2 (([bv o, bv true] ++ [bv false, bv false, bv q].drop 2).map tup) 0 = ([bv o, bv true, bv false].map tup, 0) := by
  rw [show [bv o, bv true] ++ [bv false, bv false, bv q].drop 2 = [bv o, bv true, bv q] from rfl, rs_step]; rfl
theorem wins_a (q : Bool) : B.stepC 1 (([bv false, bv false] ++ [bv false, bv false, bv q].drop 2).map tup) 0 = ([bv false, bv false, bv q].map tup, 0) := by
  rw [show [bv false, bv false] ++ [bv false, bv false, bv q].drop 2 = [bv false, bv false, bv q] from rfl, sr_step]; cases q <;> rfl
theorem wins_b (q : Bool) : B.stepC 2 (([bv false, bv false] ++ [bv false, bv false, bv q].drop 2).map tup) 0 = ([bv false, bv false, bv q].map tup, 0) := by
  rw [show [bv false, bv false] ++ [bv false, bv false, bv q].drop 2 = [bv false, bv false, bv q] from rfl, rs_step]; cases q <;> rfl
set_option maxHeartbeats 400000 in
set_option maxRecDepth 100000 in
theorem wins_calls (q o : Bool) (w : World) : Calls Try.prog 4 #[.bool q, .bool o] w fun e w' => e = .returned (.bool true) ∧ Below w.heap.size w w' := by
  have hu34 := Try.underlying34
  have q30 : ∀ (w : World) (a : Option Addr) (n c n' c' : Nat), (binOp .eql 30 (.slice a n c) (.slice none n' c')).run Try.prog w = .ok (.bool a.isNone) w := fun w a n c n' c' => Lib.run_eql_slice_nil w _ _ a n c n' c' Try.underlying30
  have HW : Aside0 (Below w.heap.size w w) := ⟨Below.refl _ _⟩
  go_enter Try.func4, Try.ntmps4
  go_upto_region 2 with (go_at_call 25; refine (bitL _ _).mono ?_; rintro e w1 ⟨rfl, hb⟩; have HW := Aside0.mk (below_step HW.out hb); clear hb)
  generalize hW : w1.alloc _ = W
  have HC : Aside0 (Kd.C k34 W (some ⟨w1.heap.size, 0, none⟩) 3 [bv false, bv false, bv q]) := ⟨by rw [← hW]; exact C34_lit w1 [bv false, bv false, bv q] _ rfl (by simp)⟩
  have HB : Aside0 (Below w.heap.size w W) := ⟨by rw [← hW]; exact below_alloc HW.out _⟩
  clear hW HW
  have HW : Aside0 (Below W.heap.size W W) := ⟨Below.refl _ _⟩
  generalize w1.heap.size = g0 at HC ⊢
  go_upto_region 3 with (first | (go_at_call 25; refine (bitL _ _).mono ?_; rintro e wb ⟨rfl, hb⟩; have HW := Aside0.mk (below_step HW.out hb); clear hb) | (go_at_call 26; (with_reducible show Calls Try.prog 26 #[.int .i64 1, _, _, _] _ _); refine (stepL 1 (n := 3) (m := 2) (now := 0) (l := [bv false, bv false, bv q]) (is := [bv true, bv o]) (wins_sr q o) rfl ?aA ?aB (by omega) (by omega) (by omega)).mono ?_; (case aA => exact Kd.C_alloc (Kd.C_below HC.out HW.out) _); (case aB => exact C34_lit _ [bv true, bv o] _ rfl (by simp)); rintro e w2 ⟨g1, c1, rfl, h1, h2⟩; have hX := below_step (below_alloc HW.out _) h2; have HC := Aside0.mk (Kd.C_below HC.out hX); have HS1 := Aside0.mk h1; have HB := Aside0.mk (below_step HB.out hX); have HW : Aside0 (Below w2.heap.size w2 w2) := ⟨Below.refl _ _⟩; clear h1 h2 hX) | (go_at_call 26; (with_reducible show Calls Try.prog 26 #[.int .i64 2, _, _, _] _ _); refine (stepL 2 (n := 3) (m := 2) (now := 0) (l := [bv false, bv false, bv q]) (is := [bv o, bv true]) (wins_rs q o) rfl ?aA ?aB (by omega) (by omega) (by omega)).mono ?_; (case aA => exact Kd.C_alloc (Kd.C_below HC.out HW.out) _); (case aB => exact C34_lit _ [bv o, bv true] _ rfl (by simp)); rintro e w3 ⟨g2, c2, rfl, h1, h2⟩; have hX := below_step (below_alloc HW.out _) h2; have HC := Aside0.mk (Kd.C_below HC.out hX); have HS1 := Aside0.mk (Kd.C_below HS1.out hX); have HS2 := Aside0.mk h1; have HB := Aside0.mk (below_step HB.out hX); have HW : Aside0 (Below w3.heap.size w3 w3) := ⟨Below.refl _ _⟩; clear h1 h2 hX))
  go_upto_region 4 with (first | (go_at_call 25; refine (bitL _ _).mono ?_; rintro e wb ⟨rfl, hb⟩; have HW := Aside0.mk (below_step HW.out hb); clear hb) | (go_at_call 26; (with_reducible show Calls Try.prog 26 #[.int .i64 1, _, _, _] _ _); refine (stepL 1 (n := 3) (m := 2) (now := 0) (l := [bv false, bv false, bv q]) (is := [bv false, bv false]) (wins_a q) rfl ?aA ?aB (by omega) (by omega) (by omega)).mono ?_; (case aA => exact Kd.C_alloc (Kd.C_below HC.out HW.out) _); (case aB => exact C34_lit _ [bv false, bv false] _ rfl (by simp)); rintro e w4 ⟨g3, c3, rfl, h1, h2⟩; have hX := below_step (below_alloc HW.out _) h2; have HC := Aside0.mk (Kd.C_below HC.out hX); have HS1 := Aside0.mk (Kd.C_below HS1.out hX); have HS2 := Aside0.mk (Kd.C_below HS2.out hX); have HS3 := Aside0.mk h1; have HB := Aside0.mk (below_step HB.out hX); have HW : Aside0 (Below w4.heap.size w4 w4) := ⟨Below.refl _ _⟩; clear h1 h2 hX) | (go_at_call 26; (with_reducible show Calls Try.prog 26 #[.int .i64 2, _, _, _] _ _); refine (stepL 2 (n := 3) (m := 2) (now := 0) (l := [bv false, bv false, bv q]) (is := [bv false, bv false]) (wins_b q) rfl ?aA ?aB (by omega) (by omega) (by omega)).mono ?_; (case aA => exact Kd.C_alloc (Kd.C_below HC.out HW.out) _); (case aB => exact C34_lit _ [bv false, bv false] _ rfl (by simp)); rintro e w5 ⟨g4, c4, rfl, h1, h2⟩; have hX := below_step (below_alloc HW.out _) h2; have HC := Aside0.mk (Kd.C_below HC.out hX); have HS1 := Aside0.mk (Kd.C_below HS1.out hX); have HS2 := Aside0.mk (Kd.C_below HS2.out hX); have HS3 := Aside0.mk (Kd.C_below HS3.out hX); have HS4 := Aside0.mk h1; have HB := Aside0.mk (below_step HB.out hX); have HW : Aside0 (Below w5.heap.size w5 w5) := ⟨Below.refl _ _⟩; clear h1 h2 hX))
  go_upto_region 6 with (fail)
  have e1 : w5.cell? ⟨g1, 6, none⟩ = some (.int .u8 1) := (C34_at HS1.out 2 (bv true) rfl).1
  have e2 : w5.cell? ⟨g1, 7, none⟩ = some (.int .u64 (B.b2i true)) := (C34_at HS1.out 2 (bv true) rfl).2.1
  have e3 : w5.cell? ⟨g1, 8, none⟩ = some (.string ⟨#[]⟩) := (C34_at HS1.out 2 (bv true) rfl).2.2
  have e4 : w5.cell? ⟨g2, 6, none⟩ = some (.int .u8 1) := (C34_at HS2.out 2 (bv false) rfl).1
  have e5 : w5.cell? ⟨g2, 7, none⟩ = some (.int .u64 (B.b2i false)) := (C34_at HS2.out 2 (bv false) rfl).2.1
  have e6 : w5.cell? ⟨g2, 8, none⟩ = some (.string ⟨#[]⟩) := (C34_at HS2.out 2 (bv false) rfl).2.2
  have e7 : w5.cell? ⟨g3, 6, none⟩ = some (.int .u8 1) := (C34_at HS3.out 2 (bv q) rfl).1
  have e8 : w5.cell? ⟨g3, 7, none⟩ = some (.int .u64 (B.b2i q)) := (C34_at HS3.out 2 (bv q) rfl).2.1
  have e9 : w5.cell? ⟨g3, 8, none⟩ = some (.string ⟨#[]⟩) := (C34_at HS3.out 2 (bv q) rfl).2.2
  have e10 : w5.cell? ⟨g4, 6, none⟩ = some (.int .u8 1) := (C34_at HS4.out 2 (bv q) rfl).1
  have e11 : w5.cell? ⟨g4, 7, none⟩ = some (.int .u64 (B.b2i q)) := (C34_at HS4.out 2 (bv q) rfl).2.1
  have e12 : w5.cell? ⟨g4, 8, none⟩ = some (.string ⟨#[]⟩) := (C34_at HS4.out 2 (bv q) rfl).2.2
  have F := Aside0.mk (show ∀ w', Below w5.heap.size w5 w' → (w'.cell? ⟨g1, 6, none⟩ = some (.int .u8 1) ∧ w'.cell? ⟨g1, 7, none⟩ = some (.int .u64 (B.b2i true)) ∧ w'.cell? ⟨g1, 8, none⟩ = some (.string ⟨#[]⟩) ∧ w'.cell? ⟨g2, 6, none⟩ = some (.int .u8 1) ∧ w'.cell? ⟨g2, 7, none⟩ = some (.int .u64 (B.b2i false)) ∧ w'.cell? ⟨g2, 8, none⟩ = some (.string ⟨#[]⟩) ∧ w'.cell? ⟨g3, 6, none⟩ = some (.int .u8 1) ∧ w'.cell? ⟨g3, 7, none⟩ = some (.int .u64 (B.b2i q)) ∧ w'.cell? ⟨g3, 8, none⟩ = some (.string ⟨#[]⟩) ∧ w'.cell? ⟨g4, 6, none⟩ = some (.int .u8 1) ∧ w'.cell? ⟨g4, 7, none⟩ = some (.int .u64 (B.b2i q)) ∧ w'.cell? ⟨g4, 8, none⟩ = some (.string ⟨#[]⟩)) from fun w' hb => ⟨(hb.cell (World.block_lt_of_cell? w5 _ e1)).trans e1, (hb.cell (World.block_lt_of_cell? w5 _ e2)).trans e2, (hb.cell (World.block_lt_of_cell? w5 _ e3)).trans e3, (hb.cell (World.block_lt_of_cell? w5 _ e4)).trans e4, (hb.cell (World.block_lt_of_cell? w5 _ e5)).trans e5, (hb.cell (World.block_lt_of_cell? w5 _ e6)).trans e6, (hb.cell (World.block_lt_of_cell? w5 _ e7)).trans e7, (hb.cell (World.block_lt_of_cell? w5 _ e8)).trans e8, (hb.cell (World.block_lt_of_cell? w5 _ e9)).trans e9, (hb.cell (World.block_lt_of_cell? w5 _ e10)).trans e10, (hb.cell (World.block_lt_of_cell? w5 _ e11)).trans e11, (hb.cell (World.block_lt_of_cell? w5 _ e12)).trans e12⟩)
  clear e1 e2 e3 e4 e5 e6 e7 e8 e9 e10 e11 e12
  go_region_held (fun w' => Below w5.heap.size w5 w' ∧ w'.cell? ⟨g1, 6, none⟩ = some (.int .u8 1) ∧ w'.cell? ⟨g1, 7, none⟩ = some (.int .u64 (B.b2i true)) ∧ w'.cell? ⟨g1, 8, none⟩ = some (.string ⟨#[]⟩) ∧ w'.cell? ⟨g2, 6, none⟩ = some (.int .u8 1) ∧ w'.cell? ⟨g2, 7, none⟩ = some (.int .u64 (B.b2i false)) ∧ w'.cell? ⟨g2, 8, none⟩ = some (.string ⟨#[]⟩) ∧ w'.cell? ⟨g3, 6, none⟩ = some (.int .u8 1) ∧ w'.cell? ⟨g3, 7, none⟩ = some (.int .u64 (B.b2i q)) ∧ w'.cell? ⟨g3, 8, none⟩ = some (.string ⟨#[]⟩) ∧ w'.cell? ⟨g4, 6, none⟩ = some (.int .u8 1) ∧ w'.cell? ⟨g4, 7, none⟩ = some (.int .u64 (B.b2i q)) ∧ w'.cell? ⟨g4, 8, none⟩ = some (.string ⟨#[]⟩)) (first | exact ⟨below_drew (Below.refl _ _), F.out _ (below_drew (Below.refl _ _))⟩ | exact ⟨by assumption, F.out _ (by assumption)⟩) ((go_at_call 25; refine (bitL _ _).mono ?_; rintro e wb ⟨rfl, hb⟩; have hk := below_step (And.left (by assumption)) hb; clear hb))
  all_goals (go_wp2; go_ret; exact ⟨rfl, below_step HB.out (by assumption)⟩)

end Go.Proofs.Ytfadafgnahhmdaa.X

