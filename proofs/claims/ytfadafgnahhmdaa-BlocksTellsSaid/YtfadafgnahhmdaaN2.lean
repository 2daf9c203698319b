import Derived.Test.YtfadafgnahhmdaaS
import Derived.Test.YtfadafgnahhmdaaN1
namespace Go.Proofs.Ytfadafgnahhmdaa.X
open Go.RowKit Go.Proofs.YtfadafgnahhmdaaW.PrintWords Go.Proofs.YtfadafgnahhmdaaW.PrintLast Go.Proofs.YtfadafgnahhmdaaW.PrintMore Go.Proofs.Ytfadafgnahhmdaa.E
attribute [local go_sem] max2_int min2_int max_two min_two max_three min_three max_four min_four
set_option linter.unusedVariables false
set_option linter.unusedSimpArgs false

set_option maxHeartbeats 1600000 in
set_option maxRecDepth 100000 in
theorem size17_calls (k : Int) (w : World) :
    Calls Try.prog 17 #[.int .i64 k] w fun e w' => e = .returned (.int .i64 (B.varsU k).length) ∧ Below w.heap.size w w' := by
  go_enter Try.func17, Try.ntmps17
  go_wp2_with (go_at_call 20; refine (vars_calls _ _).mono ?_; rintro e w1 ⟨A, c, rfl, hle, hC, hb⟩; have HB := Aside0.mk hb; clear hC hb hle)
  go_ret
  exact ⟨rfl, HB.out⟩
set_option maxHeartbeats 1600000 in
set_option maxRecDepth 100000 in
theorem size18_calls (k : Int) (w : World) :
    Calls Try.prog 18 #[.int .i64 k] w fun e w' => e = .returned (.int .i64 (B.varsU k).length) ∧ Below w.heap.size w w' := by
  go_enter Try.func18, Try.ntmps18
  go_wp2_with (go_at_call 21; refine (rvars_calls _ _).mono ?_; rintro e w1 ⟨A, c, rfl, hle, hC, hb⟩; have HB := Aside0.mk hb; clear hC hb hle)
  go_ret
  exact ⟨rfl, HB.out⟩
set_option maxHeartbeats 1600000 in
set_option maxRecDepth 100000 in
theorem rstart_calls (k : Int) (w : World) :
    Calls Try.prog 24 #[.int .i64 k] w fun e w' => ∃ v : Value, e = .returned v ∧ Kd.R k34 34 w' w.heap.size (fun _ => True) v (startL k) ∧ Below w.heap.size w w' := by
  have hu34 := Try.underlying34
  have hu64 := Try.underlying64
  have hu66 := Try.underlying66
  obtain ⟨n, hn⟩ : ∃ n, n = (B.varsU k).length := ⟨_, rfl⟩
  have hn10 : n ≤ 10 := by have := varsU_len k; omega
  have HN := Aside0.mk hn
  clear hn
  go_enter Try.func24, Try.ntmps24
  go_wp2_with (go_at_call 21; refine (rvars_calls _ _).mono ?_; rintro e w1 ⟨A, c, rfl, hle, hC, hb⟩; rw [← HN.out] at hle hC ⊢; have HC := Aside0.mk hC; have HB := Aside0.mk hb; clear hC hb hle)
  go_loopw [4, 5] (fun v i wr => ∃ j : Nat, j ≤ n ∧ i = .int .i64 j ∧ Aside0 (Kd.R k34 34 wr w1.heap.size (fun _ => True) v ((startL k).take j)) ∧ Aside0 (Below w1.heap.size w1 wr)) (fun _ i _ => n - (intOf i).toNat)
  case atStart => exact ⟨0, Nat.zero_le _, rfl, ⟨Kd.R_nil _ _ _ _ _⟩, ⟨Below.refl _ _⟩⟩
  case round =>
    obtain ⟨j, hj, rfl, HO, HW⟩ := hrel
    by_cases hlt : j < n
    · obtain ⟨ad, x, sv, rfl, hx, hK, hsv, hc0, hci⟩ := kU_at (Kd.C_below HC.out HW.out) j hlt
      have hst := startL_step k j x hx
      obtain ⟨hkd, hki⟩ := varsU_kind k j x hx
      obtain ⟨nm, cl, kd, ini⟩ := x
      simp only at hkd hki hsv hst hc0
      have HST := Aside0.mk hst
      clear hst hx hc0
      have x3 := hci 3 _ (by omega) rfl
      have x12 := hci 12 _ (by omega) rfl
      clear hci
      have hb1 : (0 ≤ (j : Int)) = True := eq_true (by omega)
      have hb2 : ((j : Int) < (n : Int)) = True := eq_true (by omega)
      cases ini with
      | false =>
        obtain rfl := hsv rfl
        clear hsv hki
        have z12 : ∀ o, (wr.alloc o).cell? ⟨(ad.add (j * 16)).block, (ad.add (j * 16)).off + 12, none⟩ = some (.slice none 0 0) := fun o => (World.cell?_alloc_lt wr o ⟨(ad.add (j * 16)).block, (ad.add (j * 16)).off + 12, none⟩ (World.block_lt_of_cell? wr _ x12)).trans x12
        have hw2 : Below wr.heap.size wr (wr.alloc (.cells #[.int .u8 kd, .int .u64 0, .string ⟨#[]⟩] 34)) := below_alloc (Below.refl _ _) _
        have HO2 := Aside0.mk (Kd.R_below HO.out hw2)
        have HW2 := Aside0.mk (below_step HW.out hw2)
        clear hw2 hK
        have hlst : ((startL k).take j).length ≤ 10 := by rw [List.length_take]; omega
        have HLT := Aside0.mk hlst
        clear hlst
        go_wp2_with (first | (at_builtin; refine R_append' k34 (w0 := w1) w1.heap.size rfl (.tmp 36) (.tmp 38) 30 34 _ 32 rfl Try.underlying30 info34 rfl (by decide) (by omega) u4 ((startL k).take j) ⟨kd, 0, ⟨#[]⟩⟩ [.int .u8 kd, .int .u64 0, .string ⟨#[]⟩] (fun _ => True) (fun _ => False) _ rfl rfl ?aG (k34_mkM _ _ _ ⟨kd, 0, ⟨#[]⟩⟩) (fun _ h => h.elim) (fun _ _ => trivial) HO2.out HW2.out HW2.out.size ?aS ?_; (case aG => simp); (case aS => have := HLT.out; omega); intro v3 w3 ho hb hg hat; have HO3 := Aside0.mk ho; have HW3 := Aside0.mk hb; clear ho hb hg hat))
        go_roundw
        case rel => exact ⟨j + 1, by omega, by go_num, ⟨by rw [HST.out]; exact HO3.out⟩, HW3⟩
        case measure => simp [intOf]; omega
      | true =>
        obtain rfl := hki rfl
        clear hki hsv hkd
        obtain ⟨sv2, hse, hsv2⟩ := hK
        have hsv3 : sv = sv2 := by simpa [ucells] using hse
        subst hsv3
        obtain ⟨A2, c2, rfl, hc2, hC2⟩ : ∃ A c, sv = .slice A 1 c ∧ 1 ≤ c ∧ Kd.C k34 wr A 1 [⟨1, 1, ⟨#[]⟩⟩] := by
          rcases hsv2 with ⟨hf, _⟩ | ⟨_, h⟩
          · cases hf
          · exact h
        clear hse hsv2
        obtain ⟨ad2, rfl, hq⟩ := hC2.2.2 (by omega)
        obtain ⟨cs2, _, hK2, hcc⟩ := hq 0 _ rfl
        obtain rfl := k34_open hK2
        have y0 := hcc 0 _ rfl
        have y1 := hcc 1 _ rfl
        have y2 := hcc 2 _ rfl
        rw [Nat.zero_mul, Nat.zero_add] at y0 y1 y2
        have z0 : wr.cell? ad2 = some (.int .u8 1) := by rw [Addr.add_zero'] at y0; exact y0
        have z1 : wr.cell? ⟨ad2.block, ad2.off + 1, none⟩ = some (.int .u64 1) := by rw [← Addr.add_zero' ad2, ← add_field ad2 0 1 (by omega)]; exact y1
        have z2 : wr.cell? ⟨ad2.block, ad2.off + 2, none⟩ = some (.string ⟨#[]⟩) := by rw [← Addr.add_zero' ad2, ← add_field ad2 0 2 (by omega)]; exact y2
        have hlt2 : ad2.block < wr.heap.size := World.block_lt_of_cell? wr _ z0
        clear hcc hq y0 y1 y2 hK2 hC2
        have z12 : ∀ o, (wr.alloc o).cell? ⟨(ad.add (j * 16)).block, (ad.add (j * 16)).off + 12, none⟩ = some (.slice (some ad2) 1 c2) := fun o => (World.cell?_alloc_lt wr o ⟨(ad.add (j * 16)).block, (ad.add (j * 16)).off + 12, none⟩ (World.block_lt_of_cell? wr _ x12)).trans x12
        have t0 : ∀ o, (wr.alloc o).cell? ad2 = some (.int .u8 1) := fun o => (World.cell?_alloc_lt _ _ _ hlt2).trans z0
        have t1 : ∀ o, (wr.alloc o).cell? ⟨ad2.block, ad2.off + 1, none⟩ = some (.int .u64 1) := fun o => (World.cell?_alloc_lt wr o ⟨ad2.block, ad2.off + 1, none⟩ hlt2).trans z1
        have t2 : ∀ o, (wr.alloc o).cell? ⟨ad2.block, ad2.off + 2, none⟩ = some (.string ⟨#[]⟩) := fun o => (World.cell?_alloc_lt wr o ⟨ad2.block, ad2.off + 2, none⟩ hlt2).trans z2
        have hw2 : Below wr.heap.size wr (wr.alloc (.cells #[.int .u8 1, .int .u64 1, .string ⟨#[]⟩] 34)) := below_alloc (Below.refl _ _) _
        have HO2 := Aside0.mk (Kd.R_below HO.out hw2)
        have HW2 := Aside0.mk (below_step HW.out hw2)
        clear hw2 z0 z1 z2
        have hlst : ((startL k).take j).length ≤ 10 := by rw [List.length_take]; omega
        have HLT := Aside0.mk hlst
        clear hlst
        go_wp2_with (first | (at_builtin; refine R_append' k34 (w0 := w1) w1.heap.size rfl (.tmp 36) (.tmp 38) 30 34 _ 32 rfl Try.underlying30 info34 rfl (by decide) (by omega) u4 ((startL k).take j) ⟨1, 1, ⟨#[]⟩⟩ [.int .u8 1, .int .u64 1, .string ⟨#[]⟩] (fun _ => True) (fun _ => False) _ rfl rfl ?aG (k34_mkM _ _ _ ⟨1, 1, ⟨#[]⟩⟩) (fun _ h => h.elim) (fun _ _ => trivial) HO2.out HW2.out HW2.out.size ?aS ?_; (case aG => simp); (case aS => have := HLT.out; omega); intro v3 w3 ho hb hg hat; have HO3 := Aside0.mk ho; have HW3 := Aside0.mk hb; clear ho hb hg hat))
        go_roundw
        case rel => exact ⟨j + 1, by omega, by go_num, ⟨by rw [HST.out]; exact HO3.out⟩, HW3⟩
        case measure => simp [intOf]; omega
    · go_wp2
      go_ret
      refine ⟨_, rfl, ?_, below_step HB.out HW.out⟩
      rw [show startL k = (startL k).take j from (List.take_of_length_le (by rw [startL_len]; have := HN.out; omega)).symm]
      exact Kd.R_lower HO.out HB.out.size

end Go.Proofs.Ytfadafgnahhmdaa.X

