import Derived.Test.YtfadafgnahhmdaaV3
namespace Go.Proofs.Ytfadafgnahhmdaa.X
open Go.RowKit Go.Proofs.YtfadafgnahhmdaaW.PrintWords Go.Proofs.YtfadafgnahhmdaaW.PrintLast Go.Proofs.YtfadafgnahhmdaaW.PrintMore Go.Proofs.Ytfadafgnahhmdaa.E
attribute [local go_sem] max2_int min2_int max_two min_two max_three min_three max_four min_four
set_option linter.unusedVariables false
set_option linter.unusedSimpArgs false

set_option maxHeartbeats 800000 in
set_option maxRecDepth 100000 in
theorem zero_calls (k : Int) (w : World) (h1 : 1 ≤ k) (h2 : k ≤ 19) :
    Calls Try.prog 40 #[.int .u8 k] w fun e w' => e = .returned (.agg #[.int .u8 k, .int .u64 0, .string ⟨#[]⟩]) ∧ Below w.heap.size w w' := by
  have hu34 := Try.underlying34
  have b1 : decide (1 ≤ k) = true := decide_eq_true h1
  have b2 : decide (k ≤ 19) = true := decide_eq_true h2
  go_enter Try.func40, Try.ntmps40
  go_wp2
  exact bodyPost_ret (v := .agg #[.int .u8 k, .int .u64 0, .string ⟨#[]⟩]) (by simp [results, Try.results40, go_sem]) rfl ⟨rfl, below_alloc (Below.refl _ _) _⟩
/-- the cells at the start -/
def startL (k : Int) : List S34 := (B.varsU k).map fun x => ⟨x.2.2.1, if x.2.2.2 then 1 else 0, ⟨#[]⟩⟩
theorem startL_len (k : Int) : (startL k).length = (B.varsU k).length := by simp [startL]
theorem startL_step (k : Int) (j : Nat) (x : ByteArray × Int × Int × Bool) (h : (B.varsU k)[j]? = some x) : (startL k).take (j + 1) = (startL k).take j ++ [⟨x.2.2.1, if x.2.2.2 then 1 else 0, ⟨#[]⟩⟩] := by
  have hj := (List.getElem?_eq_some_iff.1 h).1
  rw [List.take_succ_eq_append_getElem (by rw [startL_len]; exact hj)]
  congr 2
  have := (List.getElem?_eq_some_iff.1 h).2
  simp [startL, this]
theorem varsU_len (k : Int) : (B.varsU k).length ≤ 10 := by
  unfold B.varsU
  rw [List.length_map]
  refine B.vars_ind (P := fun l => l.length ≤ 10) k ?_ ?_ ?_ ?_ ?_ ?_ ?_ ?_ ?_ ?_ ?_ <;> decide
theorem vars_kind (k : Int) : ∀ x ∈ B.vars k, x.2.2 = 1 ∨ x.2.2 = 3 ∨ x.2.2 = 14 := by
  refine B.vars_ind (P := fun l => ∀ x ∈ l, x.2.2 = 1 ∨ x.2.2 = 3 ∨ x.2.2 = 14) k ?_ ?_ ?_ ?_ ?_ ?_ ?_ ?_ ?_ ?_ ?_ <;> decide
theorem vars4_own : ∀ x ∈ B.vars 4, x.2.2 = 1 := by decide
theorem varsU_kind (k : Int) (j : Nat) (x : ByteArray × Int × Int × Bool) (h : (B.varsU k)[j]? = some x) : (x.2.2.1 = 1 ∨ x.2.2.1 = 3 ∨ x.2.2.1 = 14) ∧ (x.2.2.2 = true → x.2.2.1 = 1) := by
  have hm := List.mem_of_getElem? h
  unfold B.varsU at hm
  obtain ⟨y, hy, rfl⟩ := List.mem_map.1 hm
  refine ⟨vars_kind k y hy, fun hi => ?_⟩
  simp at hi
  obtain ⟨rfl, _⟩ := hi
  exact vars4_own y hy
/-- The cells of a variable that is read. -/
theorem kU_at {w : World} {A : Option Addr} {n : Nat} {xs : List (ByteArray × Int × Int × Bool)} (h : Kd.C kU w A n xs) (j : Nat) (hj : j < n) : ∃ ad x sv, A = some ad ∧ xs[j]? = some x ∧ KU w x (ucells x sv) ∧ (x.2.2.2 = false → sv = .slice none 0 0) ∧
    w.cell? (ad.add (j * 16)) = some (.string x.1) ∧ (∀ i u, 0 < i → (ucells x sv)[i]? = some u → w.cell? ⟨(ad.add (j * 16)).block, (ad.add (j * 16)).off + i, none⟩ = some u) := by
  obtain ⟨ad, rfl, hc⟩ := h.2.2 (by omega)
  have hl := h.1
  obtain ⟨x, hx⟩ : ∃ x, xs[j]? = some x := ⟨_, List.getElem?_eq_getElem (by omega)⟩
  obtain ⟨c, _, hK, hcell⟩ := hc j x hx
  have hK2 : KU w x c := hK
  obtain ⟨sv, rfl, hsv⟩ := hK
  refine ⟨ad, x, sv, rfl, hx, hK2, fun hf => ?_, hcell 0 _ rfl, fun i u hi hu => ?_⟩
  · rcases hsv with ⟨_, h⟩ | ⟨ht, _⟩
    · exact h
    · rw [hf] at ht; cases ht
  · rw [← add_field _ _ i hi]
    exact hcell i u hu
theorem info34 : (Try.prog.info? 34).map (fun i => (i.zero, i.size, i.bytes)) = some (some (.agg #[(.int .u8 0), (.int .u64 0), (.string ⟨#[]⟩)]), 3, 32) := by kernel_rfl
set_option maxHeartbeats 1600000 in
set_option maxRecDepth 100000 in
theorem start_calls (k : Int) (w : World) :
    Calls Try.prog 23 #[.int .i64 k] w fun e w' => ∃ v : Value, e = .returned v ∧ Kd.R k34 34 w' w.heap.size (fun _ => True) v (startL k) ∧ Below w.heap.size w w' := by
  have hu34 := Try.underlying34
  have hu64 := Try.underlying64
  have hu66 := Try.underlying66
  obtain ⟨n, hn⟩ : ∃ n, n = (B.varsU k).length := ⟨_, rfl⟩
  have hn10 : n ≤ 10 := by have := varsU_len k; omega
  have HN := Aside0.mk hn
  clear hn
  go_enter Try.func23, Try.ntmps23
  go_wp2_with (go_at_call 20; refine (vars_calls _ _).mono ?_; rintro e w1 ⟨A, c, rfl, hle, hC, hb⟩; rw [← HN.out] at hle hC ⊢; have HC := Aside0.mk hC; have HB := Aside0.mk hb; clear hC hb hle)
  go_loopw [3, 10] (fun v i wr => ∃ j : Nat, j ≤ n ∧ i = .int .i64 j ∧ Aside0 (Kd.R k34 34 wr w1.heap.size (fun _ => True) v ((startL k).take j)) ∧ Aside0 (Below w1.heap.size w1 wr)) (fun _ i _ => n - (intOf i).toNat)
  case atStart => exact ⟨0, Nat.zero_le _, rfl, ⟨Kd.R_nil _ _ _ _ _⟩, ⟨Below.refl _ _⟩⟩
  case round =>
    obtain ⟨j, hj, rfl, HO, HW⟩ := hrel
    by_cases hlt : j < n
    · obtain ⟨ad, x, sv, rfl, hx, hK, hsv, hc0, hci⟩ := kU_at (Kd.C_below HC.out HW.out) j hlt
      have hst := startL_step k j x hx
      obtain ⟨hkd, hki⟩ := varsU_kind k j x hx
      obtain ⟨nm, cl, kd, ini⟩ := x
      simp only at hkd hki hsv hst hc0
      have HST := Aside0.mk hst
      clear hst hx
      have x1 := hci 1 _ (by omega) rfl
      have x2 := hci 2 _ (by omega) rfl
      have x3 := hci 3 _ (by omega) rfl
      have x4 := hci 4 _ (by omega) rfl
      have x5 := hci 5 _ (by omega) rfl
      have x6 := hci 6 _ (by omega) rfl
      have x7 := hci 7 _ (by omega) rfl
      have x8 := hci 8 _ (by omega) rfl
      have x9 := hci 9 _ (by omega) rfl
      have x10 := hci 10 _ (by omega) rfl
      have x11 := hci 11 _ (by omega) rfl
      have x12 := hci 12 _ (by omega) rfl
      have x13 := hci 13 _ (by omega) rfl
      have x14 := hci 14 _ (by omega) rfl
      have x15 := hci 15 _ (by omega) rfl
      clear hci
      have hb1 : (0 ≤ (j : Int)) = True := eq_true (by omega)
      have hb2 : ((j : Int) < (n : Int)) = True := eq_true (by omega)
      cases ini with
      | false =>
        obtain rfl := hsv rfl
        clear hsv hki
        go_wp2_with fail
        refine (zero_calls kd _ (by omega) (by omega)).mono ?_
        rintro e w2 ⟨rfl, hb2⟩
        have hw2 : Below wr.heap.size wr w2 := below_step (below_alloc (Below.refl _ _) _) hb2
        have HO2 := Aside0.mk (Kd.R_below HO.out hw2)
        have HW2 := Aside0.mk (below_step HW.out hw2)
        have hz2 : wr.heap.size < w2.heap.size := by have := hb2.size; simp at this; omega
        have hz : ∀ o, (w2.alloc o).cell? ⟨wr.heap.size, 12, none⟩ = some (.slice none 0 0) := fun o => (World.cell?_alloc_lt _ _ _ hz2).trans ((hb2.cell (by simp)).trans (by simp))
        clear hb2 hw2
        have hlst : ((startL k).take j).length ≤ 10 := by rw [List.length_take]; omega
        have HLT := Aside0.mk hlst
        clear hlst
        go_wp2_with (first | (at_builtin; refine R_append' k34 (w0 := w1) w1.heap.size rfl (.tmp 26) (.tmp 28) 30 34 _ 32 rfl Try.underlying30 info34 rfl (by decide) (by omega) u3 ((startL k).take j) ⟨kd, 0, ⟨#[]⟩⟩ [.int .u8 kd, .int .u64 0, .string ⟨#[]⟩] (fun _ => True) (fun _ => False) _ rfl rfl ?aG (k34_mkM _ _ _ ⟨kd, 0, ⟨#[]⟩⟩) (fun _ h => h.elim) (fun _ _ => trivial) (Kd.R_alloc HO2.out _) (below_alloc HW2.out _) (Nat.le_trans HW2.out.size (by simp)) ?aS ?_; (case aG => simp); (case aS => have := HLT.out; omega); intro v3 w3 ho hb hg hat; have HO3 := Aside0.mk ho; have HW3 := Aside0.mk hb; clear ho hb hg hat))
        go_roundw
        case rel => exact ⟨j + 1, by omega, by go_num, ⟨by rw [HST.out]; exact HO3.out⟩, HW3⟩
        case measure => simp [intOf]; omega
      | true =>
        obtain rfl := hki rfl
        clear hki hsv hkd
        obtain ⟨sv2, hse, hsv2⟩ := hK
        have hsv3 : sv = sv2 := by simpa [ucells] using hse
        subst hsv3
        obtain ⟨A2, c2, rfl, hc2, hC2⟩ : ∃ A c, sv = .slice A 1 c ∧ 1 ≤ c ∧ Kd.C k34 wr A 1 [⟨1, 1, ⟨#[]⟩⟩] := by
          rcases hsv2 with ⟨hf, _⟩ | ⟨_, h⟩
          · cases hf
          · exact h
        clear hse hsv2
        obtain ⟨ad2, rfl, hq⟩ := hC2.2.2 (by omega)
        obtain ⟨cs2, _, hK2, hcc⟩ := hq 0 _ rfl
        obtain rfl := k34_open hK2
        have y0 := hcc 0 _ rfl
        have y1 := hcc 1 _ rfl
        have y2 := hcc 2 _ rfl
        rw [Nat.zero_mul, Nat.zero_add] at y0 y1 y2
        have z0 : wr.cell? ad2 = some (.int .u8 1) := by rw [Addr.add_zero'] at y0; exact y0
        have z1 : wr.cell? ⟨ad2.block, ad2.off + 1, none⟩ = some (.int .u64 1) := by rw [← Addr.add_zero' ad2, ← add_field ad2 0 1 (by omega)]; exact y1
        have z2 : wr.cell? ⟨ad2.block, ad2.off + 2, none⟩ = some (.string ⟨#[]⟩) := by rw [← Addr.add_zero' ad2, ← add_field ad2 0 2 (by omega)]; exact y2
        have hlt2 : ad2.block < wr.heap.size := World.block_lt_of_cell? wr _ z0
        clear hcc hq y0 y1 y2 hK2 hC2
        go_wp2_with fail
        refine (zero_calls 1 _ (by omega) (by omega)).mono ?_
        rintro e w2 ⟨rfl, hb2⟩
        have hw2 : Below wr.heap.size wr w2 := below_step (below_alloc (Below.refl _ _) _) hb2
        have HO2 := Aside0.mk (Kd.R_below HO.out hw2)
        have HW2 := Aside0.mk (below_step HW.out hw2)
        have hz2 : wr.heap.size < w2.heap.size := by have := hb2.size; simp at this; omega
        have hz : ∀ o, (w2.alloc o).cell? ⟨wr.heap.size, 12, none⟩ = some (.slice (some ad2) 1 c2) := fun o => (World.cell?_alloc_lt _ _ _ hz2).trans ((hb2.cell (by simp)).trans (by simp))
        have hl3 : ad2.block < w2.heap.size := by omega
        have t0 : ∀ o, (w2.alloc o).cell? ad2 = some (.int .u8 1) := fun o => (World.cell?_alloc_lt _ _ _ hl3).trans ((hw2.cell hlt2).trans z0)
        have t1 : ∀ o, (w2.alloc o).cell? ⟨ad2.block, ad2.off + 1, none⟩ = some (.int .u64 1) := fun o => (World.cell?_alloc_lt w2 o ⟨ad2.block, ad2.off + 1, none⟩ hl3).trans ((hw2.cell (p := ⟨ad2.block, ad2.off + 1, none⟩) hlt2).trans z1)
        have t2 : ∀ o, (w2.alloc o).cell? ⟨ad2.block, ad2.off + 2, none⟩ = some (.string ⟨#[]⟩) := fun o => (World.cell?_alloc_lt w2 o ⟨ad2.block, ad2.off + 2, none⟩ hl3).trans ((hw2.cell (p := ⟨ad2.block, ad2.off + 2, none⟩) hlt2).trans z2)
        clear z0 z1 z2
        clear hb2 hw2
        have hlst : ((startL k).take j).length ≤ 10 := by rw [List.length_take]; omega
        have HLT := Aside0.mk hlst
        clear hlst
        go_wp2_with (first | (at_builtin; refine R_append' k34 (w0 := w1) w1.heap.size rfl (.tmp 26) (.tmp 28) 30 34 _ 32 rfl Try.underlying30 info34 rfl (by decide) (by omega) u3 ((startL k).take j) ⟨1, 1, ⟨#[]⟩⟩ [.int .u8 1, .int .u64 1, .string ⟨#[]⟩] (fun _ => True) (fun _ => False) _ rfl rfl ?aG (k34_mkM _ _ _ ⟨1, 1, ⟨#[]⟩⟩) (fun _ h => h.elim) (fun _ _ => trivial) (Kd.R_alloc HO2.out _) (below_alloc HW2.out _) (Nat.le_trans HW2.out.size (by simp)) ?aS ?_; (case aG => simp); (case aS => have := HLT.out; omega); intro v3 w3 ho hb hg hat; have HO3 := Aside0.mk ho; have HW3 := Aside0.mk hb; clear ho hb hg hat))
        go_roundw
        case rel => exact ⟨j + 1, by omega, by go_num, ⟨by rw [HST.out]; exact HO3.out⟩, HW3⟩
        case measure => simp [intOf]; omega
    · go_wp2
      go_ret
      refine ⟨_, rfl, ?_, below_step HB.out HW.out⟩
      rw [show startL k = (startL k).take j from (List.take_of_length_le (by rw [startL_len]; have := HN.out; omega)).symm]
      exact Kd.R_lower HO.out HB.out.size

end Go.Proofs.Ytfadafgnahhmdaa.X

