import Derived.Test.YtfadafgnahhmdaaV2
namespace Go.Proofs.Ytfadafgnahhmdaa.X
open Go.RowKit Go.Proofs.YtfadafgnahhmdaaW.PrintWords Go.Proofs.YtfadafgnahhmdaaW.PrintLast Go.Proofs.YtfadafgnahhmdaaW.PrintMore Go.Proofs.Ytfadafgnahhmdaa.E
attribute [local go_sem] max2_int min2_int max_two min_two max_three min_three max_four min_four
set_option linter.unusedVariables false
set_option linter.unusedSimpArgs false

set_option maxHeartbeats 1600000 in
set_option maxRecDepth 100000 in
theorem vars4_calls (w : World) :
    Calls Try.prog 20 #[.int .i64 4] w fun e w' => ∃ (A : Option Addr) (c : Nat), e = .returned (.slice A 3 c) ∧ 3 ≤ c ∧ Kd.C kU w' A 3 [((⟨#[67, 76, 75]⟩ : ByteArray), 1, 1, false), ((⟨#[81]⟩ : ByteArray), 2, 1, false), ((⟨#[77]⟩ : ByteArray), 4, 1, true)] ∧ Below w.heap.size w w' := by
  have HR0 := Aside0.mk (Rows.nil (W := w))
  have HB0 := Aside0.mk (Below.refl w.heap.size w)
  go_enter Try.func20, Try.ntmps20
  go_wp2_with fail
  with_reducible refine (of_next HR0 HB0 1 1 [(⟨#[67, 76, 75]⟩ : ByteArray)] _ _ ?h1 ?h2 ?h3).mono ?_
  case h1 => rfl
  case h2 => rfl
  case h3 => decide
  rintro e w1 ⟨A1, c1, rfl, HR1, HB1⟩
  simp only [List.nil_append, List.cons_append] at HR1
  go_wp2_with fail
  with_reducible refine (of_next HR1 HB1 2 1 [(⟨#[81]⟩ : ByteArray)] _ _ ?h1 ?h2 ?h3).mono ?_
  case h1 => rfl
  case h2 => rfl
  case h3 => decide
  rintro e w2 ⟨A2, c2, rfl, HR2, HB2⟩
  simp only [List.nil_append, List.cons_append] at HR2
  go_wp2_with fail
  with_reducible refine (of_next HR2 HB2 4 1 [(⟨#[77]⟩ : ByteArray)] _ _ ?h1 ?h2 ?h3).mono ?_
  case h1 => rfl
  case h2 => rfl
  case h3 => decide
  rintro e w3 ⟨A3, c3, rfl, HR3, HB3⟩
  simp only [List.nil_append, List.cons_append] at HR3
  go_wp2_with fail
  with_reducible refine (concat_last HR3 HB3 _ _ ?h1 ?h2 ?h3 ?h4 (B.vars 4) ?h5).mono ?_
  case h1 => rfl
  case h2 => rfl
  case h3 => decide
  case h4 => decide
  case h5 => rfl
  rintro e w' ⟨v, rfl, HR, HB⟩
  obtain ⟨g, cap, rfl, hbg, hgl, cells, hblk⟩ := Kd.R_form HR.out (by decide)
  clear hblk cells
  have HG := Aside0.mk hgl
  have hcap : 3 ≤ cap := (Kd.R_reads' HR.out).2.1
  have HBG := Aside0.mk hbg
  clear hgl hbg
  go_wp2_with fail
  refine (bool_calls _).mono ?_
  rintro e w4 ⟨rfl, hb⟩
  have HB4 := Aside0.mk (below_step HB.out hb)
  have HR4 := Aside0.mk (Kd.R_alloc (Kd.R_below HR.out hb) (.cells #[.int .u8 1, .int .u64 1, .string ⟨#[]⟩] 34))
  have HG4 := Aside0.mk (Nat.lt_of_lt_of_le HG.out hb.size)
  clear hb
  obtain ⟨cs, _, hM, hcell, hfr⟩ := Kd.R_elem HR4.out (⟨#[]⟩, 0, 0) 2 (by omega) (by decide)
  have hM' : cs = vcells ((⟨#[77]⟩ : ByteArray), 4, 1) := hM
  subst hM'
  have hx : (w4.alloc (.cells #[.int .u8 1, .int .u64 1, .string ⟨#[]⟩] 34)).cell? ⟨g, 44, none⟩ = some (.slice none 0 0) := hcell 12 _ rfl
  have hf : (w4.alloc (.cells #[.int .u8 1, .int .u64 1, .string ⟨#[]⟩] 34)).frozen? ⟨g, 44, none⟩ = false := hfr 12
  clear hcell hfr hM
  go_wp2
  go_ret
  refine ⟨_, _, rfl, hcap, fall_row (w := w) HR4.out (by have := HG4.out; simp; omega) ⟨w4.heap.size, 0, none⟩ (by have := HG4.out; show w4.heap.size ≠ g; omega) (lit_one w4 ⟨1, 1, ⟨#[]⟩⟩), ?_⟩
  exact (below_alloc HB4.out _).setCell HBG.out _
set_option maxHeartbeats 1600000 in
set_option maxRecDepth 100000 in
theorem varsN_calls (k : Int) (w : World) (h : ¬ (1 ≤ k ∧ k ≤ 10)) :
    Calls Try.prog 20 #[.int .i64 k] w fun e w' => e = .returned (.slice none 0 0) ∧ w = w' := by
  have h1 : (k == 1) = false := beq_eq_false_iff_ne.mpr (by omega)
  have h2 : (k == 2) = false := beq_eq_false_iff_ne.mpr (by omega)
  have h3 : (k == 3) = false := beq_eq_false_iff_ne.mpr (by omega)
  have h4 : (k == 4) = false := beq_eq_false_iff_ne.mpr (by omega)
  have h5 : (k == 5) = false := beq_eq_false_iff_ne.mpr (by omega)
  have h6 : (k == 6) = false := beq_eq_false_iff_ne.mpr (by omega)
  have h7 : (k == 7) = false := beq_eq_false_iff_ne.mpr (by omega)
  have h8 : (k == 8) = false := beq_eq_false_iff_ne.mpr (by omega)
  have h9 : (k == 9) = false := beq_eq_false_iff_ne.mpr (by omega)
  have h10 : (k == 10) = false := beq_eq_false_iff_ne.mpr (by omega)
  go_enter Try.func20, Try.ntmps20
  go_wp2
  go_ret
  exact ⟨rfl, rfl⟩
theorem vars_calls (k : Int) (w : World) :
    Calls Try.prog 20 #[.int .i64 k] w fun e w' => ∃ (A : Option Addr) (c : Nat), e = .returned (.slice A (B.varsU k).length c) ∧ (B.varsU k).length ≤ c ∧ Kd.C kU w' A (B.varsU k).length (B.varsU k) ∧ Below w.heap.size w w' := by
  have fin : ∀ (q : Int), Calls Try.prog 20 #[.int .i64 q] w (fun e w' => ∃ v : Value, e = .returned v ∧ Aside0 (Kd.R kV 66 w' w.heap.size (fun _ => True) v (B.vars q)) ∧ Aside0 (Below w.heap.size w w')) → (B.varsU q = (B.vars q).map fun x => (x.1, x.2.1, x.2.2, false)) →
      Calls Try.prog 20 #[.int .i64 q] w fun e w' => ∃ (A : Option Addr) (c : Nat), e = .returned (.slice A (B.varsU q).length c) ∧ (B.varsU q).length ≤ c ∧ Kd.C kU w' A (B.varsU q).length (B.varsU q) ∧ Below w.heap.size w w' := by
    intro q hc hq
    refine hc.mono ?_
    rintro e w' ⟨v, rfl, HR, HB⟩
    obtain ⟨A, c, rfl, hle, hC⟩ := own_len3 HR.out
    rw [hq, List.length_map]
    exact ⟨A, c, rfl, hle, hC, HB.out⟩
  by_cases hk : 1 ≤ k ∧ k ≤ 10
  · have h : k = 1 ∨ k = 2 ∨ k = 3 ∨ k = 4 ∨ k = 5 ∨ k = 6 ∨ k = 7 ∨ k = 8 ∨ k = 9 ∨ k = 10 := by omega
    rcases h with rfl | rfl | rfl | rfl | rfl | rfl | rfl | rfl | rfl | rfl
    · exact fin 1 (vars1_calls w) rfl
    · exact fin 2 (vars2_calls w) rfl
    · exact fin 3 (vars3_calls w) rfl
    · exact vars4_calls w
    · exact fin 5 (vars5_calls w) rfl
    · exact fin 6 (vars6_calls w) rfl
    · exact fin 7 (vars7_calls w) rfl
    · exact fin 8 (vars8_calls w) rfl
    · exact fin 9 (vars9_calls w) rfl
    · exact fin 10 (vars10_calls w) rfl
  · refine (varsN_calls k w hk).mono ?_
    rintro e w' ⟨rfl, rfl⟩
    have h0 : B.varsU k = [] := by
      unfold B.varsU B.vars
      simp only [show ¬ k = 1 by omega, show ¬ k = 2 by omega, show ¬ k = 3 by omega, show ¬ k = 4 by omega, show ¬ k = 5 by omega, show ¬ k = 6 by omega, show ¬ k = 7 by omega, show ¬ k = 8 by omega, show ¬ k = 9 by omega, show ¬ k = 10 by omega, if_false, List.map_nil]
    rw [h0]
    exact ⟨none, 0, rfl, Nat.le_refl _, Kd.C_nil _ _, Below.refl _ _⟩


end Go.Proofs.Ytfadafgnahhmdaa.X

