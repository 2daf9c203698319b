import Derived.Test.YtfadafgnahhmdaaK1
import Derived.Test.YtfadafgnahhmdaaK3
import Derived.Test.YtfadafgnahhmdaaN2
import Derived.Deep.RegionHeld3
namespace Go.Proofs.Ytfadafgnahhmdaa.X
open Go.RowKit Go.Proofs.YtfadafgnahhmdaaW.PrintWords Go.Proofs.YtfadafgnahhmdaaW.PrintLast Go.Proofs.YtfadafgnahhmdaaW.PrintMore Go.Proofs.Ytfadafgnahhmdaa.E
attribute [local go_sem] max2_int min2_int max_two min_two max_three min_three max_four min_four
set_option linter.unusedVariables false
set_option linter.unusedSimpArgs false

set_option maxHeartbeats 3200000 in
set_option maxRecDepth 100000 in
theorem tells_calls (k : Int) (s : ByteArray) (w : World) :
    Calls Try.prog 3 #[.int .i64 k, .string s] w fun e w' => e = .returned (.bool true) ∧ Below w.heap.size w w' := by
  obtain ⟨kp, hkp⟩ : ∃ p, kindF s = p := ⟨_, rfl⟩
  obtain ⟨kn, kb⟩ := kp
  obtain ⟨nf, hnf⟩ : ∃ p, nameF k = p := ⟨_, rfl⟩
  obtain ⟨n, hn⟩ : ∃ n, (B.varsU k).length = n := ⟨_, rfl⟩
  have HK := Aside0.mk hkp
  have HNF := Aside0.mk hnf
  have HN := Aside0.mk hn
  clear hkp hnf hn
  go_enter Try.func3, Try.ntmps3
  go_wp2_with fail
  refine (kind13_calls s _).mono ?_
  rw [HK.out]
  rintro e w1 ⟨rfl, hb⟩
  have HB1 := Aside0.mk hb
  clear hb
  go_wp2_with fail
  refine (kind14_calls s _).mono ?_
  rw [HK.out]
  rintro e w2 ⟨rfl, hb⟩
  have HB2 := Aside0.mk (below_step HB1.out hb)
  clear hb HB1
  go_wp2_with fail
  refine (name15_calls k _).mono ?_
  rw [HNF.out]
  rintro e w3 ⟨rfl, hb⟩
  have HB3 := Aside0.mk (below_step HB2.out hb)
  clear hb HB2
  go_wp2_with fail
  refine (name16_calls k _).mono ?_
  rw [HNF.out]
  rintro e w4 ⟨rfl, hb⟩
  have HB4 := Aside0.mk (below_step HB3.out hb)
  clear hb HB3
  go_wp2_with fail
  refine (size17_calls k _).mono ?_
  rw [HN.out]
  rintro e w5 ⟨rfl, hb⟩
  have HB5 := Aside0.mk (below_step HB4.out hb)
  clear hb HB4
  go_wp2_with fail
  refine (size18_calls k _).mono ?_
  rw [HN.out]
  rintro e w6 ⟨rfl, hb⟩
  have HB6 := Aside0.mk (below_step HB5.out hb)
  clear hb HB5
  go_wp2_with fail
  refine (vars_calls k _).mono ?_
  rw [HN.out]
  rintro e w7 ⟨A1, c1, rfl, hc1, hC1, hb⟩
  have HB7 := Aside0.mk (below_step HB6.out hb)
  have HC1 := Aside0.mk hC1
  clear hb HB6 hC1
  go_wp2_with fail
  refine (rvars_calls k _).mono ?_
  rw [HN.out]
  rintro e w8 ⟨A2, c2, rfl, hc2, hC2, hb⟩
  have HB8 := Aside0.mk (below_step HB7.out hb)
  have HC1 := Aside0.mk (Kd.C_below HC1.out hb)
  have HC2 := Aside0.mk hC2
  clear hb HB7 hC2
  go_wp2_with fail
  refine (samevars_calls A1 A2 n c1 c2 (B.varsU k) _ HC1.out HC2.out (by have := varsU_len k; have := HN.out; omega)).mono ?_
  rintro e w9 ⟨rfl, hb⟩
  have HB9 := Aside0.mk (below_step HB8.out hb)
  clear hb HB8 HC1 HC2
  go_wp2_with fail
  refine (start_calls k _).mono ?_
  rintro e w10 ⟨v1, rfl, ho1, hb⟩
  obtain ⟨A3, c3, rfl, hc3, hS1⟩ := Kd.R_reads ho1
  have HB10 := Aside0.mk (below_step HB9.out hb)
  have HS1 := Aside0.mk (And.intro hc3 hS1)
  clear hb HB9 hS1 ho1 hc3
  go_wp2_with fail
  refine (rstart_calls k _).mono ?_
  rintro e w11 ⟨v2, rfl, ho2, hb⟩
  obtain ⟨A4, c4, rfl, hc4, hS2⟩ := Kd.R_reads ho2
  have HB11 := Aside0.mk (below_step HB10.out hb)
  have HS1 := Aside0.mk (And.intro HS1.out.1 (Kd.C_below HS1.out.2 hb))
  have HS2 := Aside0.mk (And.intro hc4 hS2)
  clear hb HB10 hS2 ho2 hc4
  go_wp2_with fail
  refine (equal_calls HS1.out.2 HS1.out.1 HS2.out.2 HS2.out.1).mono ?_
  rintro e w12 ⟨rfl, hb⟩
  have HB12 := Aside0.mk (below_step HB11.out hb)
  clear hb HB11 HS1 HS2
  go_wp2_with fail
  refine (size17_calls 1 _).mono ?_
  rw [show (B.varsU 1).length = 3 from rfl]
  rintro e w13 ⟨rfl, hb⟩
  have HB13 := Aside0.mk (below_step HB12.out hb)
  clear hb HB12
  go_wp2
  go_ret
  exact ⟨rfl, HB13.out⟩

end Go.Proofs.Ytfadafgnahhmdaa.X

