import Derived.Test.YtfadafgnahhmdaaHO
import Derived.Test.YtfadafgnahhmdaaHP
import Derived.Test.YtfadafgnahhmdaaHI
import Derived.Deep.RegionHeld3
set_option linter.unusedVariables false
set_option linter.unusedSimpArgs false
namespace Go.Proofs.Ytfadafgnahhmdaa.X
open Go.RowKit Go.Proofs.YtfadafgnahhmdaaW.PrintWords Go.Proofs.YtfadafgnahhmdaaW.PrintLast Go.Proofs.YtfadafgnahhmdaaW.PrintMore Go.Proofs.Ytfadafgnahhmdaa.E
attribute [local go_sem] max2_int min2_int max_two min_two max_three min_three max_four min_four
set_option linter.unusedVariables false
set_option linter.unusedSimpArgs false

theorem unt_tup' (l : List (Int × Int × ByteArray)) : (l.map unt).length = l.length := by simp
/-- the cells that the law's loop writes stand -/
def Stor (w : World) (g m : Nat) : Prop := ∀ j, j < m → (∃ u, w.cell? ⟨g, j * 3 + 1, none⟩ = some u) ∧ w.frozen? ⟨g, j * 3 + 1, none⟩ = false
theorem Stor.set {w : World} {g m : Nat} (h : Stor w g m) (i : Nat) (hi : i < m) (v : Value) : Stor (w.setCell ⟨g, i * 3 + 1, none⟩ v) g m := by
  intro j hj
  obtain ⟨⟨u, hu⟩, hf⟩ := h j hj
  refine ⟨?_, (World.frozen?_setCell _ _ _ _).trans hf⟩
  by_cases he : j = i
  · subst he
    exact ⟨v, World.cell?_setCell_same _ _ _ hu⟩
  · exact ⟨u, (World.cell?_setCell_other _ _ _ _ (by intro e; injection e with _ e; omega)).trans hu⟩
theorem Stor.of_R {w : World} {base g m cap : Nat} {ok : Nat → Prop} {xs : List S34} (h : Kd.R k34 34 w base ok (.slice (some ⟨g, 0, none⟩) m cap) xs) : Stor w g m := by
  intro j hj
  obtain ⟨cs, _, hM, hcell, hfr⟩ := Kd.R_elem h (default : S34) (j : Int) (by omega) (by omega)
  have hM2 := k34_openM hM
  subst hM2
  have h1 := hcell 1 _ rfl
  have h2 := hfr 1
  rw [Int.toNat_natCast] at h1 h2
  exact ⟨⟨_, h1⟩, h2⟩
set_option maxHeartbeats 3200000 in
set_option maxRecDepth 100000 in
theorem steps_law (k : Int) (A : Option Addr) (n cp : Nat) (l : List S34) (now : Int) (w : World) (hr : Kd.C k34 w A n l ∧ ∀ x ∈ l, 0 ≤ x.f1) (hl : n * 32 ≤ 140737488355328) (hcp : n ≤ cp) :
    Calls Try.prog 5 #[.int .i64 k, .slice A n cp, .int .i64 now] w fun e w' => e = .returned (.bool true) ∧ Below w.heap.size w w' := by
  have hu34 := Try.underlying34
  have HR := Aside0.mk hr.1
  have HP := Aside0.mk hr.2
  obtain rfl : l.length = n := hr.1.1
  have HL := Aside0.mk (And.intro hl hcp)
  clear hr hl hcp
  obtain ⟨res, hres⟩ : ∃ res, B.stepC k (l.map tup) now = res := ⟨_, rfl⟩
  have HRES := Aside0.mk hres
  clear hres
  obtain ⟨m, hm⟩ : ∃ m, (res.1.map unt).length = m := ⟨_, rfl⟩
  have HM := Aside0.mk hm
  clear hm
  go_enter Try.func5, Try.ntmps5
  go_wp2_with fail
  refine (clone_calls A l.length cp l w HR.out HL.out.1).mono ?_
  rintro e w1 ⟨v1, rfl, ho1, hb1⟩
  obtain ⟨A1, c1, rfl, hc1, hC1⟩ := Kd.R_reads ho1
  have HB1 := Aside0.mk hb1
  have HC1 := Aside0.mk (And.intro hc1 hC1)
  clear ho1 hc1 hC1 hb1
  go_wp2_with fail
  refine (step_calls k A1 l.length c1 l now _ HC1.out.2).mono ?_
  rw [HRES.out]
  rintro e w2 ⟨v2, rfl, ho2, hb2⟩
  obtain ⟨A2, c2, rfl, hc2, hC2⟩ := Kd.R_reads ho2
  rw [HM.out] at ho2 hc2 hC2 ⊢
  have HB2 := Aside0.mk hb2
  have HO2 := Aside0.mk ho2
  have HC2 := Aside0.mk (And.intro hc2 hC2)
  clear ho2 hc2 hC2 hb2
  go_wp2_with fail
  refine (rstep_calls k A l.length cp l now _ (Kd.C_below HR.out (below_step HB1.out HB2.out)) HP.out).mono ?_
  rw [HRES.out]
  rintro e w3 ⟨v3, rfl, ho3, hb3⟩
  obtain ⟨A3, c3, rfl, hc3, hC3⟩ := Kd.R_reads ho3
  rw [HM.out] at hc3 hC3 ⊢
  have HB3 := Aside0.mk (below_step HB2.out hb3)
  have HO3 := Aside0.mk (Kd.R_below HO2.out hb3)
  have HC2 := Aside0.mk (And.intro HC2.out.1 (Kd.C_below HC2.out.2 hb3))
  have HC3 := Aside0.mk (And.intro hc3 hC3)
  clear ho3 hc3 hC3 hb3 HO2
  go_wp2_with fail
  refine (equal_calls HC2.out.2 HC2.out.1 HC3.out.2 HC3.out.1).mono ?_
  rintro e w4 ⟨rfl, hb⟩
  have HB4 := Aside0.mk (below_step HB3.out hb)
  have HO4 := Aside0.mk (Kd.R_below HO3.out hb)
  clear hb HO3 HC3 HC2
  go_wp2_with fail
  refine (equal_calls (Kd.C_below HC1.out.2 HB4.out) HC1.out.1 (Kd.C_below HR.out (below_step HB1.out HB4.out)) HL.out.2).mono ?_
  rintro e w5 ⟨rfl, hb⟩
  have HB5 := Aside0.mk (below_step HB4.out hb)
  have HO5 := Aside0.mk (Kd.R_below HO4.out hb)
  clear hb HO4 HB4
  have fin : ∀ W : World, Below w1.heap.size w1 W → Calls Try.prog 22 #[.slice A1 l.length c1, .slice A l.length cp] W fun e w' => e = .returned (.bool true) ∧ Below w.heap.size w w' := fun W hW =>
    (equal_calls (Kd.C_below HC1.out.2 hW) HC1.out.1 (Kd.C_below HR.out (below_step HB1.out hW)) HL.out.2).mono (fun e w' h => ⟨h.1, below_step (below_step HB1.out hW) h.2⟩)
  have FIN := Aside0.mk fin
  clear fin
  obtain ⟨g, hg⟩ : ∃ g, 0 < m → A2 = some ⟨g, 0, none⟩ ∧ w1.heap.size ≤ g ∧ Stor w5 g m := by
    by_cases hm0 : 0 < m
    · obtain ⟨g, cap, he, hbg, _, _, _⟩ := Kd.R_form HO5.out (by rw [HM.out]; exact hm0)
      have ho := HO5.out
      injection he with h1 h2 h3
      subst h1
      exact ⟨g, fun _ => ⟨rfl, hbg, Stor.of_R ho⟩⟩
    · exact ⟨0, fun h => absurd h hm0⟩
  have HG := Aside0.mk hg
  have hm64 : m ≤ 9223372036854775807 := by
    have := (Kd.R_reads' HO5.out).2.2.2.1
    rw [HM.out] at this
    exact this
  clear hg HO5 HP HL HRES
  go_wp2_with fail
  go_loopw [46] (fun i wr => ∃ j : Nat, j ≤ m ∧ i = .int .i64 j ∧ Aside0 (0 < m → Stor wr g m) ∧ Aside0 (Below w1.heap.size w1 wr)) (fun i _ => m - (intOf i).toNat)
  case atStart => exact ⟨0, Nat.zero_le _, rfl, ⟨fun h => (HG.out h).2.2⟩, HB5⟩
  case round =>
    obtain ⟨j, hj, rfl, HS, HW⟩ := hrel
    by_cases hlt : j < m
    · obtain ⟨rfl, hge, _⟩ := HG.out (by omega)
      obtain ⟨⟨u, hu⟩, hf⟩ := HS.out (by omega) j hlt
      have hb1 : (0 ≤ (j : Int)) = True := eq_true (by omega)
      have hb2 : ((j : Int) < (m : Int)) = True := eq_true (by omega)
      go_wp2
      go_roundw
      case rel => exact ⟨j + 1, by omega, by go_num, ⟨fun h => (HS.out h).set j hlt _⟩, ⟨HW.out.setCell (p := ⟨g, j * 3 + 1, none⟩) hge _⟩⟩
      case measure => simp [intOf]; omega
    · go_wp2_with fail
      refine (FIN.out _ HW.out).mono ?_
      rintro e w' ⟨rfl, hb⟩
      go_wp2
      go_ret
      exact ⟨rfl, hb⟩

end Go.Proofs.Ytfadafgnahhmdaa.X
