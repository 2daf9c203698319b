import Derived.Test.YtfadafgnahhmdaaHI
import Derived.Test.YtfadafgnahhmdaaHO
import Derived.Test.YtfadafgnahhmdaaHB
import Derived.Test.YtfadafgnahhmdaaHP
import Derived.Deep.RegionHeld3
import Derived.Deep.DeepCutAuto
set_option linter.unusedVariables false
set_option linter.unusedSimpArgs false
namespace Go.Proofs.Ytfadafgnahhmdaa.X
open Go.RowKit Go.Proofs.YtfadafgnahhmdaaW.PrintWords Go.Proofs.YtfadafgnahhmdaaW.PrintLast Go.Proofs.YtfadafgnahhmdaaW.PrintMore Go.Proofs.Ytfadafgnahhmdaa.E
attribute [local go_sem] max2_int min2_int max_two min_two max_three min_three max_four min_four
set_option linter.unusedVariables false
set_option linter.unusedSimpArgs false

open Go.ChangeShapes Go.WideShapes
/-! ### the steps of a life: inputs and time -/
def kC : Kd (List S34 × Int) where
  sz := 2
  E := []
  K := fun w x cs => ∃ A c, cs = [.slice A x.1.length c, .int .i64 x.2] ∧ x.1.length ≤ c ∧ Kd.C k34 w A x.1.length x.1
  M := fun _ _ _ _ _ => False
  K_len := by rintro w x cs ⟨A, c, rfl, _⟩; rfl
  K_one := by
    rintro w x cs ⟨A, c, rfl, _⟩ u hu
    simp only [List.mem_cons, List.not_mem_nil, or_false] at hu
    rcases hu with rfl | rfl <;> rfl
  K_below := by
    rintro w w1 x cs hb ⟨A, c, rfl, h1, h2⟩
    exact ⟨A, c, rfl, h1, Kd.C_below h2 hb⟩
  K_of_M := fun h => h.elim
  M_mono := fun _ h => h
  M_bound := fun h => h.elim
  M_move := fun _ h => h
  M_lower := fun _ h => h
theorem kC_at {w : World} {A : Option Addr} {n : Nat} {xs : List (List S34 × Int)} (h : Kd.C kC w A n xs) (j : Nat) (hj : j < n) : ∃ ad x B c, A = some ad ∧ xs[j]? = some x ∧ x.1.length ≤ c ∧ Kd.C k34 w B x.1.length x.1 ∧
    w.cell? (ad.add (j * 2)) = some (.slice B x.1.length c) ∧ w.cell? ⟨(ad.add (j * 2)).block, (ad.add (j * 2)).off + 1, none⟩ = some (.int .i64 x.2) := by
  obtain ⟨ad, rfl, hc⟩ := h.2.2 (by omega)
  have hl := h.1
  obtain ⟨x, hx⟩ : ∃ x, xs[j]? = some x := ⟨_, List.getElem?_eq_getElem (by omega)⟩
  obtain ⟨cs, _, ⟨B, c, rfl, h1, h2⟩, hcell⟩ := hc j x hx
  refine ⟨ad, x, B, c, rfl, hx, h1, h2, hcell 0 _ rfl, ?_⟩
  rw [← add_field _ _ 1 (by omega)]
  exact hcell 1 _ rfl
/-- a life's steps as the row hands them -/
theorem open_lives {H : Type} {enc : TypeId × Value → H} {W : World} {a : Option Addr} {len cap : Nat} {d : DataW H} {ps : List MemPlace} {ts : List TypeId} {ds : List (DataW H)} {j : Nat}
    (hsz : (DataW.weightsEach Try.prog ts ds).all (· ≤ reachBytes) = true) (ht : ts[j]? = some 55) (hd : ds[j]? = some d)
    (h : DataW.Trod enc Try.prog W 0 (fun _ => true) true 55 (.slice a len cap) d ps) : ∃ xs : List (List S34 × Int), (Kd.C kC W a len xs ∧ ∀ x ∈ xs, ∀ v ∈ x.1, 0 ≤ v.f1) ∧ len ≤ cap := by
  obtain ⟨fuel, hf⟩ := h
  rcases Go.Deep.open_slice_pairs Try.underlying55 Try.underlying57 (by kernel_rfl) rfl rfl (by kernel_rfl) (by kernel_rfl) hf with ⟨hcs, _⟩ | ⟨x, l, c, m, n, V0, V1, D0, D1, P0, P1, hcs, _, hl, hm, hmm, hx, hcell⟩
  · simp [Value.cells] at hcs
    obtain ⟨rfl, rfl, rfl⟩ := hcs
    exact ⟨[], ⟨Kd.C_nil _ _, by simp⟩, Nat.le_refl _⟩
  · simp [Value.cells] at hcs
    obtain ⟨rfl, rfl, rfl⟩ := hcs
    simp at hmm
    subst hmm
    have hm2 : m ≤ maxLen := hm
    unfold maxLen at hm2
    obtain ⟨f, hf⟩ := Go.Deep.choose_lt (α := (List S34 × Int)) (n := m) (p := fun i y => ∃ B c, V0 i = .slice B y.1.length c ∧ y.1.length ≤ c ∧ Kd.C k34 W B y.1.length y.1 ∧ (∀ v ∈ y.1, 0 ≤ v.f1) ∧ V1 i = .int .i64 y.2) (fun i hi => by
      obtain ⟨_, _, h0, h1⟩ := hcell i hi
      obtain ⟨q, e2, _, _⟩ := DataW.trod_int Try.underlying3 h1
      have h0' : DataW.trod enc Try.prog W 0 (fun _ => true) true n 30 [V0 i] = some (D0 i, P0 i) := h0
      obtain ⟨B, ln, c0, hv⟩ : ∃ B ln c0, V0 i = .slice B ln c0 := by
        rcases Go.Deep.open_slice Try.underlying30 h0' with ⟨hcs, _⟩ | ⟨ad, l0, c0, _, _, _, _, hcs, _⟩
        · injection hcs with hcs
          exact ⟨_, _, _, hcs⟩
        · injection hcs with hcs
          exact ⟨_, _, _, hcs⟩
      rw [hv] at h0'
      obtain ⟨is, hC, hp, hc⟩ := open_valuesF h0' (fun _ => rfl)
      obtain rfl : is.length = ln := hC.1
      exact ⟨(is, q), B, c0, hv, hc, hC, hp, by simpa using e2⟩)
    refine ⟨(List.range len).map f, ⟨⟨by simp, by omega, fun _ => ⟨x, rfl, fun i p hp => ?_⟩⟩, ?_⟩, hl⟩
    · obtain ⟨hi, he⟩ := List.getElem?_eq_some_iff.1 hp
      simp at hi he
      subst he
      obtain ⟨B, c0, e1, hle, hC, _, e2⟩ := hf i (by omega)
      obtain ⟨k0, k1, _, _⟩ := hcell i (by omega)
      refine ⟨[.slice B (f i).1.length c0, .int .i64 (f i).2], rfl, ⟨B, c0, rfl, hle, hC⟩, fun q u hu => ?_⟩
      rw [show kC.sz = 2 from rfl]
      match q with
      | 0 => simp at hu; subst hu; rw [← e1]; exact k0
      | 1 => simp at hu; subst hu; rw [← e2]; exact k1
      | q + 2 => simp at hu
    · intro y hy
      obtain ⟨i, hi, rfl⟩ := List.mem_map.1 hy
      obtain ⟨_, _, _, _, _, hp, _⟩ := hf i (by have := List.mem_range.1 hi; omega)
      exact hp

end Go.Proofs.Ytfadafgnahhmdaa.X
namespace Go.Proofs.Ytfadafgnahhmdaa.X
open Go.RowKit Go.Proofs.YtfadafgnahhmdaaW.PrintWords Go.Proofs.YtfadafgnahhmdaaW.PrintLast Go.Proofs.YtfadafgnahhmdaaW.PrintMore Go.Proofs.Ytfadafgnahhmdaa.E
attribute [local go_sem] max2_int min2_int max_two min_two max_three min_three max_four min_four
set_option linter.unusedVariables false
set_option linter.unusedSimpArgs false

/-! ### the law's own 'ins' and 'put' -/
def insN (k : Int) : Nat := ((B.varsU k).filter fun x => x.2.1 == 1).length
theorem ins_step (l : List (ByteArray × Int × Int × Bool)) (j : Nat) (x : ByteArray × Int × Int × Bool) (hx : l[j]? = some x) :
    ((l.take (j + 1)).filter fun x => x.2.1 == 1).length = ((l.take j).filter fun x => x.2.1 == 1).length + (if x.2.1 == 1 then 1 else 0) := by
  obtain ⟨h1, h2⟩ := List.getElem?_eq_some_iff.1 hx
  rw [List.take_succ_eq_append_getElem h1, List.filter_append, List.length_append, h2]
  cases hb : (x.2.1 == 1) <;> simp [List.filter, hb]
set_option maxHeartbeats 3200000 in
set_option maxRecDepth 100000 in
theorem ins_calls (k : Int) (w : World) : Calls Try.prog 33 #[.int .i64 k] w fun e w' => e = .returned (.int .i64 (insN k)) ∧ Below w.heap.size w w' := by
  have hu64 := Try.underlying64
  have hu66 := Try.underlying66
  obtain ⟨n, hn⟩ : ∃ n, n = (B.varsU k).length := ⟨_, rfl⟩
  have hn10 : n ≤ 10 := by have := varsU_len k; omega
  have HN := Aside0.mk hn
  clear hn
  go_enter Try.func33, Try.ntmps33
  go_wp2_with (go_at_call 21; refine (rvars_calls _ _).mono ?_; rintro e w1 ⟨A, c, rfl, hle, hC, hb⟩; rw [← HN.out] at hle hC ⊢; have HC := Aside0.mk hC; have HB := Aside0.mk hb; clear hC hb hle)
  go_loopw [3, 9] (fun v i wr => ∃ (j q : Nat), j ≤ n ∧ i = .int .i64 j ∧ v = .int .i64 q ∧ q ≤ j ∧ Aside0 (q = (((B.varsU k).take j).filter fun x => x.2.1 == 1).length) ∧ Aside0 (Below w1.heap.size w1 wr)) (fun _ i _ => n - (intOf i).toNat)
  case atStart => exact ⟨0, 0, Nat.zero_le _, rfl, rfl, Nat.le_refl _, ⟨rfl⟩, ⟨Below.refl _ _⟩⟩
  case round =>
    obtain ⟨j, q, hj, rfl, rfl, hqj, HQ, HW⟩ := hrel
    by_cases hlt : j < n
    · obtain ⟨ad, x, sv, rfl, hx, hK, hsv, hc0, hci⟩ := kU_at (Kd.C_below HC.out HW.out) j hlt
      have HST := Aside0.mk (ins_step (B.varsU k) j x hx)
      obtain ⟨nm, cl, kd, ini⟩ := x
      simp only at hc0 HST
      clear hx hsv
      have x1 := hci 1 _ (by omega) rfl
      have x2 := hci 2 _ (by omega) rfl
      have x3 := hci 3 _ (by omega) rfl
      have x4 := hci 4 _ (by omega) rfl
      have x5 := hci 5 _ (by omega) rfl
      have x6 := hci 6 _ (by omega) rfl
      have x7 := hci 7 _ (by omega) rfl
      have x8 := hci 8 _ (by omega) rfl
      have x9 := hci 9 _ (by omega) rfl
      have x10 := hci 10 _ (by omega) rfl
      have x11 := hci 11 _ (by omega) rfl
      have x12 := hci 12 _ (by omega) rfl
      have x13 := hci 13 _ (by omega) rfl
      have x14 := hci 14 _ (by omega) rfl
      have x15 := hci 15 _ (by omega) rfl
      obtain ⟨sA, sn, sc, rfl⟩ : ∃ A n c, sv = .slice A n c := by
        obtain ⟨sv2, hse, hsv2⟩ := hK
        have hsv3 : sv = sv2 := by simpa [ucells] using hse
        subst hsv3
        rcases hsv2 with ⟨_, h⟩ | ⟨_, A, c, h, _⟩ <;> exact ⟨_, _, _, h⟩
      clear hci hK
      have hb1 : (0 ≤ (j : Int)) = True := eq_true (by omega)
      have hb2 : ((j : Int) < (n : Int)) = True := eq_true (by omega)
      by_cases hcl : cl = 1
      · subst hcl
        go_wp2
        go_roundw
        case rel => exact ⟨j + 1, q + 1, by omega, by go_num, by go_num, by omega, ⟨by rw [HST.out, ← HQ.out]; rfl⟩, ⟨below_step HW.out (below_alloc (Below.refl _ _) _)⟩⟩
        case measure => simp [intOf]; omega
      · have hf : (cl == 1) = false := beq_eq_false_iff_ne.mpr hcl
        go_wp2
        go_roundw
        case rel => exact ⟨j + 1, q, by omega, by go_num, rfl, by omega, ⟨by rw [HST.out, ← HQ.out, hf]; rfl⟩, ⟨below_step HW.out (below_alloc (Below.refl _ _) _)⟩⟩
        case measure => simp [intOf]; omega
    · obtain rfl : j = n := by omega
      have hq : q = insN k := by
        unfold insN
        rw [HQ.out, List.take_of_length_le (by rw [← HN.out]; exact Nat.le_refl _)]
      go_wp2
      go_ret
      exact ⟨by rw [← hq]; rfl, below_step HB.out HW.out⟩

end Go.Proofs.Ytfadafgnahhmdaa.X
namespace Go.Proofs.Ytfadafgnahhmdaa.X
open Go.RowKit Go.Proofs.YtfadafgnahhmdaaW.PrintWords Go.Proofs.YtfadafgnahhmdaaW.PrintLast Go.Proofs.YtfadafgnahhmdaaW.PrintMore Go.Proofs.Ytfadafgnahhmdaa.E
attribute [local go_sem] max2_int min2_int max_two min_two max_three min_three max_four min_four
set_option linter.unusedVariables false
set_option linter.unusedSimpArgs false

/-! what 'put' makes of the cells: the first j inputs laid in, as far as they fit -/
def putJ (cs is : List S34) (nn : Int) (j : Nat) : List S34 := (List.range cs.length).map fun i => if i < j ∧ i < is.length ∧ (i : Int) < nn ∧ (is.getD i z34).f0 = (cs.getD i z34).f0 then is.getD i z34 else cs.getD i z34
def putL (cs is : List S34) (nn : Int) : List S34 := putJ cs is nn is.length
theorem putJ_len (cs is : List S34) (nn : Int) (j : Nat) : (putJ cs is nn j).length = cs.length := by simp [putJ]
theorem putJ_at (cs is : List S34) (nn : Int) (j i : Nat) (h : i < cs.length) : (putJ cs is nn j)[i]? = some (if i < j ∧ i < is.length ∧ (i : Int) < nn ∧ (is.getD i z34).f0 = (cs.getD i z34).f0 then is.getD i z34 else cs.getD i z34) := by
  unfold putJ
  rw [List.getElem?_map, List.getElem?_range h]
  rfl
theorem putJ_zero (cs is : List S34) (nn : Int) : putJ cs is nn 0 = cs := by
  apply List.ext_getElem?
  intro i
  by_cases h : i < cs.length
  · rw [putJ_at _ _ _ _ _ h, if_neg (by omega), List.getElem?_eq_getElem h, List.getD_eq_getElem?_getD, List.getElem?_eq_getElem h]
    rfl
  · rw [List.getElem?_eq_none (by rw [putJ_len]; omega), List.getElem?_eq_none (by omega)]
theorem putJ_same (cs is : List S34) (nn : Int) (j : Nat) (h : j < cs.length) : (putJ cs is nn j).getD j z34 = cs.getD j z34 := by
  rw [List.getD_eq_getElem?_getD, putJ_at _ _ _ _ _ h, if_neg (by omega)]
  rfl
theorem putJ_yes (cs is : List S34) (nn : Int) (j : Nat) (h : j < cs.length) (h1 : j < is.length) (h2 : (j : Int) < nn) (h3 : (is.getD j z34).f0 = (cs.getD j z34).f0) : putJ cs is nn (j + 1) = (putJ cs is nn j).set j (is.getD j z34) := by
  apply List.ext_getElem?
  intro i
  by_cases h0 : i < cs.length
  · rw [putJ_at _ _ _ _ _ h0, List.getElem?_set]
    by_cases he : j = i
    · subst he
      rw [if_pos ⟨by omega, h1, h2, h3⟩, if_pos rfl, if_pos (by rw [putJ_len]; exact h)]
    · rw [if_neg he, putJ_at _ _ _ _ _ h0]
      congr 1
      have : (i < j + 1) = (i < j) := by apply propext; omega
      simp only [this]
  · rw [List.getElem?_eq_none (by rw [putJ_len]; omega), List.getElem?_eq_none (by rw [List.length_set, putJ_len]; omega)]
theorem putJ_no (cs is : List S34) (nn : Int) (j : Nat) (h : ¬ (j < cs.length ∧ j < is.length ∧ (j : Int) < nn ∧ (is.getD j z34).f0 = (cs.getD j z34).f0)) : putJ cs is nn (j + 1) = putJ cs is nn j := by
  apply List.ext_getElem?
  intro i
  by_cases h0 : i < cs.length
  · rw [putJ_at _ _ _ _ _ h0, putJ_at _ _ _ _ _ h0]
    by_cases he : i = j
    · subst he
      rw [if_neg (fun hh => h ⟨h0, hh.2⟩), if_neg (by omega)]
    · have : (i < j + 1) = (i < j) := by apply propext; omega
      simp only [this]
  · rw [List.getElem?_eq_none (by rw [putJ_len]; omega), List.getElem?_eq_none (by rw [putJ_len]; omega)]
set_option maxHeartbeats 3200000 in
set_option maxRecDepth 100000 in
theorem put32_calls (A : Option Addr) (m cp : Nat) (cs : List S34) (B : Option Addr) (q cq : Nat) (is : List S34) (nn : Int) (w : World) (hA : Kd.C k34 w A m cs) (hB : Kd.C k34 w B q is) (hm : m * 32 ≤ 140737488355328) :
    Calls Try.prog 32 #[.slice A m cp, .slice B q cq, .int .i64 nn] w fun e w' => ∃ v : Value, e = .returned v ∧ Kd.R k34 34 w' w.heap.size (fun _ => True) v (putL cs is nn) ∧ Below w.heap.size w w' := by
  have hu34 := Try.underlying34
  obtain rfl : cs.length = m := hA.1
  obtain rfl : is.length = q := hB.1
  have hq64 : is.length ≤ 9223372036854775807 := hB.2.1
  have HB := Aside0.mk hB
  have HA := Aside0.mk hA
  have HM := Aside0.mk hm
  clear hA hB hm
  go_enter Try.func32, Try.ntmps32
  go_wp2_with fail
  refine (clone_calls A cs.length cp cs w HA.out HM.out).mono ?_
  rintro e w1 ⟨v1, rfl, ho1, hb1⟩
  obtain ⟨A1, c1, rfl⟩ := Kd.R_slice ho1
  have HO1 := Aside0.mk ho1
  have HB1 := Aside0.mk hb1
  clear ho1 hb1
  obtain ⟨g, hg⟩ : ∃ g, 0 < cs.length → A1 = some ⟨g, 0, none⟩ := by
    by_cases h0 : 0 < cs.length
    · obtain ⟨g, cap, he, _⟩ := Kd.R_form HO1.out h0
      injection he with h1 h2 h3
      exact ⟨g, fun _ => h1⟩
    · exact ⟨0, fun h => absurd h h0⟩
  have HG := Aside0.mk hg
  clear hg
  go_wp2_with fail
  go_loopw [14] (fun i wr => ∃ j : Nat, j ≤ is.length ∧ i = .int .i64 j ∧ Aside0 (Kd.R k34 34 wr w.heap.size (fun _ => True) (.slice A1 cs.length c1) (putJ cs is nn j)) ∧ Aside0 (Below w.heap.size w wr)) (fun i _ => is.length - (intOf i).toNat)
  case atStart => exact ⟨0, Nat.zero_le _, rfl, ⟨by rw [putJ_zero]; exact HO1.out⟩, HB1⟩
  case round =>
    obtain ⟨j, hj, rfl, HO, HW⟩ := hrel
    clear HO1 HB1
    by_cases hlt : j < is.length
    · obtain ⟨adI, e0, y0, y1, y2⟩ := at_T34 (Kd.C_below HB.out HW.out) (j : Int) (by omega) (by omega)
      subst e0
      have hrd : rd_T34 is (j : Int) = is.getD j z34 := by unfold rd_T34; rw [Int.toNat_natCast]
      rw [hrd, Int.toNat_natCast] at y0 y1 y2
      obtain ⟨c, hc⟩ : ∃ c, is.getD j z34 = c := ⟨_, rfl⟩
      rw [hc] at y0 y1 y2
      have HCI := Aside0.mk hc
      clear hrd hc
      obtain ⟨kc, bc, tc⟩ := c
      simp only at y0 y1 y2
      have hb1 : (0 ≤ (j : Int)) = True := eq_true (by omega)
      have hb2 : ((j : Int) < (is.length : Int)) = True := eq_true (by omega)
      have HO2 := Aside0.mk (Kd.R_alloc HO.out (.cells #[.int .u8 kc, .int .u64 bc, .string tc] 34))
      have HW2 := Aside0.mk (below_step HW.out (below_alloc (Below.refl wr.heap.size wr) (.cells #[.int .u8 kc, .int .u64 bc, .string tc] 34)))
      go_wp2_with fail
      generalize hW : wr.alloc _ = W at *
      have b0 : W.cell? ⟨wr.heap.size, 0, none⟩ = some (.int .u8 kc) := by rw [← hW]; simp
      have b1 : W.cell? ⟨wr.heap.size, 1, none⟩ = some (.int .u64 bc) := by rw [← hW]; simp
      have b2 : W.cell? ⟨wr.heap.size, 2, none⟩ = some (.string tc) := by rw [← hW]; simp
      have HWS : Aside0 (wr.heap.size < W.heap.size) := ⟨by rw [← hW]; simp⟩
      clear hW y0 y1 y2 HO HW
      by_cases h1 : (j : Int) < nn
      · have hT1 : ((j : Int) < nn) = True := eq_true h1
        by_cases h2 : j < cs.length
        · have hT2 : ((j : Int) < (cs.length : Int)) = True := eq_true (by omega)
          obtain rfl := HG.out (by omega)
          obtain ⟨ce, _, hMe, hce, hfe⟩ := Kd.R_elem HO2.out z34 (j : Int) (by omega) (by omega)
          rw [Int.toNat_natCast, putJ_same cs is nn j h2] at hMe
          rw [Int.toNat_natCast] at hce hfe
          obtain ⟨ke, hke⟩ : ∃ ke, (cs.getD j z34).f0 = ke := ⟨_, rfl⟩
          have hMe2 := k34_openM hMe
          subst hMe2
          have u0 : W.cell? ⟨g, j * 3, none⟩ = some (.int .u8 ke) := by rw [← hke]; exact hce 0 _ rfl
          have HCE := Aside0.mk hce
          have HFE := Aside0.mk hfe
          have HKE := Aside0.mk hke
          clear hce hfe hMe hke
          by_cases h3 : kc = ke
          · subst h3
            have hT3 : (kc == kc) = true := by simp
            go_quiet (fail)
            generalize hD : W.drewN _ = W2
            have d0 : W2.cell? ⟨wr.heap.size, 0, none⟩ = some (.int .u8 kc) := by rw [← hD]; exact b0
            have d1 : W2.cell? ⟨wr.heap.size, 1, none⟩ = some (.int .u64 bc) := by rw [← hD]; exact b1
            have d2 : W2.cell? ⟨wr.heap.size, 2, none⟩ = some (.string tc) := by rw [← hD]; exact b2
            have hcc : ∀ (o : Nat) u, ([.int .u8 (cs.getD j z34).f0, .int .u64 (cs.getD j z34).f1, .string (cs.getD j z34).f2] : List Value)[o]? = some u → W2.cell? ⟨g, j * 3 + o, none⟩ = some u := by rw [← hD]; exact HCE.out
            have p0 := hcc 0 _ rfl
            have p1 := hcc 1 _ rfl
            have p2 := hcc 2 _ rfl
            have f0 : W2.frozen? ⟨g, j * 3, none⟩ = false := by rw [← hD]; exact HFE.out 0
            have f1 : W2.frozen? ⟨g, j * 3 + 1, none⟩ = false := by rw [← hD]; exact HFE.out 1
            have f2 : W2.frozen? ⟨g, j * 3 + 2, none⟩ = false := by rw [← hD]; exact HFE.out 2
            have HO3 := Aside0.mk (show Kd.R k34 34 W2 w.heap.size (fun _ => True) (.slice (some ⟨g, 0, none⟩) cs.length c1) (putJ cs is nn j) from by rw [← hD]; exact Kd.R_drewN HO2.out _)
            have HW3 := Aside0.mk (show Below w.heap.size w W2 from by rw [← hD]; exact pw_below_drewN HW2.out _)
            have HCC := Aside0.mk hcc
            rw [Nat.add_zero] at p0
            clear hD b0 b1 b2 u0 HCE HFE HO2 HW2 hcc
            have HSEG := Aside0.mk (Kd.R_seg HO3.out (j : Int) (by omega) (by omega) (c := [.int .u8 (cs.getD j z34).f0, .int .u64 (cs.getD j z34).f1, .string (cs.getD j z34).f2]) (seg := [.int .u8 kc, .int .u64 bc, .string tc]) (j := 0) rfl (by rw [Int.toNat_natCast]; exact HCC.out) (show 0 + 3 ≤ 3 from Nat.le_refl _) (x' := ⟨kc, bc, tc⟩) (okp := fun _ => False) (k34_mkM _ _ _ ⟨kc, bc, tc⟩) (fun _ h => h.elim))
            have HGE := Aside0.mk (Kd.R_base HO3.out g rfl)
            generalize (cs.getD j z34).f1 = r1 at *
            generalize (cs.getD j z34).f2 = r2 at *
            go_wp2
            go_roundw
            case rel => exact ⟨j + 1, by omega, by go_num, ⟨by
              rw [putJ_yes cs is nn j h2 hlt h1 (by rw [HCI.out, HKE.out]), HCI.out]
              have h := HSEG.out.1
              rw [Int.toNat_natCast] at h
              exact h⟩, ⟨((HW3.out.setCell (p := ⟨g, j * 3, none⟩) HGE.out _).setCell (p := ⟨g, j * 3 + 1, none⟩) HGE.out _).setCell (p := ⟨g, j * 3 + 2, none⟩) HGE.out _⟩⟩
            case measure => simp [intOf]; omega
          · have hT3 : (kc == ke) = false := beq_eq_false_iff_ne.mpr h3
            go_quiet (fail)
            go_wp2
            go_roundw
            case rel => exact ⟨j + 1, by omega, by go_num, ⟨by rw [putJ_no cs is nn j (fun hh => h3 (by rw [HCI.out, HKE.out] at hh; exact hh.2.2.2))]; exact Kd.R_drewN HO2.out _⟩, ⟨pw_below_drewN HW2.out _⟩⟩
            case measure => simp [intOf]; omega
        · have hT2 : ((j : Int) < (cs.length : Int)) = False := eq_false (by omega)
          go_quiet (fail)
          go_wp2
          go_roundw
          case rel => exact ⟨j + 1, by omega, by go_num, ⟨by rw [putJ_no cs is nn j (fun hh => h2 hh.1)]; exact Kd.R_drewN HO2.out _⟩, ⟨pw_below_drewN HW2.out _⟩⟩
          case measure => simp [intOf]; omega
      · have hT1 : ((j : Int) < nn) = False := eq_false h1
        go_quiet (fail)
        go_wp2
        go_roundw
        case rel => exact ⟨j + 1, by omega, by go_num, ⟨by rw [putJ_no cs is nn j (fun hh => h1 hh.2.2.1)]; exact Kd.R_drewN HO2.out _⟩, ⟨pw_below_drewN HW2.out _⟩⟩
        case measure => simp [intOf]; omega
    · obtain rfl : j = is.length := by omega
      go_wp2
      go_ret
      exact ⟨_, rfl, HO.out, HW.out⟩

end Go.Proofs.Ytfadafgnahhmdaa.X
namespace Go.Proofs.Ytfadafgnahhmdaa.X
open Go.RowKit Go.Proofs.YtfadafgnahhmdaaW.PrintWords Go.Proofs.YtfadafgnahhmdaaW.PrintLast Go.Proofs.YtfadafgnahhmdaaW.PrintMore Go.Proofs.Ytfadafgnahhmdaa.E
attribute [local go_sem] max2_int min2_int max_two min_two max_three min_three max_four min_four
set_option linter.unusedVariables false
set_option linter.unusedSimpArgs false

/-! ### plain facts of a life -/
theorem u64_ge (n : Int) : 0 ≤ IntKind.u64.wrap n := by rw [u64_w]; exact Int.emod_nonneg _ (by decide)
theorem stepC_nonneg (k : Int) (cs : List (Int × Int × ByteArray)) (now : Int) : ∀ x ∈ (B.stepC k cs now).1.map unt, 0 ≤ x.f1 := by
  intro x hx
  unfold B.stepC at hx
  split at hx
  · simp at hx
  · split at hx
    · simp only [List.mem_map, B.outs] at hx
      obtain ⟨y, ⟨z, _, rfl⟩, rfl⟩ := hx
      exact u64_ge _
    · simp at hx
theorem stepC_len (k : Int) (cs : List (Int × Int × ByteArray)) (now : Int) (h : (B.stepC k cs now).2 = 0) : ((B.stepC k cs now).1.map unt).length = (B.varsU k).length := by
  unfold B.stepC at h ⊢
  split
  · rename_i h1
    rw [if_pos h1] at h
    cases h
  · rename_i h1
    rw [if_neg h1] at h
    split
    · simp [B.outs]
    · rename_i h2
      rw [if_neg h2] at h
      cases h
theorem putL_nonneg (cs is : List S34) (nn : Int) (hc : ∀ x ∈ cs, 0 ≤ x.f1) (hi : ∀ x ∈ is, 0 ≤ x.f1) : ∀ x ∈ putL cs is nn, 0 ≤ x.f1 := by
  intro x hx
  unfold putL putJ at hx
  obtain ⟨i, hi2, rfl⟩ := List.mem_map.1 hx
  have hlt := List.mem_range.1 hi2
  split
  · rename_i h
    rw [List.getD_eq_getElem?_getD, List.getElem?_eq_getElem h.2.1]
    exact hi _ (List.getElem_mem _)
  · rw [List.getD_eq_getElem?_getD, List.getElem?_eq_getElem hlt]
    exact hc _ (List.getElem_mem _)
theorem startL_nonneg (k : Int) : ∀ x ∈ startL k, 0 ≤ x.f1 := by
  intro x hx
  unfold startL at hx
  obtain ⟨y, _, rfl⟩ := List.mem_map.1 hx
  simp only
  split <;> omega
theorem varsU_pos (k : Int) (h1 : 1 ≤ k) (h2 : k ≤ 10) : 0 < (B.varsU k).length := by
  have h : k = 1 ∨ k = 2 ∨ k = 3 ∨ k = 4 ∨ k = 5 ∨ k = 6 ∨ k = 7 ∨ k = 8 ∨ k = 9 ∨ k = 10 := by omega
  rcases h with rfl | rfl | rfl | rfl | rfl | rfl | rfl | rfl | rfl | rfl <;> decide
set_option maxHeartbeats 8000000 in
set_option maxRecDepth 100000 in
theorem lives_calls (k0 : Int) (A : Option Addr) (n cp : Nat) (cl : List (List S34 × Int)) (w : World) (hr : Kd.C kC w A n cl ∧ ∀ x ∈ cl, ∀ v ∈ x.1, 0 ≤ v.f1) :
    Calls Try.prog 12 #[.int .i64 k0, .slice A n cp] w fun e w' => e = .returned (.bool true) ∧ Below w.heap.size w w' := by
  have hu34 := Try.underlying34
  have hu57 := Try.underlying57
  have HR := Aside0.mk hr.1
  have HP := Aside0.mk hr.2
  have hn64 : n ≤ 9223372036854775807 := hr.1.2.1
  obtain rfl : cl.length = n := hr.1.1
  clear hr
  go_enter Try.func12, Try.ntmps12
  go_upto_region 2 with (fail)
  obtain ⟨hm1, hm2⟩ := mod_bd k0 10 (by omega) (by omega)
  have hk2 : wrap64 (1 + wrap64 ((IntKind.u64.wrap k0).tmod 10)) = 1 + wrap64 ((IntKind.u64.wrap k0).tmod 10) := by
    have h2 : ∀ x : Int, -9223372036854775808 ≤ x → x ≤ 9223372036854775807 → wrap64 x = x := fun x _ _ => by unfold wrap64; omega
    exact h2 _ (by omega) (by omega)
  rw [hk2]
  clear hk2
  generalize wrap64 ((IntKind.u64.wrap k0).tmod 10) = q10 at hm1 hm2 ⊢
  obtain ⟨k, hk⟩ : ∃ k, 1 + q10 = k := ⟨_, rfl⟩
  rw [hk]
  have hk1 : 1 ≤ k ∧ k ≤ 10 := by omega
  clear hk hm1 hm2
  obtain ⟨m, hm⟩ : ∃ m, (B.varsU k).length = m := ⟨_, rfl⟩
  have hm0 : 0 < m := by rw [← hm]; exact varsU_pos k hk1.1 hk1.2
  have hm10 : m ≤ 10 := by rw [← hm]; exact varsU_len k
  have HM := Aside0.mk hm
  have hsl : (startL k).length = m := by rw [startL_len]; exact hm
  have HSL := Aside0.mk hsl
  clear hm hsl hk1
  go_wp2_with fail
  refine (start_calls k _).mono ?_
  rintro e w1 ⟨v1, rfl, ho1, hb1⟩
  obtain ⟨A0, cA0, rfl, hcA0, hCA0⟩ := Kd.R_reads ho1
  rw [HSL.out] at hcA0 hCA0 ⊢
  have HB1 := Aside0.mk hb1
  have HA0 := Aside0.mk hCA0
  clear ho1 hCA0 hb1
  go_wp2_with fail
  refine (rstart_calls k _).mono ?_
  rintro e w2 ⟨v2, rfl, ho2, hb2⟩
  obtain ⟨B0, cB0, rfl, hcB0, hCB0⟩ := Kd.R_reads ho2
  rw [HSL.out] at hcB0 hCB0 ⊢
  have HB2 := Aside0.mk (below_step HB1.out hb2)
  have HA0 := Aside0.mk (Kd.C_below HA0.out hb2)
  have HB0 := Aside0.mk hCB0
  clear ho2 hCB0 hb2 HB1
  go_wp2_with fail
  go_loopw [6, 7, 8, 26] (fun s6 s7 s8 i wr => ∃ (j : Nat) (A1 : Option Addr) (cA : Nat) (B1 : Option Addr) (cB : Nat) (la : List S34) (nw : Int), j ≤ cl.length ∧ i = .int .i64 j ∧ s6 = .slice A1 m cA ∧ s7 = .slice B1 m cB ∧ s8 = .int .i64 nw ∧ m ≤ cA ∧ m ≤ cB ∧ Aside0 (la.length = m ∧ ∀ x ∈ la, 0 ≤ x.f1) ∧ Aside0 (Kd.C k34 wr A1 m la) ∧ Aside0 (Kd.C k34 wr B1 m la) ∧ Aside0 (0 ≤ nw ∧ nw ≤ 4611686018427387904) ∧ Aside0 (Below w2.heap.size w2 wr)) (fun _ _ _ i _ => cl.length - (intOf i).toNat)
  case atStart => exact ⟨0, _, _, _, _, startL k, 0, Nat.zero_le _, rfl, rfl, rfl, rfl, hcA0, hcB0, ⟨HSL.out, startL_nonneg k⟩, HA0, HB0, ⟨by omega⟩, ⟨Below.refl _ _⟩⟩
  case round =>
    obtain ⟨j, A1, cA, B1, cB, la, nw, hj, rfl, rfl, rfl, rfl, hcA, hcB, HLA, HA, HBB, HN, HW⟩ := hrel
    clear HA0 HB0 hcA0 hcB0
    by_cases hlt : j < cl.length
    · obtain ⟨ad, x, IB, cI, rfl, hx, hcI, hCI, hx0, hx1⟩ := kC_at (Kd.C_below HR.out (below_step HB2.out HW.out)) j hlt
      have HPX := Aside0.mk (HP.out x (List.mem_of_getElem? hx))
      obtain ⟨is, ps⟩ := x
      simp only at hx0 hx1 hcI hCI HPX
      have HI := Aside0.mk hCI
      clear hx hCI
      have hb1 : (0 ≤ (j : Int)) = True := eq_true (by omega)
      have hb2 : ((j : Int) < (cl.length : Int)) = True := eq_true (by omega)
      go_upto_region 8 with (fail)
      obtain ⟨hq1, hq2⟩ := mod_bd ps 1099511627776 (by omega) (by omega)
      have hn2 : wrap64 (nw + wrap64 ((IntKind.u64.wrap ps).tmod 1099511627776)) = nw + wrap64 ((IntKind.u64.wrap ps).tmod 1099511627776) := by
        have := HN.out
        have h2 : ∀ x : Int, -9223372036854775808 ≤ x → x ≤ 9223372036854775807 → wrap64 x = x := fun x _ _ => by unfold wrap64; omega
        exact h2 _ (by omega) (by omega)
      rw [hn2]
      clear hn2
      generalize wrap64 ((IntKind.u64.wrap ps).tmod 1099511627776) = pq at hq1 hq2 ⊢
      obtain ⟨n2, hn2⟩ : ∃ n2, n2 = nw + pq := ⟨_, rfl⟩
      rw [← hn2]
      have HN2 : Aside0 (0 ≤ n2) := ⟨by have := HN.out; omega⟩
      clear hn2 hq1 hq2
      generalize hW : wr.alloc _ = W
      have bW : Below wr.heap.size wr W := by rw [← hW]; exact below_alloc (Below.refl _ _) _
      have hbx : W.cell? ⟨wr.heap.size, 0, none⟩ = some (.slice IB is.length cI) := by rw [← hW]; simp
      clear hW hx0 hx1
      have HA := Aside0.mk (Kd.C_below HA.out bW)
      have HBB := Aside0.mk (Kd.C_below HBB.out bW)
      have HI := Aside0.mk (Kd.C_below HI.out bW)
      have HW := Aside0.mk (below_step HW.out bW)
      clear bW hb1 hb2
      generalize wr.heap.size = bt at hbx ⊢
      have HBX := Aside0.mk hbx
      have F := Aside0.mk (show ∀ w', Below W.heap.size W w' → w'.cell? ⟨bt, 0, none⟩ = some (.slice IB is.length cI) from fun w' hb => (hb.cell (World.block_lt_of_cell? W _ HBX.out)).trans HBX.out)
      clear hbx
      by_cases hov : 4611686018427387904 < n2
      · have hovT : (4611686018427387904 < n2) = True := eq_true hov
        go_wp2
        all_goals (go_ret; exact ⟨rfl, below_step HB2.out HW.out⟩)
      · have hovF : (4611686018427387904 < n2) = False := eq_false hov
        obtain ⟨pl, hpl⟩ : ∃ pl, putL la is (insN k) = pl := ⟨_, rfl⟩
        have HPL := Aside0.mk hpl
        have HPP := Aside0.mk (show ∀ x ∈ pl, 0 ≤ x.f1 from by rw [← hpl]; exact putL_nonneg _ _ _ HLA.out.2 HPX.out)
        clear hpl
        obtain ⟨res, hres⟩ : ∃ res, B.stepC k (pl.map tup) n2 = res := ⟨_, rfl⟩
        have HRS := Aside0.mk hres
        have HRN := Aside0.mk (show ∀ x ∈ res.1.map unt, 0 ≤ x.f1 from by rw [← hres]; exact stepC_nonneg _ _ _)
        have HRL := Aside0.mk (show res.2 = 0 → (res.1.map unt).length = m from by rw [← hres]; exact fun h => (stepC_len _ _ _ h).trans HM.out)
        clear hres
        obtain ⟨rl, hrl⟩ : ∃ rl, res.1.map unt = rl := ⟨_, rfl⟩
        rw [hrl] at HRN HRL
        have HRLE := Aside0.mk hrl
        clear hrl
        go_upto_region 10 with (fail)
        first | go_region_held3 (fun w' => Below W.heap.size W w' ∧ w'.cell? ⟨bt, 0, none⟩ = some (.slice IB is.length cI)) (first | exact ⟨below_drew (Below.refl _ _), F.out _ (below_drew (Below.refl _ _))⟩ | exact ⟨by assumption, F.out _ (by assumption)⟩) ((first | (go_at_call 33; refine (ins_calls k _).mono ?_; rintro e wb ⟨rfl, hb⟩; have hk := below_step (And.left (by assumption)) hb; clear hb) | (go_at_call 32; refine (put32_calls A1 m cA la IB is.length cI is (insN k) _ (Kd.C_below HA.out (And.left (by assumption))) (Kd.C_below HI.out (And.left (by assumption))) (by omega)).mono ?_; rw [HPL.out]; rintro e wb ⟨v5, rfl, ho, hb⟩; obtain ⟨A5, c5, rfl, hc5, hC5⟩ := Kd.R_reads ho; have hk := below_step (And.left (by assumption)) hb; have H5 := Aside0.mk hC5; clear ho hc5 hC5 hb) | (go_at_call 28; refine (step_calls k A5 pl.length c5 pl n2 _ H5.out).mono ?_; rw [HRS.out, HRLE.out]; rintro e wb ⟨v6, rfl, ho, hb⟩; obtain ⟨A6, c6, rfl, hc6, hC6⟩ := Kd.R_reads ho; have hk := below_step (And.left (by assumption)) hb; have H6 := Aside0.mk (And.intro hc6 hC6); clear ho hc6 hC6 hb))) | fail
        have HK := Aside0.mk hk
        clear hk H5
        have HA := Aside0.mk (Kd.C_below HA.out HK.out)
        have HBB := Aside0.mk (Kd.C_below HBB.out HK.out)
        have HI := Aside0.mk (Kd.C_below HI.out HK.out)
        have HW := Aside0.mk (below_step HW.out HK.out)
        have HBX2 := Aside0.mk (F.out _ HK.out)
        have F2 := Aside0.mk (show ∀ w', Below wb.heap.size wb w' → w'.cell? ⟨bt, 0, none⟩ = some (.slice IB is.length cI) from fun w' hb => (hb.cell (World.block_lt_of_cell? wb _ HBX2.out)).trans HBX2.out)
        go_upto_region 11 with (fail)
        first | go_region_held3 (fun w' => Below wb.heap.size wb w' ∧ w'.cell? ⟨bt, 0, none⟩ = some (.slice IB is.length cI)) (first | exact ⟨below_drew (Below.refl _ _), F2.out _ (below_drew (Below.refl _ _))⟩ | exact ⟨by assumption, F2.out _ (by assumption)⟩) ((first | (go_at_call 33; refine (ins_calls k _).mono ?_; rintro e wz ⟨rfl, hb⟩; have hk := below_step (And.left (by assumption)) hb; clear hb) | (go_at_call 32; refine (put32_calls B1 m cB la IB is.length cI is (insN k) _ (Kd.C_below HBB.out (And.left (by assumption))) (Kd.C_below HI.out (And.left (by assumption))) (by omega)).mono ?_; rw [HPL.out]; rintro e wz ⟨v5, rfl, ho, hb⟩; obtain ⟨A5, c5, rfl, hc5, hC5⟩ := Kd.R_reads ho; have hk := below_step (And.left (by assumption)) hb; have H5 := Aside0.mk hC5; clear ho hc5 hC5 hb) | (go_at_call 29; refine (rstep_calls k A5 pl.length c5 pl n2 _ H5.out HPP.out).mono ?_; rw [HRS.out, HRLE.out]; rintro e wz ⟨v6, rfl, ho, hb⟩; obtain ⟨A7, c7, rfl, hc7, hC7⟩ := Kd.R_reads ho; have hk := below_step (And.left (by assumption)) hb; have H7 := Aside0.mk (And.intro hc7 hC7); clear ho hc7 hC7 hb))) | fail
        have HK2 := Aside0.mk hk
        clear hk H5
        have HA := Aside0.mk (Kd.C_below HA.out HK2.out)
        have HBB := Aside0.mk (Kd.C_below HBB.out HK2.out)
        have H6 := Aside0.mk (And.intro H6.out.1 (Kd.C_below H6.out.2 HK2.out))
        have HW := Aside0.mk (below_step HW.out HK2.out)
        go_wp2_with fail
        refine (equal_calls H6.out.2 H6.out.1 H7.out.2 H7.out.1).mono ?_
        rintro e w8 ⟨rfl, hb8⟩
        have HA := Aside0.mk (Kd.C_below HA.out hb8)
        have HBB := Aside0.mk (Kd.C_below HBB.out hb8)
        have H6 := Aside0.mk (And.intro H6.out.1 (Kd.C_below H6.out.2 hb8))
        have H7 := Aside0.mk (And.intro H7.out.1 (Kd.C_below H7.out.2 hb8))
        have HW := Aside0.mk (below_step HW.out hb8)
        clear hb8
        obtain ⟨r1, r2⟩ := res
        simp only at HRL HRS HRLE ⊢
        by_cases hf : r2 = 0
        · subst hf
          have hl7 : rl.length = m := HRL.out rfl
          rw [hl7] at H6 H7 ⊢
          go_wp2
          go_roundw
          case rel => exact ⟨j + 1, _, _, _, _, rl, n2, by omega, by go_num, rfl, rfl, rfl, H6.out.1, H7.out.1, ⟨hl7, HRN.out⟩, ⟨H6.out.2⟩, ⟨H7.out.2⟩, ⟨by have := HN2.out; omega⟩, HW⟩
          case measure => simp [intOf]; omega
        · have hfT : (r2 == 0) = false := beq_eq_false_iff_ne.mpr hf
          go_wp2
          go_roundw
          case rel => exact ⟨j + 1, _, _, _, _, la, n2, by omega, by go_num, rfl, rfl, rfl, hcA, hcB, HLA, HA, HBB, ⟨by have := HN2.out; omega⟩, HW⟩
          case measure => simp [intOf]; omega
    · have hmT : ((0 : Int) < (m : Int)) = True := eq_true (by omega)
      go_wp2_with fail
      refine (equal_calls HA.out hcA HBB.out hcB).mono ?_
      rintro e w8 ⟨rfl, hb8⟩
      go_wp2
      go_ret
      exact ⟨rfl, below_step HB2.out (below_step HW.out hb8)⟩

end Go.Proofs.Ytfadafgnahhmdaa.X
