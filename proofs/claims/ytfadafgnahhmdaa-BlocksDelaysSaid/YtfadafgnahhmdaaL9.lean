import Derived.Test.YtfadafgnahhmdaaTD
import Derived.Deep.RegionHeldLaw
import Derived.Deep.DeepCutAuto
import Derived.Deep.RegionHeld3
namespace Go.Proofs.Ytfadafgnahhmdaa.X
open Go.RowKit Go.Proofs.YtfadafgnahhmdaaW.PrintWords Go.Proofs.YtfadafgnahhmdaaW.PrintLast Go.Proofs.YtfadafgnahhmdaaW.PrintMore Go.Proofs.Ytfadafgnahhmdaa.E
attribute [local go_sem] max2_int min2_int max_two min_two max_three min_three max_four min_four
set_option linter.unusedVariables false
set_option linter.unusedSimpArgs false

attribute [local go_sem high] eqA34
set_option maxHeartbeats 16000000 in
set_option maxRecDepth 100000 in
theorem delays_calls (pt0 : Int) (A : Option Addr) (n cp : Nat) (l : List Tk) (w : World) (hw0 : (Lit.int .i64 pt0).wf = true) (hr : Kd.C kT w A n l ∧ ∀ x ∈ l, (Lit.int .i64 x.f1).wf = true) (hl : n * 16 ≤ 140737488351232) :
    Calls Try.prog 9 #[.int .i64 pt0, .slice A n cp] w fun e w' => e = .returned (.bool true) ∧ Below w.heap.size w w' := by
  have hu34 := Try.underlying34
  have hu52 := Try.underlying52
  have q30 : ∀ (w : World) (a : Option Addr) (n c n' c' : Nat), (binOp .eql 30 (.slice a n c) (.slice none n' c')).run Try.prog w = .ok (.bool a.isNone) w := fun w a n c n' c' => Lib.run_eql_slice_nil w _ _ a n c n' c' Try.underlying30
  have HR := Aside0.mk hr.1
  have HL := Aside0.mk hl
  clear hr hl hw0
  go_enter Try.func9, Try.ntmps9
  go_upto_region 2 with (fail)
  have hpb := mod_bd pt0 1125899906842624 (by omega) (by omega)
  generalize wrap64 ((IntKind.u64.wrap pt0).tmod 1125899906842624) = pt at hpb ⊢
  have HPB := Aside0.mk hpb
  clear hpb
  go_upto_region 5 with (first
    | (go_at_call 23; (with_reducible show Calls Try.prog 23 #[.int .i64 9] _ _); refine (startG 9 _ 6 _ start9 rfl (by omega)).mono ?_; rintro e w1 ⟨g1, c1, rfl, hC, hb⟩; have HB := Aside0.mk hb; have HS1 := Aside0.mk hC; clear hb hC)
    | (go_at_call 23; (with_reducible show Calls Try.prog 23 #[.int .i64 10] _ _); refine (startG 10 _ 6 _ start10 rfl (by omega)).mono ?_; rintro e w2 ⟨g2, c2, rfl, hC, hb⟩; have HB := Aside0.mk (below_step HB.out hb); have HS1 := Aside0.mk (Kd.C_below HS1.out hb); have HS2 := Aside0.mk hC; clear hb hC))
  have HR2 := Aside0.mk (Kd.C_alloc (Kd.C_below HR.out HB.out) (.cells #[.bool true, .int .i64 0] 52))
  go_wp2_with (at_builtin; refine Kd.R_append_rows kT (Rr := fun x cs => cs = [.bool x.f0, .int .i64 x.f1]) (w0 := w2) w2.heap.size rfl (.tmp 20) (.tmp 21) 49 52 (.agg #[.bool false, .int .i64 0]) 16 rfl Try.underlying49 info52 rfl (by decide) (by omega) (.slice (some ⟨w2.heap.size, 0, none⟩) 1 1) [⟨true, 0⟩] l A n cp (fun _ => True) (fun _ => False) rfl rfl (R_litT _ _ (Nat.le_refl _) ⟨true, 0⟩) (ReadsRow.imp_ HR2.out (Below.refl _ _) (fun x cs h => kT_open h)) (fun x cs h => h ▸ kT_mkM _ _ _ x) (fun _ h => h.elim) (fun _ _ => trivial) (below_alloc (Below.refl _ _) _) (by simp) (by have := HL.out; simp; omega) ?_; intro vl w3 ho hb hg hat; obtain ⟨ys, hys⟩ : ∃ ys, ys = [⟨true, 0⟩] ++ l := ⟨_, rfl⟩; rw [← hys] at ho; clear hys; obtain ⟨Al, cl, rfl, hle, hC⟩ := Kd.R_reads ho; have HB := Aside0.mk (below_step HB.out hb); have HS1 := Aside0.mk (Kd.C_below HS1.out hb); have HS2 := Aside0.mk (Kd.C_below HS2.out hb); have HCL := Aside0.mk hC; clear ho hb hg hat hC)
  clear HR2
  have HM : Aside0 (ys.length ≤ 9223372036854775807) := ⟨HCL.out.2.1⟩
  clear hle
  go_loopw [5, 6, 7, 8, 9, 10, 24] (fun s5 s6 s7 s8 s9 s10 i wr => ∃ (j g c g' c' : Nat) (b0 b0' : Bool) (p0 p0' : Int) (q1 : Bool) (et1 s1 : Int) (q2 : Bool) (et2 s2 : Int) (m : Bool) (nw fe ro : Int), j ≤ ys.length ∧ i = .int .i64 j ∧ s5 = .slice (some ⟨g, 0, none⟩) 6 c ∧ s6 = .slice (some ⟨g', 0, none⟩) 6 c' ∧ s7 = .int .i64 nw ∧ s8 = .int .i64 ro ∧ s9 = .int .i64 fe ∧ s10 = .bool q2 ∧
      Aside0 (Kd.C k34 wr (some ⟨g, 0, none⟩) 6 [bv b0, tv p0, bv q1, tv et1, bv m, tv s1]) ∧ Aside0 (Kd.C k34 wr (some ⟨g', 0, none⟩) 6 [bv b0', tv p0', bv q2, tv et2, bv m, tv s2]) ∧ Aside0 (0 ≤ et1 ∧ et1 ≤ 4611686018427387904 ∧ 0 ≤ et2 ∧ et2 ≤ 4611686018427387904 ∧ 0 ≤ s1 ∧ s1 ≤ nw ∧ 0 ≤ s2 ∧ s2 ≤ nw ∧ nw ≤ 2305843009213693952) ∧
      Aside0 (DI m s1 q2 s2 nw fe ro) ∧ Aside0 (Below w3.heap.size w3 wr)) (fun _ _ _ _ _ _ i _ => ys.length - (intOf i).toNat)
  case atStart => exact ⟨0, _, _, _, _, _, _, _, _, _, _, _, _, _, _, _, _, _, _, Nat.zero_le _, rfl, rfl, rfl, rfl, rfl, rfl, rfl, HS1, HS2, ⟨by omega⟩, ⟨by simp [DI]⟩, ⟨Below.refl _ _⟩⟩
  case round =>
    obtain ⟨j, g, c, g', c', b0, b0', p0, p0', q1, et1, s1, q2, et2, s2, m, nw, fe, ro, hj, rfl, rfl, rfl, rfl, rfl, rfl, rfl, HS1, HS2, HN, HI, HWL⟩ := hrel
    by_cases hlt : j < ys.length
    · obtain ⟨ad, x, rfl, hx, hc0, hc1⟩ := at_T (Kd.C_below HCL.out HWL.out) j hlt
      clear hx
      have hm := HM.out
      have hb1 : (0 ≤ (j : Int)) = True := eq_true (by omega)
      have hb2 : ((j : Int) < (ys.length : Int)) = True := eq_true (by omega)
      obtain ⟨i, ps⟩ := x
      simp only at hc0 hc1
      go_upto_region 9 with (fail)
      obtain ⟨hq1, hq2⟩ := mod_bd ps 1099511627776 (by omega) (by omega)
      have hn2 : wrap64 (nw + wrap64 ((IntKind.u64.wrap ps).tmod 1099511627776)) = nw + wrap64 ((IntKind.u64.wrap ps).tmod 1099511627776) := by
        have := HN.out
        have h2 : ∀ x : Int, -9223372036854775808 ≤ x → x ≤ 9223372036854775807 → wrap64 x = x := fun x _ _ => by unfold wrap64; omega
        exact h2 _ (by omega) (by omega)
      rw [hn2]
      clear hn2
      generalize wrap64 ((IntKind.u64.wrap ps).tmod 1099511627776) = pq at hq1 hq2 ⊢
      obtain ⟨n2, hn2⟩ : ∃ n2, n2 = nw + pq := ⟨_, rfl⟩
      rw [← hn2]
      have HN2 : Aside0 (nw ≤ n2 ∧ n2 ≤ 2305843009213693952 + 1099511627776) := ⟨by have := HN.out; omega⟩
      clear hn2 hq1 hq2
      generalize hW : wr.alloc _ = W
      have bW : Below wr.heap.size wr W := by rw [← hW]; exact below_alloc (Below.refl _ _) _
      have HT : Aside0 (W.cell? ⟨wr.heap.size, 0, none⟩ = some (.bool i)) := ⟨by rw [← hW]; simp⟩
      clear hW hc0 hc1
      have HS1 := Aside0.mk (Kd.C_below HS1.out bW)
      have HS2 := Aside0.mk (Kd.C_below HS2.out bW)
      have HWL := Aside0.mk (below_step HWL.out bW)
      clear bW hb1 hb2
      generalize wr.heap.size = bt at HT ⊢
      by_cases hov : 2305843009213693952 < n2
      · have hovT : (2305843009213693952 < n2) = True := eq_true hov
        go_wp2
        all_goals (go_ret; exact ⟨rfl, below_step HB.out HWL.out⟩)
      · have hovF : (2305843009213693952 < n2) = False := eq_false hov
        have HOV := Aside0.mk hov
        clear hov
        go_upto_region 11 with (fail)
        have HW : Aside0 (Below W.heap.size W W.drew) := ⟨below_drew (Below.refl _ _)⟩
        have HLT : Aside0 (bt < W.heap.size) := ⟨World.block_lt_of_cell? W _ HT.out⟩
        first | go_region_held (fun w' => w'.cell? ⟨bt, 0, none⟩ = some (.bool i)) (first | exact (HW.out.cell HLT.out).trans HT.out | exact ((below_alloc HW.out _).cell HLT.out).trans HT.out)
          (first
            | (go_at_call 25; refine (bitL _ _).mono ?_; rintro e wb ⟨rfl, hb⟩; have HW := Aside0.mk (below_step HW.out hb); (try have HW5 := Aside0.mk (below_step HW5.out hb)); clear hb)
            | (go_at_call 31; refine (spanV_calls _ _).mono ?_; rintro e wb ⟨rfl, hb⟩; have HW := Aside0.mk (below_step HW.out hb); (try have HW5 := Aside0.mk (below_step HW5.out hb)); clear hb)
            | (go_at_call 26; (with_reducible show Calls Try.prog 26 #[.int .i64 9, _, _, _] _ _); refine (stepL 9 (n := 6) (m := 2) (now := n2) (l := [bv b0, tv p0, bv q1, tv et1, bv m, tv s1]) (is := [bv i, tv pt]) (ton_step i b0 pt p0 q1 et1 m s1 n2 HPB.out.1 (by have := HPB.out; omega) HN.out.1 HN.out.2.1 HN.out.2.2.2.2.1 (by have := HN.out; have := HN2.out; omega) (by have := HOV.out; omega)) rfl ?aA ?aB (by omega) (by omega) (by omega)).mono ?_; (case aA => exact Kd.C_alloc (Kd.C_below HS1.out HW.out) _); (case aB => exact C34_lit _ [bv i, tv pt] _ rfl (by simp)); rintro e w5 ⟨g5, c5, rfl, h1, h2⟩; have HW := Aside0.mk (below_step (below_alloc HW.out _) h2); have HN5 : Aside0 (∀ w', Below w5.heap.size w5 w' → Kd.C k34 w' (some ⟨g5, 0, none⟩) 6 [bv i, tv pt, bv (tonS i pt q1 et1 m s1 n2).1, tv (tonS i pt q1 et1 m s1 n2).2.1, bv i, tv (tonS i pt q1 et1 m s1 n2).2.2]) := ⟨fun w' hb => Kd.C_below h1 hb⟩; have HW5 : Aside0 (Below w5.heap.size w5 w5) := ⟨Below.refl _ _⟩; clear h1 h2)
            | (go_at_call 26; (with_reducible show Calls Try.prog 26 #[.int .i64 10, _, _, _] _ _); refine (stepL 10 (n := 6) (m := 2) (now := n2) (l := [bv b0', tv p0', bv q2, tv et2, bv m, tv s2]) (is := [bv i, tv pt]) (tof_step i b0' pt p0' q2 et2 m s2 n2 HPB.out.1 (by have := HPB.out; omega) HN.out.2.2.1 HN.out.2.2.2.1 HN.out.2.2.2.2.2.2.1 (by have := HN.out; have := HN2.out; omega) (by have := HOV.out; omega)) rfl ?aA ?aB (by omega) (by omega) (by omega)).mono ?_; (case aA => exact Kd.C_alloc (Kd.C_below HS2.out HW.out) _); (case aB => exact C34_lit _ [bv i, tv pt] _ rfl (by simp)); rintro e w6 ⟨g6, c6, rfl, h1, h2⟩; have HW := Aside0.mk (below_step (below_alloc HW.out _) h2); have HW5 := Aside0.mk (below_step (below_alloc HW5.out _) h2); have HS2 := Aside0.mk h1; have HS1 := Aside0.mk (HN5.out _ HW5.out); clear h1 h2)) | fail
        have HWL := Aside0.mk (below_step HWL.out HW.out)
        have fT := (HW.out.cell HLT.out).trans HT.out
        clear hovF
        have hfe : -1 ≤ fe ∧ fe ≤ nw := HI.out.2.2.2
        have hro : ro ≤ n2 ∧ -1 ≤ ro := by
          have h := HI.out
          have h2 := HN.out
          have h3 := HN2.out
          cases m with
          | true => have := (h.1 rfl).1; omega
          | false => have := h.2.1 rfl; omega
        have HF := Aside0.mk (show -1 ≤ fe ∧ fe ≤ n2 ∧ ro ≤ n2 ∧ -1 ≤ ro ∧ 0 ≤ n2 from by have := HN2.out; have := HN.out; omega)
        clear hfe hro
        have HD := Aside0.mk (del_inv i pt q1 et1 et2 m s1 q2 s2 nw fe ro n2 HI.out HN.out.2.2.2.2.1 HN.out.2.2.2.2.2.2.1 HN2.out.1 HF.out.2.2.2.2)
        have HT1 := Aside0.mk (ton_bd i pt q1 et1 m s1 n2 HPB.out.1 (by have := HPB.out; omega) HN.out.2.2.2.2.1 (by have := HN.out; have := HN2.out; omega))
        have HT2 := Aside0.mk (tof_bd i pt q2 et2 m s2 n2 HPB.out.1 (by have := HPB.out; omega) HN.out.2.2.1 HN.out.2.2.2.1 HN.out.2.2.2.2.2.2.1 (by have := HN.out; have := HN2.out; omega))
        have HON := Aside0.mk (del_on pt q1 et1 m s1 q2 s2 nw fe ro n2 HI.out HN.out.2.2.2.2.1)
        have HOFF := Aside0.mk (del_off pt et2 m s1 q2 s2 nw fe ro n2 HI.out HN.out.2.2.2.2.2.2.1).1
        go_upto_if 56 with (fail)
        go_cut [8, 9, 10] (fun s8 s9 s10 w => s8 = .int .i64 (roN i ro n2) ∧ s9 = .int .i64 (feN i fe n2) ∧ s10 = .bool (i || q2) ∧ w = w6)
        case first =>
          cases i with
          | true =>
            by_cases h : ro < 0
            · have hT : (ro < 0) = True := eq_true h
              go_wp2
              go_meet
              case rel => exact ⟨by simp [roN, h], rfl, rfl, rfl⟩
            · have hT : (ro < 0) = False := eq_false h
              have hr : roN true ro n2 = ro := by unfold roN; rw [if_pos rfl, if_neg h]
              go_wp2
              go_meet
              case rel => exact ⟨by rw [hr], rfl, rfl, rfl⟩
          | false =>
            by_cases h : fe < 0
            · have hT : (fe < 0) = True := eq_true h
              go_wp2
              go_meet
              case rel => exact ⟨rfl, by simp [feN, h], rfl, rfl⟩
            · have hT : (fe < 0) = False := eq_false h
              have hr : feN false fe n2 = fe := by unfold feN; rw [if_neg (by decide), if_neg h]
              go_wp2
              go_meet
              case rel => exact ⟨rfl, by rw [hr], rfl, rfl⟩
        case rest =>
          obtain ⟨rfl, rfl, rfl, hwc⟩ := hcut
          subst hwc
          generalize hfeN : feN i fe n2 = fe2 at HD HOFF ⊢
          generalize hroN : roN i ro n2 = ro2 at HD HON ⊢
          have HB2 : Aside0 (-1 ≤ fe2 ∧ fe2 ≤ n2) := ⟨by rw [← hfeN]; unfold feN; have := HF.out; split; omega; split <;> omega⟩
          have HB3 : Aside0 (-1 ≤ ro2 ∧ ro2 ≤ n2) := ⟨by rw [← hroN]; unfold roN; have := HF.out; split; split <;> omega; omega⟩
          have hsf : wrap64 (n2 - fe2) = n2 - fe2 := by have := HB2.out; have := HF.out; have := HOV.out; unfold wrap64; omega
          have hsr : wrap64 (n2 - ro2) = n2 - ro2 := by have := HB3.out; have := HF.out; have := HOV.out; unfold wrap64; omega
          have hsr2 : IntKind.i64.wrap (n2 - ro2) = n2 - ro2 := (i64_w _).trans hsr
          have hsf2 : IntKind.i64.wrap (n2 - fe2) = n2 - fe2 := (i64_w _).trans hsf
          have hroN2 : i = true → ro2 = roN true ro n2 := fun h => by rw [← hroN, h]
          have hfeN2 : i = false → fe2 = feN false fe n2 := fun h => by rw [← hfeN, h]
          have HRO := Aside0.mk hroN2
          have HFE := Aside0.mk hfeN2
          clear hfeN hroN hroN2 hfeN2
          have HLIT : Aside0 ((tofS i pt q2 et2 m s2 n2).1 = ((i || q2) && !(!i && decide (pt ≤ n2 - fe2)))) := ⟨by
            cases i with
            | true => rfl
            | false => rw [HOFF.out, HFE.out rfl]; simp⟩
          have HQ1 : Aside0 ((tonS i pt q1 et1 m s1 n2).1 = (i && decide (pt ≤ n2 - ro2))) := ⟨by
            cases i with
            | true => rw [HON.out.2, HRO.out rfl]; simp
            | false => rfl⟩
          generalize (tofS i pt q2 et2 m s2 n2).1 = ql at HLIT HS2 HD
          generalize (tonS i pt q1 et1 m s1 n2).1 = qn at HQ1 HS1
          generalize hio : (i || q2) = io
          have HIO := Aside0.mk hio
          clear hio
          cases i with
          | true =>
            have hql : ql = true := by rw [HLIT.out]; simp
            have hio : io = true := by rw [← HIO.out]; rfl
            subst hio
            by_cases hp : pt ≤ n2 - ro2
            · have hqn : qn = true := by rw [HQ1.out]; simp [hp]
              have hT : (pt ≤ n2 - ro2) = True := eq_true hp
              subst hql hqn
              go_upto_region 21 with (fail)
              have e1 : wc.cell? ⟨bt, 0, none⟩ = some (.bool true) := fT
              have e2 : wc.cell? ⟨g5, 6, none⟩ = some (.int .u8 1) := (C34_at HS1.out 2 (bv (true)) rfl).1
              have e3 : wc.cell? ⟨g5, 7, none⟩ = some (.int .u64 (B.b2i (true))) := (C34_at HS1.out 2 (bv (true)) rfl).2.1
              have e4 : wc.cell? ⟨g5, 8, none⟩ = some (.string ⟨#[]⟩) := (C34_at HS1.out 2 (bv (true)) rfl).2.2
              have e5 : wc.cell? ⟨g6, 6, none⟩ = some (.int .u8 1) := (C34_at HS2.out 2 (bv (true)) rfl).1
              have e6 : wc.cell? ⟨g6, 7, none⟩ = some (.int .u64 (B.b2i (true))) := (C34_at HS2.out 2 (bv (true)) rfl).2.1
              have e7 : wc.cell? ⟨g6, 8, none⟩ = some (.string ⟨#[]⟩) := (C34_at HS2.out 2 (bv (true)) rfl).2.2
              have F := Aside0.mk (show ∀ w', Below wc.heap.size wc w' → (w'.cell? ⟨bt, 0, none⟩ = some (.bool true) ∧ w'.cell? ⟨g5, 6, none⟩ = some (.int .u8 1) ∧ w'.cell? ⟨g5, 7, none⟩ = some (.int .u64 (B.b2i (true))) ∧ w'.cell? ⟨g5, 8, none⟩ = some (.string ⟨#[]⟩) ∧ w'.cell? ⟨g6, 6, none⟩ = some (.int .u8 1) ∧ w'.cell? ⟨g6, 7, none⟩ = some (.int .u64 (B.b2i (true))) ∧ w'.cell? ⟨g6, 8, none⟩ = some (.string ⟨#[]⟩)) from fun w' hb => ⟨(hb.cell (World.block_lt_of_cell? wc _ e1)).trans e1, (hb.cell (World.block_lt_of_cell? wc _ e2)).trans e2, (hb.cell (World.block_lt_of_cell? wc _ e3)).trans e3, (hb.cell (World.block_lt_of_cell? wc _ e4)).trans e4, (hb.cell (World.block_lt_of_cell? wc _ e5)).trans e5, (hb.cell (World.block_lt_of_cell? wc _ e6)).trans e6, (hb.cell (World.block_lt_of_cell? wc _ e7)).trans e7⟩)
              clear e1 e2 e3 e4 e5 e6 e7
              first | go_region_held3 (fun w' => Below wc.heap.size wc w' ∧ w'.cell? ⟨bt, 0, none⟩ = some (.bool true) ∧ w'.cell? ⟨g5, 6, none⟩ = some (.int .u8 1) ∧ w'.cell? ⟨g5, 7, none⟩ = some (.int .u64 (B.b2i (true))) ∧ w'.cell? ⟨g5, 8, none⟩ = some (.string ⟨#[]⟩) ∧ w'.cell? ⟨g6, 6, none⟩ = some (.int .u8 1) ∧ w'.cell? ⟨g6, 7, none⟩ = some (.int .u64 (B.b2i (true))) ∧ w'.cell? ⟨g6, 8, none⟩ = some (.string ⟨#[]⟩)) (first | exact ⟨below_drew (Below.refl _ _), F.out _ (below_drew (Below.refl _ _))⟩ | exact ⟨by assumption, F.out _ (by assumption)⟩) ((go_at_call 25; refine (bitL _ _).mono ?_; rintro e wb ⟨rfl, hb⟩; have hk := below_step (And.left (by assumption)) hb; clear hb)) | fail
              all_goals (go_wp2; go_roundw)
              all_goals first | exact ⟨j + 1, _, _, _, _, _, _, _, _, _, _, _, _, _, _, _, _, _, _, by omega, by go_num, rfl, rfl, rfl, rfl, rfl, rfl, ⟨Kd.C_below HS1.out (by assumption)⟩, ⟨Kd.C_below HS2.out (by assumption)⟩, ⟨by have := HT1.out; have := HT2.out; have := HOV.out; omega⟩, HD, ⟨below_step HWL.out (by assumption)⟩⟩ | (simp [intOf]; omega)
            · have hqn : qn = false := by rw [HQ1.out]; simp [hp]
              have hT : (pt ≤ n2 - ro2) = False := eq_false hp
              subst hql hqn
              go_upto_region 21 with (fail)
              have e1 : wc.cell? ⟨bt, 0, none⟩ = some (.bool true) := fT
              have e2 : wc.cell? ⟨g5, 6, none⟩ = some (.int .u8 1) := (C34_at HS1.out 2 (bv (false)) rfl).1
              have e3 : wc.cell? ⟨g5, 7, none⟩ = some (.int .u64 (B.b2i (false))) := (C34_at HS1.out 2 (bv (false)) rfl).2.1
              have e4 : wc.cell? ⟨g5, 8, none⟩ = some (.string ⟨#[]⟩) := (C34_at HS1.out 2 (bv (false)) rfl).2.2
              have e5 : wc.cell? ⟨g6, 6, none⟩ = some (.int .u8 1) := (C34_at HS2.out 2 (bv (true)) rfl).1
              have e6 : wc.cell? ⟨g6, 7, none⟩ = some (.int .u64 (B.b2i (true))) := (C34_at HS2.out 2 (bv (true)) rfl).2.1
              have e7 : wc.cell? ⟨g6, 8, none⟩ = some (.string ⟨#[]⟩) := (C34_at HS2.out 2 (bv (true)) rfl).2.2
              have F := Aside0.mk (show ∀ w', Below wc.heap.size wc w' → (w'.cell? ⟨bt, 0, none⟩ = some (.bool true) ∧ w'.cell? ⟨g5, 6, none⟩ = some (.int .u8 1) ∧ w'.cell? ⟨g5, 7, none⟩ = some (.int .u64 (B.b2i (false))) ∧ w'.cell? ⟨g5, 8, none⟩ = some (.string ⟨#[]⟩) ∧ w'.cell? ⟨g6, 6, none⟩ = some (.int .u8 1) ∧ w'.cell? ⟨g6, 7, none⟩ = some (.int .u64 (B.b2i (true))) ∧ w'.cell? ⟨g6, 8, none⟩ = some (.string ⟨#[]⟩)) from fun w' hb => ⟨(hb.cell (World.block_lt_of_cell? wc _ e1)).trans e1, (hb.cell (World.block_lt_of_cell? wc _ e2)).trans e2, (hb.cell (World.block_lt_of_cell? wc _ e3)).trans e3, (hb.cell (World.block_lt_of_cell? wc _ e4)).trans e4, (hb.cell (World.block_lt_of_cell? wc _ e5)).trans e5, (hb.cell (World.block_lt_of_cell? wc _ e6)).trans e6, (hb.cell (World.block_lt_of_cell? wc _ e7)).trans e7⟩)
              clear e1 e2 e3 e4 e5 e6 e7
              first | go_region_held3 (fun w' => Below wc.heap.size wc w' ∧ w'.cell? ⟨bt, 0, none⟩ = some (.bool true) ∧ w'.cell? ⟨g5, 6, none⟩ = some (.int .u8 1) ∧ w'.cell? ⟨g5, 7, none⟩ = some (.int .u64 (B.b2i (false))) ∧ w'.cell? ⟨g5, 8, none⟩ = some (.string ⟨#[]⟩) ∧ w'.cell? ⟨g6, 6, none⟩ = some (.int .u8 1) ∧ w'.cell? ⟨g6, 7, none⟩ = some (.int .u64 (B.b2i (true))) ∧ w'.cell? ⟨g6, 8, none⟩ = some (.string ⟨#[]⟩)) (first | exact ⟨below_drew (Below.refl _ _), F.out _ (below_drew (Below.refl _ _))⟩ | exact ⟨by assumption, F.out _ (by assumption)⟩) ((go_at_call 25; refine (bitL _ _).mono ?_; rintro e wb ⟨rfl, hb⟩; have hk := below_step (And.left (by assumption)) hb; clear hb)) | fail
              all_goals (go_wp2; go_roundw)
              all_goals first | exact ⟨j + 1, _, _, _, _, _, _, _, _, _, _, _, _, _, _, _, _, _, _, by omega, by go_num, rfl, rfl, rfl, rfl, rfl, rfl, ⟨Kd.C_below HS1.out (by assumption)⟩, ⟨Kd.C_below HS2.out (by assumption)⟩, ⟨by have := HT1.out; have := HT2.out; have := HOV.out; omega⟩, HD, ⟨below_step HWL.out (by assumption)⟩⟩ | (simp [intOf]; omega)
          | false =>
            have hqn : qn = false := by rw [HQ1.out]; simp
            have hio : io = q2 := by rw [← HIO.out]; rfl
            subst hqn
            rw [hio]
            clear hio
            have HQL : Aside0 (ql = (q2 && !decide (pt ≤ n2 - fe2))) := ⟨by rw [HLIT.out]; simp⟩
            go_upto_if 72 with (fail)
            go_cut [10] (fun s10 w => s10 = .bool ql ∧ w = wc)
            case first =>
              by_cases h : pt ≤ n2 - fe2
              · have hT : (pt ≤ n2 - fe2) = True := eq_true h
                have hq : ql = false := by rw [HQL.out]; simp [h]
                go_wp2
                go_meet
                case rel => exact ⟨by rw [hq], rfl⟩
              · have hT : (pt ≤ n2 - fe2) = False := eq_false h
                have hq : ql = q2 := by rw [HQL.out]; simp [h]
                go_wp2
                go_meet
                case rel => exact ⟨by rw [hq], rfl⟩
            case rest =>
              obtain ⟨rfl, hwd⟩ := hcut
              subst hwd
              go_upto_region 21 with (fail)
              have e1 : wc.cell? ⟨bt, 0, none⟩ = some (.bool false) := fT
              have e2 : wc.cell? ⟨g5, 6, none⟩ = some (.int .u8 1) := (C34_at HS1.out 2 (bv (false)) rfl).1
              have e3 : wc.cell? ⟨g5, 7, none⟩ = some (.int .u64 (B.b2i (false))) := (C34_at HS1.out 2 (bv (false)) rfl).2.1
              have e4 : wc.cell? ⟨g5, 8, none⟩ = some (.string ⟨#[]⟩) := (C34_at HS1.out 2 (bv (false)) rfl).2.2
              have e5 : wc.cell? ⟨g6, 6, none⟩ = some (.int .u8 1) := (C34_at HS2.out 2 (bv (ql)) rfl).1
              have e6 : wc.cell? ⟨g6, 7, none⟩ = some (.int .u64 (B.b2i (ql))) := (C34_at HS2.out 2 (bv (ql)) rfl).2.1
              have e7 : wc.cell? ⟨g6, 8, none⟩ = some (.string ⟨#[]⟩) := (C34_at HS2.out 2 (bv (ql)) rfl).2.2
              have F := Aside0.mk (show ∀ w', Below wc.heap.size wc w' → (w'.cell? ⟨bt, 0, none⟩ = some (.bool false) ∧ w'.cell? ⟨g5, 6, none⟩ = some (.int .u8 1) ∧ w'.cell? ⟨g5, 7, none⟩ = some (.int .u64 (B.b2i (false))) ∧ w'.cell? ⟨g5, 8, none⟩ = some (.string ⟨#[]⟩) ∧ w'.cell? ⟨g6, 6, none⟩ = some (.int .u8 1) ∧ w'.cell? ⟨g6, 7, none⟩ = some (.int .u64 (B.b2i (ql))) ∧ w'.cell? ⟨g6, 8, none⟩ = some (.string ⟨#[]⟩)) from fun w' hb => ⟨(hb.cell (World.block_lt_of_cell? wc _ e1)).trans e1, (hb.cell (World.block_lt_of_cell? wc _ e2)).trans e2, (hb.cell (World.block_lt_of_cell? wc _ e3)).trans e3, (hb.cell (World.block_lt_of_cell? wc _ e4)).trans e4, (hb.cell (World.block_lt_of_cell? wc _ e5)).trans e5, (hb.cell (World.block_lt_of_cell? wc _ e6)).trans e6, (hb.cell (World.block_lt_of_cell? wc _ e7)).trans e7⟩)
              clear e1 e2 e3 e4 e5 e6 e7
              first | go_region_held (fun w' => Below wc.heap.size wc w' ∧ w'.cell? ⟨bt, 0, none⟩ = some (.bool false) ∧ w'.cell? ⟨g5, 6, none⟩ = some (.int .u8 1) ∧ w'.cell? ⟨g5, 7, none⟩ = some (.int .u64 (B.b2i (false))) ∧ w'.cell? ⟨g5, 8, none⟩ = some (.string ⟨#[]⟩) ∧ w'.cell? ⟨g6, 6, none⟩ = some (.int .u8 1) ∧ w'.cell? ⟨g6, 7, none⟩ = some (.int .u64 (B.b2i (ql))) ∧ w'.cell? ⟨g6, 8, none⟩ = some (.string ⟨#[]⟩)) (first | exact ⟨below_drew (Below.refl _ _), F.out _ (below_drew (Below.refl _ _))⟩ | exact ⟨by assumption, F.out _ (by assumption)⟩) ((go_at_call 25; refine (bitL _ _).mono ?_; rintro e wb ⟨rfl, hb⟩; have hk := below_step (And.left (by assumption)) hb; clear hb)) | fail
              all_goals (go_wp2; go_roundw)
              all_goals first | exact ⟨j + 1, _, _, _, _, _, _, _, _, _, _, _, _, _, _, _, _, _, _, by omega, by go_num, rfl, rfl, rfl, rfl, rfl, rfl, ⟨Kd.C_below HS1.out (by assumption)⟩, ⟨Kd.C_below HS2.out (by assumption)⟩, ⟨by have := HT1.out; have := HT2.out; have := HOV.out; omega⟩, HD, ⟨below_step HWL.out (by assumption)⟩⟩ | (simp [intOf]; omega)
    · go_wp2
      all_goals (go_ret; exact ⟨rfl, below_step HB.out HWL.out⟩)

end Go.Proofs.Ytfadafgnahhmdaa.X

