import Derived.Test.YtfadafgnahhmdaaTN
import Derived.Deep.RegionHeldLaw
import Derived.Deep.DeepCutAuto
namespace Go.Proofs.Ytfadafgnahhmdaa.X
open Go.RowKit Go.Proofs.YtfadafgnahhmdaaW.PrintWords Go.Proofs.YtfadafgnahhmdaaW.PrintLast Go.Proofs.YtfadafgnahhmdaaW.PrintMore Go.Proofs.Ytfadafgnahhmdaa.E
attribute [local go_sem] max2_int min2_int max_two min_two max_three min_three max_four min_four
set_option linter.unusedVariables false
set_option linter.unusedSimpArgs false

attribute [local go_sem high] eqA34
theorem kind_of (n : Int) : wrap64 (8 + wrap64 ((IntKind.u64.wrap n).tmod 3)) = 8 ∨ wrap64 (8 + wrap64 ((IntKind.u64.wrap n).tmod 3)) = 9 ∨ wrap64 (8 + wrap64 ((IntKind.u64.wrap n).tmod 3)) = 10 := by
  obtain ⟨h0, h1⟩ := mod_bd n 3 (by omega) (by omega)
  generalize wrap64 ((IntKind.u64.wrap n).tmod 3) = x at h0 h1 ⊢
  unfold wrap64
  omega
set_option maxHeartbeats 1600000 in
set_option maxRecDepth 100000 in
theorem elapsed_calls (k0 pt0 : Int) (A : Option Addr) (n cp : Nat) (l : List Tk) (w : World) (hw0 : (Lit.int .i64 k0).wf = true) (hw1 : (Lit.int .i64 pt0).wf = true) (hr : Kd.C kT w A n l ∧ ∀ x ∈ l, (Lit.int .i64 x.f1).wf = true) (hl : n * 16 ≤ 140737488351232) :
    Calls Try.prog 11 #[.int .i64 k0, .int .i64 pt0, .slice A n cp] w fun e w' => e = .returned (.bool true) ∧ Below w.heap.size w w' := by
  have hu34 := Try.underlying34
  have hu52 := Try.underlying52
  have q30 : ∀ (w : World) (a : Option Addr) (n c n' c' : Nat), (binOp .eql 30 (.slice a n c) (.slice none n' c')).run Try.prog w = .ok (.bool a.isNone) w := fun w a n c n' c' => Lib.run_eql_slice_nil w _ _ a n c n' c' Try.underlying30
  have HR := Aside0.mk hr.1
  have HL := Aside0.mk hl
  clear hr hl hw0 hw1
  go_enter Try.func11, Try.ntmps11
  go_upto_region 2 with (fail)
  have hk := kind_of k0
  generalize wrap64 (8 + wrap64 ((IntKind.u64.wrap k0).tmod 3)) = k at hk ⊢
  have HK := Aside0.mk hk
  clear hk
  go_upto_region 3 with (fail)
  have hpb := mod_bd pt0 1125899906842624 (by omega) (by omega)
  generalize wrap64 ((IntKind.u64.wrap pt0).tmod 1125899906842624) = pt at hpb ⊢
  have HPB := Aside0.mk hpb
  clear hpb
  go_upto_region 5 with (go_at_call 23; refine (startG k _ 6 _ (startT k HK.out) rfl (by omega)).mono ?_; rintro e w1 ⟨g1, c1, rfl, hC, hb⟩; have HB := Aside0.mk hb; have HS1 := Aside0.mk hC; clear hb hC)
  have HR2 := Aside0.mk (Kd.C_alloc (Kd.C_below HR.out HB.out) (.cells #[.bool true, .int .i64 0] 52))
  go_wp2_with (at_builtin; refine Kd.R_append_rows kT (Rr := fun x cs => cs = [.bool x.f0, .int .i64 x.f1]) (w0 := w1) w1.heap.size rfl (.tmp 24) (.tmp 25) 49 52 (.agg #[.bool false, .int .i64 0]) 16 rfl Try.underlying49 info52 rfl (by decide) (by omega) (.slice (some ⟨w1.heap.size, 0, none⟩) 1 1) [⟨true, 0⟩] l A n cp (fun _ => True) (fun _ => False) rfl rfl (R_litT _ _ (Nat.le_refl _) ⟨true, 0⟩) (ReadsRow.imp_ HR2.out (Below.refl _ _) (fun x cs h => kT_open h)) (fun x cs h => h ▸ kT_mkM _ _ _ x) (fun _ h => h.elim) (fun _ _ => trivial) (below_alloc (Below.refl _ _) _) (by simp) (by have := HL.out; simp; omega) ?_; intro vl w3 ho hb hg hat; obtain ⟨ys, hys⟩ : ∃ ys, ys = [⟨true, 0⟩] ++ l := ⟨_, rfl⟩; rw [← hys] at ho; clear hys; obtain ⟨Al, cl, rfl, hle, hC⟩ := Kd.R_reads ho; have HB := Aside0.mk (below_step HB.out hb); have HS1 := Aside0.mk (Kd.C_below HS1.out hb); have HCL := Aside0.mk hC; clear ho hb hg hat hC)
  clear HR2
  have HM : Aside0 (ys.length ≤ 9223372036854775807) := ⟨HCL.out.2.1⟩
  clear hle
  go_loopw [8, 9, 28] (fun s8 s9 i wr => ∃ (j g c : Nat) (b0 : Bool) (p0 : Int) (q : Bool) (et : Int) (m : Bool) (s nw : Int), j ≤ ys.length ∧ i = .int .i64 j ∧ s8 = .slice (some ⟨g, 0, none⟩) 6 c ∧ s9 = .int .i64 nw ∧
      Aside0 (Kd.C k34 wr (some ⟨g, 0, none⟩) 6 [bv b0, tv p0, bv q, tv et, bv m, tv s]) ∧ Aside0 (0 ≤ et ∧ et ≤ pt ∧ 0 ≤ s ∧ s ≤ nw ∧ nw ≤ 2305843009213693952) ∧ Aside0 (Below w3.heap.size w3 wr)) (fun _ _ i _ => ys.length - (intOf i).toNat)
  case atStart => exact ⟨0, _, _, _, _, _, _, _, _, _, Nat.zero_le _, rfl, rfl, rfl, HS1, ⟨by have := HPB.out; omega⟩, ⟨Below.refl _ _⟩⟩
  case round =>
    obtain ⟨j, g, c, b0, p0, q, et, m, s, nw, hj, rfl, rfl, rfl, HS1, HN, HWL⟩ := hrel
    by_cases hlt : j < ys.length
    · obtain ⟨ad, x, rfl, hx, hc0, hc1⟩ := at_T (Kd.C_below HCL.out HWL.out) j hlt
      clear hx
      have hm := HM.out
      have hb1 : (0 ≤ (j : Int)) = True := eq_true (by omega)
      have hb2 : ((j : Int) < (ys.length : Int)) = True := eq_true (by omega)
      obtain ⟨i, ps⟩ := x
      simp only at hc0 hc1
      go_upto_region 9 with (fail)
      obtain ⟨hq1, hq2⟩ := mod_bd ps 1099511627776 (by omega) (by omega)
      have hn2 : wrap64 (nw + wrap64 ((IntKind.u64.wrap ps).tmod 1099511627776)) = nw + wrap64 ((IntKind.u64.wrap ps).tmod 1099511627776) := by
        have := HN.out
        have h2 : ∀ x : Int, -9223372036854775808 ≤ x → x ≤ 9223372036854775807 → wrap64 x = x := fun x _ _ => by unfold wrap64; omega
        exact h2 _ (by omega) (by omega)
      rw [hn2]
      clear hn2
      generalize wrap64 ((IntKind.u64.wrap ps).tmod 1099511627776) = pq at hq1 hq2 ⊢
      obtain ⟨n2, hn2⟩ : ∃ n2, n2 = nw + pq := ⟨_, rfl⟩
      rw [← hn2]
      have HN2 : Aside0 (s ≤ n2 ∧ nw ≤ n2 ∧ n2 ≤ 2305843009213693952 + 1099511627776) := ⟨by have := HN.out; omega⟩
      clear hn2 hq1 hq2
      generalize hW : wr.alloc _ = W
      have bW : Below wr.heap.size wr W := by rw [← hW]; exact below_alloc (Below.refl _ _) _
      have HT : Aside0 (W.cell? ⟨wr.heap.size, 0, none⟩ = some (.bool i)) := ⟨by rw [← hW]; simp⟩
      clear hW hc0 hc1
      have HS1 := Aside0.mk (Kd.C_below HS1.out bW)
      have HWL := Aside0.mk (below_step HWL.out bW)
      clear bW hb1 hb2
      generalize wr.heap.size = bt at HT ⊢
      by_cases hov : 2305843009213693952 < n2
      · have hovT : (2305843009213693952 < n2) = True := eq_true hov
        go_wp2
        all_goals (go_ret; exact ⟨rfl, below_step HB.out HWL.out⟩)
      · have hovF : (2305843009213693952 < n2) = False := eq_false hov
        have HOV := Aside0.mk hov
        have fT := HT.out
        have HW : Aside0 (Below W.heap.size W W) := ⟨Below.refl _ _⟩
        clear hov
        obtain ⟨q', et', s', hst, he⟩ := el_step k HK.out i b0 pt p0 q et m s n2 HPB.out.1 (by have := HPB.out; omega) HN.out.1 HN.out.2.1 HN.out.2.2.1 HN2.out.1 (by have := HOV.out; omega)
        have HST := Aside0.mk hst
        have HE := Aside0.mk he
        clear hst he
        go_upto_region 12 with (first | (go_at_call 25; refine (bitL _ _).mono ?_; rintro e wb ⟨rfl, hb⟩; have HW := Aside0.mk (below_step HW.out hb); clear hb) | (go_at_call 31; refine (spanV_calls _ _).mono ?_; rintro e wb ⟨rfl, hb⟩; have HW := Aside0.mk (below_step HW.out hb); clear hb) | (go_at_call 26; refine (stepL k (n := 6) (m := 2) (now := n2) (l := [bv b0, tv p0, bv q, tv et, bv m, tv s]) (is := [bv i, tv pt]) HST.out rfl ?aA ?aB (by omega) (by omega) (by omega)).mono ?_; (case aA => exact Kd.C_alloc (Kd.C_below HS1.out HW.out) _); (case aB => exact C34_lit _ [bv i, tv pt] _ rfl (by simp)); rintro e w5 ⟨g5, c5, rfl, h1, h2⟩; have hX := below_step (below_alloc HW.out _) h2; have HS1 := Aside0.mk h1; have HWL := Aside0.mk (below_step HWL.out hX); have HT := Aside0.mk ((hX.cell (World.block_lt_of_cell? W _ HT.out)).trans HT.out); clear h1 h2 hX))
        clear HW hovF fT
        have hule := u64_le et' pt HE.out.1 HE.out.2.1 (by have := HPB.out; omega)
        have e1 : w5.cell? ⟨bt, 0, none⟩ = some (.bool i) := HT.out
        have e2 : w5.cell? ⟨g5, 0, none⟩ = some (.int .u8 1) := (C34_at HS1.out 0 (bv i) rfl).1
        have e3 : w5.cell? ⟨g5, 1, none⟩ = some (.int .u64 (B.b2i i)) := (C34_at HS1.out 0 (bv i) rfl).2.1
        have e4 : w5.cell? ⟨g5, 2, none⟩ = some (.string ⟨#[]⟩) := (C34_at HS1.out 0 (bv i) rfl).2.2
        have e5 : w5.cell? ⟨g5, 3, none⟩ = some (.int .u8 14) := (C34_at HS1.out 1 (tv pt) rfl).1
        have e6 : w5.cell? ⟨g5, 4, none⟩ = some (.int .u64 (IntKind.u64.wrap pt)) := (C34_at HS1.out 1 (tv pt) rfl).2.1
        have e7 : w5.cell? ⟨g5, 5, none⟩ = some (.string ⟨#[]⟩) := (C34_at HS1.out 1 (tv pt) rfl).2.2
        have e8 : w5.cell? ⟨g5, 9, none⟩ = some (.int .u8 14) := (C34_at HS1.out 3 (tv et') rfl).1
        have e9 : w5.cell? ⟨g5, 10, none⟩ = some (.int .u64 (IntKind.u64.wrap et')) := (C34_at HS1.out 3 (tv et') rfl).2.1
        have F := Aside0.mk (show ∀ w', Below w5.heap.size w5 w' → (w'.cell? ⟨bt, 0, none⟩ = some (.bool i) ∧ w'.cell? ⟨g5, 0, none⟩ = some (.int .u8 1) ∧ w'.cell? ⟨g5, 1, none⟩ = some (.int .u64 (B.b2i i)) ∧ w'.cell? ⟨g5, 2, none⟩ = some (.string ⟨#[]⟩) ∧ w'.cell? ⟨g5, 3, none⟩ = some (.int .u8 14) ∧ w'.cell? ⟨g5, 4, none⟩ = some (.int .u64 (IntKind.u64.wrap pt)) ∧ w'.cell? ⟨g5, 5, none⟩ = some (.string ⟨#[]⟩) ∧ w'.cell? ⟨g5, 9, none⟩ = some (.int .u8 14) ∧ w'.cell? ⟨g5, 10, none⟩ = some (.int .u64 (IntKind.u64.wrap et'))) from fun w' hb => ⟨(hb.cell (World.block_lt_of_cell? w5 _ e1)).trans e1, (hb.cell (World.block_lt_of_cell? w5 _ e2)).trans e2, (hb.cell (World.block_lt_of_cell? w5 _ e3)).trans e3, (hb.cell (World.block_lt_of_cell? w5 _ e4)).trans e4, (hb.cell (World.block_lt_of_cell? w5 _ e5)).trans e5, (hb.cell (World.block_lt_of_cell? w5 _ e6)).trans e6, (hb.cell (World.block_lt_of_cell? w5 _ e7)).trans e7, (hb.cell (World.block_lt_of_cell? w5 _ e8)).trans e8, (hb.cell (World.block_lt_of_cell? w5 _ e9)).trans e9⟩)
        clear e1 e2 e3 e4 e5 e6 e7 e8 e9
        first | go_region_held (fun w' => Below w5.heap.size w5 w' ∧ w'.cell? ⟨bt, 0, none⟩ = some (.bool i) ∧ w'.cell? ⟨g5, 0, none⟩ = some (.int .u8 1) ∧ w'.cell? ⟨g5, 1, none⟩ = some (.int .u64 (B.b2i i)) ∧ w'.cell? ⟨g5, 2, none⟩ = some (.string ⟨#[]⟩) ∧ w'.cell? ⟨g5, 3, none⟩ = some (.int .u8 14) ∧ w'.cell? ⟨g5, 4, none⟩ = some (.int .u64 (IntKind.u64.wrap pt)) ∧ w'.cell? ⟨g5, 5, none⟩ = some (.string ⟨#[]⟩) ∧ w'.cell? ⟨g5, 9, none⟩ = some (.int .u8 14) ∧ w'.cell? ⟨g5, 10, none⟩ = some (.int .u64 (IntKind.u64.wrap et'))) (first | exact ⟨below_drew (Below.refl _ _), F.out _ (below_drew (Below.refl _ _))⟩ | exact ⟨by assumption, F.out _ (by assumption)⟩) (first | (go_at_call 25; refine (bitL _ _).mono ?_; rintro e wb ⟨rfl, hb⟩; have hk := below_step (And.left (by assumption)) hb; clear hb) | (go_at_call 31; refine (spanV_calls _ _).mono ?_; rintro e wb ⟨rfl, hb⟩; have hk := below_step (And.left (by assumption)) hb; clear hb)) | fail
        all_goals (go_wp2; go_roundw)
        all_goals first | exact ⟨j + 1, _, _, _, _, _, _, _, _, _, by omega, by go_num, rfl, rfl, ⟨Kd.C_below HS1.out (by assumption)⟩, ⟨by have := HE.out; have := HOV.out; omega⟩, ⟨below_step HWL.out (by assumption)⟩⟩ | (simp [intOf]; omega)
    · go_wp2
      all_goals (go_ret; exact ⟨rfl, below_step HB.out HWL.out⟩)

end Go.Proofs.Ytfadafgnahhmdaa.X

