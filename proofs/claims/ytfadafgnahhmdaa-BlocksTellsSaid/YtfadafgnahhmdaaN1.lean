import Derived.Test.YtfadafgnahhmdaaV3
namespace Go.Proofs.Ytfadafgnahhmdaa.X
open Go.RowKit Go.Proofs.YtfadafgnahhmdaaW.PrintWords Go.Proofs.YtfadafgnahhmdaaW.PrintLast Go.Proofs.YtfadafgnahhmdaaW.PrintMore Go.Proofs.Ytfadafgnahhmdaa.E
attribute [local go_sem] max2_int min2_int max_two min_two max_three min_three max_four min_four
set_option linter.unusedVariables false
set_option linter.unusedSimpArgs false

/-! ### The document's 'one' and 'Vars' -/
theorem C_grownS {w w1 : World} {b n : Nat} {ns : List ByteArray} {row : Option Nat} (h : Kd.C Kd.string w (some ⟨b, 0, none⟩) n ns) (hg : w.grownBy w1 row) (hne : some b ≠ row) (hlt : b < w.heap.size) : Kd.C Kd.string w1 (some ⟨b, 0, none⟩) n ns := by
  refine ⟨h.1, h.2.1, fun hn => ?_⟩
  obtain ⟨ad, e, hc⟩ := h.2.2 hn
  injection e with e
  subst e
  refine ⟨_, rfl, fun j p hj => ?_⟩
  obtain ⟨cs, hl, hK, hcell⟩ := hc j p hj
  exact ⟨cs, hl, hK, fun i u hu => (World.cell?_of_block (by rw [add_block]; exact hg.block b hlt hne)).trans (hcell i u hu)⟩
set_option maxHeartbeats 1600000 in
set_option maxRecDepth 100000 in
theorem one_calls (c k : Int) (b n cp : Nat) (ns : List ByteArray) (w0 w : World) (base : Nat) (L : Value) (xs : List (ByteArray × Int × Int)) (hL : Kd.R kV 66 w base (fun _ => True) L xs) (hB : Below base w0 w) (hbase : base ≤ w.heap.size) (hr : Kd.C Kd.string w (some ⟨b, 0, none⟩) n ns) (hne : some b ≠ L.ownBlock) (hlt : b < w.heap.size) (hn : xs.length + n ≤ 100) :
    Calls Try.prog 39 #[L, .int .i64 c, .int .u8 k, .slice (some ⟨b, 0, none⟩) n cp] w fun e w' => ∃ v : Value, e = .returned v ∧ Kd.R kV 66 w' base (fun _ => True) v (xs ++ ofL c k ns) ∧ Below base w0 w' := by
  have hu64 := Try.underlying64
  have hu66 := Try.underlying66
  have hl : ns.length = n := hr.1
  have HL := Aside0.mk hl
  have H0 := Aside0.mk hL
  have H1 := Aside0.mk hB
  have H2 := Aside0.mk hr
  have H3 := Aside0.mk (show some b ≠ L.ownBlock ∧ b < w.heap.size ∧ base ≤ w.heap.size from ⟨hne, hlt, hbase⟩)
  clear hl hL hB hr hne hlt hbase
  go_enter Try.func39, Try.ntmps39
  go_wp2
  go_loopw [0, 9] (fun v i wr => ∃ j : Nat, j ≤ n ∧ i = .int .i64 j ∧ Aside0 (Kd.R kV 66 wr base (fun _ => True) v (xs ++ ofL c k (ns.take j))) ∧ Aside0 (Below base w0 wr) ∧ Aside0 (Kd.C Kd.string wr (some ⟨b, 0, none⟩) n ns) ∧ Aside0 (some b ≠ v.ownBlock ∧ b < wr.heap.size ∧ base ≤ wr.heap.size)) (fun _ i _ => n - (intOf i).toNat)
  case atStart => exact ⟨0, Nat.zero_le _, rfl, ⟨by simpa [ofL] using H0.out⟩, H1, H2, H3⟩
  case round =>
    obtain ⟨j, hj, rfl, HO, HB, HR, HN⟩ := hrel
    clear H0 H1 H2 H3
    by_cases hlt : j < n
    · obtain ⟨ad, e, hx0⟩ := Kd.at_string HR.out (j : Int) (by omega) (by omega)
      injection e with e
      subst e
      rw [Int.toNat_natCast, add_plain] at hx0
      have hrd : rdOf ByteArray.empty ns (j : Int) = ns.getD j ByteArray.empty := rfl
      rw [hrd] at hx0
      obtain ⟨nm, hnm⟩ : ∃ nm, nm = ns.getD j ByteArray.empty := ⟨_, rfl⟩
      rw [← hnm] at hx0
      have HNM := Aside0.mk hnm
      clear hnm hrd
      have hb1 : (0 ≤ (j : Int)) = True := eq_true (by omega)
      have hb2 : ((j : Int) < (n : Int)) = True := eq_true (by omega)
      go_wp2_with (first | (at_builtin; refine Kd.R_append kV (w0 := w0) base rfl (.tmp 16) (.tmp 25) 27 66 _ 152 rfl Try.underlying27 info66 rfl (by decide) (by omega) u0 (xs ++ ofL c k (ns.take j)) (nm, c, k) (vcells (nm, c, k)) (fun _ => True) (fun _ => False) rfl rfl rfl (fun _ h => h.elim) (fun _ _ => trivial) HO.out HB.out HN.out.2.2 ?aS ?_; (case aS => unfold ofL; rw [List.length_append, List.length_map, List.length_take]; omega); intro v1 w1 ho hb hg hat; have HO1 := Aside0.mk ho; have HB1 := Aside0.mk hb; have HR1 := Aside0.mk (C_grownS HR.out hg HN.out.1 HN.out.2.1); have HN1 := Aside0.mk (show some b ≠ v1.ownBlock ∧ b < w1.heap.size ∧ base ≤ w1.heap.size from ⟨by rcases hat with h | ⟨q, h, hq⟩; (rw [h]; exact HN.out.1); (rw [h]; intro e; injection e with e; have := HN.out.2.1; omega), Nat.lt_of_lt_of_le HN.out.2.1 hg.size, Nat.le_trans HN.out.2.2 hg.size⟩); clear ho hb hg hat))
      go_roundw
      case rel => exact ⟨j + 1, by omega, by go_num, ⟨by rw [ofL_step _ _ _ _ (by have := HL.out; omega), ← HNM.out, ← List.append_assoc]; exact HO1.out⟩, HB1, HR1, HN1⟩
      case measure => simp [intOf]; omega
    · go_wp2
      go_ret
      exact ⟨_, rfl, by rw [show ns = ns.take j from (List.take_of_length_le (by have := HL.out; omega)).symm]; exact HO.out, HB.out⟩
/-- One more call of 'one'. -/
theorem one_next {w W : World} {L : Value} {xs : List (ByteArray × Int × Int)} (HR : Aside0 (Kd.R kV 66 W w.heap.size (fun _ => True) L xs)) (HB : Aside0 (Below w.heap.size w W)) (c k : Int) (ns : List ByteArray) (n : Nat) (va : Array Value) (r : List (ByteArray × Int × Int)) (hn : n = ns.length) (hv : va = (ns.map Value.string).toArray) (hl : xs.length + ns.length ≤ 100) (hr : xs ++ ofL c k ns = r) :
    Calls Try.prog 39 #[L, .int .i64 c, .int .u8 k, .slice (some ⟨W.heap.size, 0, none⟩) n n] (W.alloc (.cells va 9)) fun e w' => ∃ v : Value, e = .returned v ∧ Aside0 (Kd.R kV 66 w' w.heap.size (fun _ => True) v r) ∧ Aside0 (Below w.heap.size w w') := by
  subst hn
  subst hr
  have hw : w.heap.size ≤ W.heap.size := below_size HB.out
  refine (one_calls c k W.heap.size ns.length ns.length ns w _ w.heap.size L xs (Kd.R_alloc HR.out _) (below_step HB.out (below_alloc (Below.refl _ _) _)) (Nat.le_trans hw (by simp)) (lit_strs W ns va hv (by omega)) (fun e => by have := Kd.R_lt HR.out _ e.symm; omega) (by simp) hl).mono ?_
  rintro e w' ⟨v, rfl, ho, hb⟩
  exact ⟨_, rfl, ⟨ho⟩, ⟨hb⟩⟩
set_option maxHeartbeats 1600000 in
set_option maxRecDepth 100000 in
theorem rvars1_calls (w : World) :
    Calls Try.prog 21 #[.int .i64 1] w fun e w' => ∃ v : Value, e = .returned v ∧ Aside0 (Kd.R kV 66 w' w.heap.size (fun _ => True) v (B.vars 1)) ∧ Aside0 (Below w.heap.size w w') := by
  have HR0 := Aside0.mk (Kd.R_nil kV 66 w w.heap.size (fun _ => True))
  have HB0 := Aside0.mk (Below.refl w.heap.size w)
  go_enter Try.func21, Try.ntmps21
  go_wp2_with fail
  with_reducible refine (one_next HR0 HB0 1 1 [(⟨#[83, 49]⟩ : ByteArray), (⟨#[82]⟩ : ByteArray)] _ _ [((⟨#[83, 49]⟩ : ByteArray), 1, 1), ((⟨#[82]⟩ : ByteArray), 1, 1)] ?h1 ?h2 ?h3 ?h4).mono ?_
  case h1 => rfl
  case h2 => rfl
  case h3 => decide
  case h4 => rfl
  rintro e w1 ⟨v1, rfl, HR1, HB1⟩
  go_wp2_with fail
  with_reducible refine (one_next HR1 HB1 2 1 [(⟨#[81, 49]⟩ : ByteArray)] _ _ (B.vars 1) ?h1 ?h2 ?h3 ?h4).mono ?_
  case h1 => rfl
  case h2 => rfl
  case h3 => decide
  case h4 => rfl
  rintro e w2 ⟨v2, rfl, HR2, HB2⟩
  go_wp2
  go_ret
  exact ⟨_, rfl, HR2, HB2⟩
set_option maxHeartbeats 1600000 in
set_option maxRecDepth 100000 in
theorem rvars2_calls (w : World) :
    Calls Try.prog 21 #[.int .i64 2] w fun e w' => ∃ v : Value, e = .returned v ∧ Aside0 (Kd.R kV 66 w' w.heap.size (fun _ => True) v (B.vars 2)) ∧ Aside0 (Below w.heap.size w w') := by
  have HR0 := Aside0.mk (Kd.R_nil kV 66 w w.heap.size (fun _ => True))
  have HB0 := Aside0.mk (Below.refl w.heap.size w)
  go_enter Try.func21, Try.ntmps21
  go_wp2_with fail
  with_reducible refine (one_next HR0 HB0 1 1 [(⟨#[83]⟩ : ByteArray), (⟨#[82, 49]⟩ : ByteArray)] _ _ [((⟨#[83]⟩ : ByteArray), 1, 1), ((⟨#[82, 49]⟩ : ByteArray), 1, 1)] ?h1 ?h2 ?h3 ?h4).mono ?_
  case h1 => rfl
  case h2 => rfl
  case h3 => decide
  case h4 => rfl
  rintro e w1 ⟨v1, rfl, HR1, HB1⟩
  go_wp2_with fail
  with_reducible refine (one_next HR1 HB1 2 1 [(⟨#[81, 49]⟩ : ByteArray)] _ _ (B.vars 2) ?h1 ?h2 ?h3 ?h4).mono ?_
  case h1 => rfl
  case h2 => rfl
  case h3 => decide
  case h4 => rfl
  rintro e w2 ⟨v2, rfl, HR2, HB2⟩
  go_wp2
  go_ret
  exact ⟨_, rfl, HR2, HB2⟩
set_option maxHeartbeats 1600000 in
set_option maxRecDepth 100000 in
theorem rvars3_calls (w : World) :
    Calls Try.prog 21 #[.int .i64 3] w fun e w' => ∃ v : Value, e = .returned v ∧ Aside0 (Kd.R kV 66 w' w.heap.size (fun _ => True) v (B.vars 3)) ∧ Aside0 (Below w.heap.size w w') := by
  have HR0 := Aside0.mk (Kd.R_nil kV 66 w w.heap.size (fun _ => True))
  have HB0 := Aside0.mk (Below.refl w.heap.size w)
  go_enter Try.func21, Try.ntmps21
  go_wp2_with fail
  with_reducible refine (one_next HR0 HB0 1 1 [(⟨#[67, 76, 75]⟩ : ByteArray)] _ _ [((⟨#[67, 76, 75]⟩ : ByteArray), 1, 1)] ?h1 ?h2 ?h3 ?h4).mono ?_
  case h1 => rfl
  case h2 => rfl
  case h3 => decide
  case h4 => rfl
  rintro e w1 ⟨v1, rfl, HR1, HB1⟩
  go_wp2_with fail
  with_reducible refine (one_next HR1 HB1 2 1 [(⟨#[81]⟩ : ByteArray)] _ _ [((⟨#[67, 76, 75]⟩ : ByteArray), 1, 1), ((⟨#[81]⟩ : ByteArray), 2, 1)] ?h1 ?h2 ?h3 ?h4).mono ?_
  case h1 => rfl
  case h2 => rfl
  case h3 => decide
  case h4 => rfl
  rintro e w2 ⟨v2, rfl, HR2, HB2⟩
  go_wp2_with fail
  with_reducible refine (one_next HR2 HB2 4 1 [(⟨#[77]⟩ : ByteArray)] _ _ (B.vars 3) ?h1 ?h2 ?h3 ?h4).mono ?_
  case h1 => rfl
  case h2 => rfl
  case h3 => decide
  case h4 => rfl
  rintro e w3 ⟨v3, rfl, HR3, HB3⟩
  go_wp2
  go_ret
  exact ⟨_, rfl, HR3, HB3⟩
set_option maxHeartbeats 1600000 in
set_option maxRecDepth 100000 in
theorem rvars4_calls (w : World) :
    Calls Try.prog 21 #[.int .i64 4] w fun e w' => ∃ (A : Option Addr) (c : Nat), e = .returned (.slice A 3 c) ∧ 3 ≤ c ∧ Kd.C kU w' A 3 [((⟨#[67, 76, 75]⟩ : ByteArray), 1, 1, false), ((⟨#[81]⟩ : ByteArray), 2, 1, false), ((⟨#[77]⟩ : ByteArray), 4, 1, true)] ∧ Below w.heap.size w w' := by
  have HR0 := Aside0.mk (Kd.R_nil kV 66 w w.heap.size (fun _ => True))
  have HB0 := Aside0.mk (Below.refl w.heap.size w)
  go_enter Try.func21, Try.ntmps21
  go_wp2_with fail
  with_reducible refine (one_next HR0 HB0 1 1 [(⟨#[67, 76, 75]⟩ : ByteArray)] _ _ [((⟨#[67, 76, 75]⟩ : ByteArray), 1, 1)] ?h1 ?h2 ?h3 ?h4).mono ?_
  case h1 => rfl
  case h2 => rfl
  case h3 => decide
  case h4 => rfl
  rintro e w1 ⟨v1, rfl, HR1, HB1⟩
  go_wp2_with fail
  with_reducible refine (one_next HR1 HB1 2 1 [(⟨#[81]⟩ : ByteArray)] _ _ [((⟨#[67, 76, 75]⟩ : ByteArray), 1, 1), ((⟨#[81]⟩ : ByteArray), 2, 1)] ?h1 ?h2 ?h3 ?h4).mono ?_
  case h1 => rfl
  case h2 => rfl
  case h3 => decide
  case h4 => rfl
  rintro e w2 ⟨v2, rfl, HR2, HB2⟩
  go_wp2_with fail
  with_reducible refine (one_next HR2 HB2 4 1 [(⟨#[77]⟩ : ByteArray)] _ _ (B.vars 4) ?h1 ?h2 ?h3 ?h4).mono ?_
  case h1 => rfl
  case h2 => rfl
  case h3 => decide
  case h4 => rfl
  rintro e w3 ⟨v3, rfl, HR3, HB3⟩
  obtain ⟨g, cap, rfl, hbg, hgl, cells, hblk⟩ := Kd.R_form HR3.out (by decide)
  clear hblk cells
  have HG := Aside0.mk hgl
  have hcap : 3 ≤ cap := (Kd.R_reads' HR3.out).2.1
  have HBG := Aside0.mk hbg
  clear hgl hbg
  have HR4 := Aside0.mk (Kd.R_alloc HR3.out (.cells #[.int .u8 1, .int .u64 1, .string ⟨#[]⟩] 34))
  have hu34 := Try.underlying34
  have hu66 := Try.underlying66
  obtain ⟨cs, _, hM, hcell, hfr⟩ := Kd.R_elem HR4.out (⟨#[]⟩, 0, 0) 2 (by omega) (by decide)
  have hM' : cs = vcells ((⟨#[77]⟩ : ByteArray), 4, 1) := hM
  subst hM'
  have hx : (w3.alloc (.cells #[.int .u8 1, .int .u64 1, .string ⟨#[]⟩] 34)).cell? ⟨g, 44, none⟩ = some (.slice none 0 0) := hcell 12 _ rfl
  have hf : (w3.alloc (.cells #[.int .u8 1, .int .u64 1, .string ⟨#[]⟩] 34)).frozen? ⟨g, 44, none⟩ = false := hfr 12
  clear hcell hfr hM
  go_wp2
  go_ret
  refine ⟨_, _, rfl, hcap, fall_row (w := w) HR4.out (by have := HG.out; simp; omega) ⟨w3.heap.size, 0, none⟩ (by have := HG.out; show w3.heap.size ≠ g; omega) (lit_one w3 ⟨1, 1, ⟨#[]⟩⟩), ?_⟩
  exact (below_alloc HB3.out _).setCell HBG.out _
set_option maxHeartbeats 1600000 in
set_option maxRecDepth 100000 in
theorem rvars5_calls (w : World) :
    Calls Try.prog 21 #[.int .i64 5] w fun e w' => ∃ v : Value, e = .returned v ∧ Aside0 (Kd.R kV 66 w' w.heap.size (fun _ => True) v (B.vars 5)) ∧ Aside0 (Below w.heap.size w w') := by
  have HR0 := Aside0.mk (Kd.R_nil kV 66 w w.heap.size (fun _ => True))
  have HB0 := Aside0.mk (Below.refl w.heap.size w)
  go_enter Try.func21, Try.ntmps21
  go_wp2_with fail
  with_reducible refine (one_next HR0 HB0 1 1 [(⟨#[67, 85]⟩ : ByteArray), (⟨#[82]⟩ : ByteArray)] _ _ [((⟨#[67, 85]⟩ : ByteArray), 1, 1), ((⟨#[82]⟩ : ByteArray), 1, 1)] ?h1 ?h2 ?h3 ?h4).mono ?_
  case h1 => rfl
  case h2 => rfl
  case h3 => decide
  case h4 => rfl
  rintro e w1 ⟨v1, rfl, HR1, HB1⟩
  go_wp2_with fail
  with_reducible refine (one_next HR1 HB1 1 3 [(⟨#[80, 86]⟩ : ByteArray)] _ _ [((⟨#[67, 85]⟩ : ByteArray), 1, 1), ((⟨#[82]⟩ : ByteArray), 1, 1), ((⟨#[80, 86]⟩ : ByteArray), 1, 3)] ?h1 ?h2 ?h3 ?h4).mono ?_
  case h1 => rfl
  case h2 => rfl
  case h3 => decide
  case h4 => rfl
  rintro e w2 ⟨v2, rfl, HR2, HB2⟩
  go_wp2_with fail
  with_reducible refine (one_next HR2 HB2 2 1 [(⟨#[81]⟩ : ByteArray)] _ _ [((⟨#[67, 85]⟩ : ByteArray), 1, 1), ((⟨#[82]⟩ : ByteArray), 1, 1), ((⟨#[80, 86]⟩ : ByteArray), 1, 3), ((⟨#[81]⟩ : ByteArray), 2, 1)] ?h1 ?h2 ?h3 ?h4).mono ?_
  case h1 => rfl
  case h2 => rfl
  case h3 => decide
  case h4 => rfl
  rintro e w3 ⟨v3, rfl, HR3, HB3⟩
  go_wp2_with fail
  with_reducible refine (one_next HR3 HB3 2 3 [(⟨#[67, 86]⟩ : ByteArray)] _ _ [((⟨#[67, 85]⟩ : ByteArray), 1, 1), ((⟨#[82]⟩ : ByteArray), 1, 1), ((⟨#[80, 86]⟩ : ByteArray), 1, 3), ((⟨#[81]⟩ : ByteArray), 2, 1), ((⟨#[67, 86]⟩ : ByteArray), 2, 3)] ?h1 ?h2 ?h3 ?h4).mono ?_
  case h1 => rfl
  case h2 => rfl
  case h3 => decide
  case h4 => rfl
  rintro e w4 ⟨v4, rfl, HR4, HB4⟩
  go_wp2_with fail
  with_reducible refine (one_next HR4 HB4 4 1 [(⟨#[77]⟩ : ByteArray)] _ _ (B.vars 5) ?h1 ?h2 ?h3 ?h4).mono ?_
  case h1 => rfl
  case h2 => rfl
  case h3 => decide
  case h4 => rfl
  rintro e w5 ⟨v5, rfl, HR5, HB5⟩
  go_wp2
  go_ret
  exact ⟨_, rfl, HR5, HB5⟩
set_option maxHeartbeats 1600000 in
set_option maxRecDepth 100000 in
theorem rvars6_calls (w : World) :
    Calls Try.prog 21 #[.int .i64 6] w fun e w' => ∃ v : Value, e = .returned v ∧ Aside0 (Kd.R kV 66 w' w.heap.size (fun _ => True) v (B.vars 6)) ∧ Aside0 (Below w.heap.size w w') := by
  have HR0 := Aside0.mk (Kd.R_nil kV 66 w w.heap.size (fun _ => True))
  have HB0 := Aside0.mk (Below.refl w.heap.size w)
  go_enter Try.func21, Try.ntmps21
  go_wp2_with fail
  with_reducible refine (one_next HR0 HB0 1 1 [(⟨#[67, 68]⟩ : ByteArray), (⟨#[76, 68]⟩ : ByteArray)] _ _ [((⟨#[67, 68]⟩ : ByteArray), 1, 1), ((⟨#[76, 68]⟩ : ByteArray), 1, 1)] ?h1 ?h2 ?h3 ?h4).mono ?_
  case h1 => rfl
  case h2 => rfl
  case h3 => decide
  case h4 => rfl
  rintro e w1 ⟨v1, rfl, HR1, HB1⟩
  go_wp2_with fail
  with_reducible refine (one_next HR1 HB1 1 3 [(⟨#[80, 86]⟩ : ByteArray)] _ _ [((⟨#[67, 68]⟩ : ByteArray), 1, 1), ((⟨#[76, 68]⟩ : ByteArray), 1, 1), ((⟨#[80, 86]⟩ : ByteArray), 1, 3)] ?h1 ?h2 ?h3 ?h4).mono ?_
  case h1 => rfl
  case h2 => rfl
  case h3 => decide
  case h4 => rfl
  rintro e w2 ⟨v2, rfl, HR2, HB2⟩
  go_wp2_with fail
  with_reducible refine (one_next HR2 HB2 2 1 [(⟨#[81]⟩ : ByteArray)] _ _ [((⟨#[67, 68]⟩ : ByteArray), 1, 1), ((⟨#[76, 68]⟩ : ByteArray), 1, 1), ((⟨#[80, 86]⟩ : ByteArray), 1, 3), ((⟨#[81]⟩ : ByteArray), 2, 1)] ?h1 ?h2 ?h3 ?h4).mono ?_
  case h1 => rfl
  case h2 => rfl
  case h3 => decide
  case h4 => rfl
  rintro e w3 ⟨v3, rfl, HR3, HB3⟩
  go_wp2_with fail
  with_reducible refine (one_next HR3 HB3 2 3 [(⟨#[67, 86]⟩ : ByteArray)] _ _ [((⟨#[67, 68]⟩ : ByteArray), 1, 1), ((⟨#[76, 68]⟩ : ByteArray), 1, 1), ((⟨#[80, 86]⟩ : ByteArray), 1, 3), ((⟨#[81]⟩ : ByteArray), 2, 1), ((⟨#[67, 86]⟩ : ByteArray), 2, 3)] ?h1 ?h2 ?h3 ?h4).mono ?_
  case h1 => rfl
  case h2 => rfl
  case h3 => decide
  case h4 => rfl
  rintro e w4 ⟨v4, rfl, HR4, HB4⟩
  go_wp2_with fail
  with_reducible refine (one_next HR4 HB4 4 1 [(⟨#[77]⟩ : ByteArray)] _ _ (B.vars 6) ?h1 ?h2 ?h3 ?h4).mono ?_
  case h1 => rfl
  case h2 => rfl
  case h3 => decide
  case h4 => rfl
  rintro e w5 ⟨v5, rfl, HR5, HB5⟩
  go_wp2
  go_ret
  exact ⟨_, rfl, HR5, HB5⟩
set_option maxHeartbeats 1600000 in
set_option maxRecDepth 100000 in
theorem rvars7_calls (w : World) :
    Calls Try.prog 21 #[.int .i64 7] w fun e w' => ∃ v : Value, e = .returned v ∧ Aside0 (Kd.R kV 66 w' w.heap.size (fun _ => True) v (B.vars 7)) ∧ Aside0 (Below w.heap.size w w') := by
  have HR0 := Aside0.mk (Kd.R_nil kV 66 w w.heap.size (fun _ => True))
  have HB0 := Aside0.mk (Below.refl w.heap.size w)
  go_enter Try.func21, Try.ntmps21
  go_wp2_with fail
  with_reducible refine (one_next HR0 HB0 1 1 [(⟨#[67, 85]⟩ : ByteArray), (⟨#[67, 68]⟩ : ByteArray), (⟨#[82]⟩ : ByteArray), (⟨#[76, 68]⟩ : ByteArray)] _ _ [((⟨#[67, 85]⟩ : ByteArray), 1, 1), ((⟨#[67, 68]⟩ : ByteArray), 1, 1), ((⟨#[82]⟩ : ByteArray), 1, 1), ((⟨#[76, 68]⟩ : ByteArray), 1, 1)] ?h1 ?h2 ?h3 ?h4).mono ?_
  case h1 => rfl
  case h2 => rfl
  case h3 => decide
  case h4 => rfl
  rintro e w1 ⟨v1, rfl, HR1, HB1⟩
  go_wp2_with fail
  with_reducible refine (one_next HR1 HB1 1 3 [(⟨#[80, 86]⟩ : ByteArray)] _ _ [((⟨#[67, 85]⟩ : ByteArray), 1, 1), ((⟨#[67, 68]⟩ : ByteArray), 1, 1), ((⟨#[82]⟩ : ByteArray), 1, 1), ((⟨#[76, 68]⟩ : ByteArray), 1, 1), ((⟨#[80, 86]⟩ : ByteArray), 1, 3)] ?h1 ?h2 ?h3 ?h4).mono ?_
  case h1 => rfl
  case h2 => rfl
  case h3 => decide
  case h4 => rfl
  rintro e w2 ⟨v2, rfl, HR2, HB2⟩
  go_wp2_with fail
  with_reducible refine (one_next HR2 HB2 2 1 [(⟨#[81, 85]⟩ : ByteArray), (⟨#[81, 68]⟩ : ByteArray)] _ _ [((⟨#[67, 85]⟩ : ByteArray), 1, 1), ((⟨#[67, 68]⟩ : ByteArray), 1, 1), ((⟨#[82]⟩ : ByteArray), 1, 1), ((⟨#[76, 68]⟩ : ByteArray), 1, 1), ((⟨#[80, 86]⟩ : ByteArray), 1, 3), ((⟨#[81, 85]⟩ : ByteArray), 2, 1), ((⟨#[81, 68]⟩ : ByteArray), 2, 1)] ?h1 ?h2 ?h3 ?h4).mono ?_
  case h1 => rfl
  case h2 => rfl
  case h3 => decide
  case h4 => rfl
  rintro e w3 ⟨v3, rfl, HR3, HB3⟩
  go_wp2_with fail
  with_reducible refine (one_next HR3 HB3 2 3 [(⟨#[67, 86]⟩ : ByteArray)] _ _ [((⟨#[67, 85]⟩ : ByteArray), 1, 1), ((⟨#[67, 68]⟩ : ByteArray), 1, 1), ((⟨#[82]⟩ : ByteArray), 1, 1), ((⟨#[76, 68]⟩ : ByteArray), 1, 1), ((⟨#[80, 86]⟩ : ByteArray), 1, 3), ((⟨#[81, 85]⟩ : ByteArray), 2, 1), ((⟨#[81, 68]⟩ : ByteArray), 2, 1), ((⟨#[67, 86]⟩ : ByteArray), 2, 3)] ?h1 ?h2 ?h3 ?h4).mono ?_
  case h1 => rfl
  case h2 => rfl
  case h3 => decide
  case h4 => rfl
  rintro e w4 ⟨v4, rfl, HR4, HB4⟩
  go_wp2_with fail
  with_reducible refine (one_next HR4 HB4 4 1 [(⟨#[77]⟩ : ByteArray), (⟨#[78]⟩ : ByteArray)] _ _ (B.vars 7) ?h1 ?h2 ?h3 ?h4).mono ?_
  case h1 => rfl
  case h2 => rfl
  case h3 => decide
  case h4 => rfl
  rintro e w5 ⟨v5, rfl, HR5, HB5⟩
  go_wp2
  go_ret
  exact ⟨_, rfl, HR5, HB5⟩
set_option maxHeartbeats 1600000 in
set_option maxRecDepth 100000 in
theorem rvars8_calls (w : World) :
    Calls Try.prog 21 #[.int .i64 8] w fun e w' => ∃ v : Value, e = .returned v ∧ Aside0 (Kd.R kV 66 w' w.heap.size (fun _ => True) v (B.vars 8)) ∧ Aside0 (Below w.heap.size w w') := by
  have HR0 := Aside0.mk (Kd.R_nil kV 66 w w.heap.size (fun _ => True))
  have HB0 := Aside0.mk (Below.refl w.heap.size w)
  go_enter Try.func21, Try.ntmps21
  go_wp2_with fail
  with_reducible refine (one_next HR0 HB0 1 1 [(⟨#[73, 78]⟩ : ByteArray)] _ _ [((⟨#[73, 78]⟩ : ByteArray), 1, 1)] ?h1 ?h2 ?h3 ?h4).mono ?_
  case h1 => rfl
  case h2 => rfl
  case h3 => decide
  case h4 => rfl
  rintro e w1 ⟨v1, rfl, HR1, HB1⟩
  go_wp2_with fail
  with_reducible refine (one_next HR1 HB1 1 14 [(⟨#[80, 84]⟩ : ByteArray)] _ _ [((⟨#[73, 78]⟩ : ByteArray), 1, 1), ((⟨#[80, 84]⟩ : ByteArray), 1, 14)] ?h1 ?h2 ?h3 ?h4).mono ?_
  case h1 => rfl
  case h2 => rfl
  case h3 => decide
  case h4 => rfl
  rintro e w2 ⟨v2, rfl, HR2, HB2⟩
  go_wp2_with fail
  with_reducible refine (one_next HR2 HB2 2 1 [(⟨#[81]⟩ : ByteArray)] _ _ [((⟨#[73, 78]⟩ : ByteArray), 1, 1), ((⟨#[80, 84]⟩ : ByteArray), 1, 14), ((⟨#[81]⟩ : ByteArray), 2, 1)] ?h1 ?h2 ?h3 ?h4).mono ?_
  case h1 => rfl
  case h2 => rfl
  case h3 => decide
  case h4 => rfl
  rintro e w3 ⟨v3, rfl, HR3, HB3⟩
  go_wp2_with fail
  with_reducible refine (one_next HR3 HB3 2 14 [(⟨#[69, 84]⟩ : ByteArray)] _ _ [((⟨#[73, 78]⟩ : ByteArray), 1, 1), ((⟨#[80, 84]⟩ : ByteArray), 1, 14), ((⟨#[81]⟩ : ByteArray), 2, 1), ((⟨#[69, 84]⟩ : ByteArray), 2, 14)] ?h1 ?h2 ?h3 ?h4).mono ?_
  case h1 => rfl
  case h2 => rfl
  case h3 => decide
  case h4 => rfl
  rintro e w4 ⟨v4, rfl, HR4, HB4⟩
  go_wp2_with fail
  with_reducible refine (one_next HR4 HB4 4 1 [(⟨#[77]⟩ : ByteArray)] _ _ [((⟨#[73, 78]⟩ : ByteArray), 1, 1), ((⟨#[80, 84]⟩ : ByteArray), 1, 14), ((⟨#[81]⟩ : ByteArray), 2, 1), ((⟨#[69, 84]⟩ : ByteArray), 2, 14), ((⟨#[77]⟩ : ByteArray), 4, 1)] ?h1 ?h2 ?h3 ?h4).mono ?_
  case h1 => rfl
  case h2 => rfl
  case h3 => decide
  case h4 => rfl
  rintro e w5 ⟨v5, rfl, HR5, HB5⟩
  go_wp2_with fail
  with_reducible refine (one_next HR5 HB5 4 14 [(⟨#[83]⟩ : ByteArray)] _ _ (B.vars 8) ?h1 ?h2 ?h3 ?h4).mono ?_
  case h1 => rfl
  case h2 => rfl
  case h3 => decide
  case h4 => rfl
  rintro e w6 ⟨v6, rfl, HR6, HB6⟩
  go_wp2
  go_ret
  exact ⟨_, rfl, HR6, HB6⟩
set_option maxHeartbeats 1600000 in
set_option maxRecDepth 100000 in
theorem rvars9_calls (w : World) :
    Calls Try.prog 21 #[.int .i64 9] w fun e w' => ∃ v : Value, e = .returned v ∧ Aside0 (Kd.R kV 66 w' w.heap.size (fun _ => True) v (B.vars 9)) ∧ Aside0 (Below w.heap.size w w') := by
  have HR0 := Aside0.mk (Kd.R_nil kV 66 w w.heap.size (fun _ => True))
  have HB0 := Aside0.mk (Below.refl w.heap.size w)
  go_enter Try.func21, Try.ntmps21
  go_wp2_with fail
  with_reducible refine (one_next HR0 HB0 1 1 [(⟨#[73, 78]⟩ : ByteArray)] _ _ [((⟨#[73, 78]⟩ : ByteArray), 1, 1)] ?h1 ?h2 ?h3 ?h4).mono ?_
  case h1 => rfl
  case h2 => rfl
  case h3 => decide
  case h4 => rfl
  rintro e w1 ⟨v1, rfl, HR1, HB1⟩
  go_wp2_with fail
  with_reducible refine (one_next HR1 HB1 1 14 [(⟨#[80, 84]⟩ : ByteArray)] _ _ [((⟨#[73, 78]⟩ : ByteArray), 1, 1), ((⟨#[80, 84]⟩ : ByteArray), 1, 14)] ?h1 ?h2 ?h3 ?h4).mono ?_
  case h1 => rfl
  case h2 => rfl
  case h3 => decide
  case h4 => rfl
  rintro e w2 ⟨v2, rfl, HR2, HB2⟩
  go_wp2_with fail
  with_reducible refine (one_next HR2 HB2 2 1 [(⟨#[81]⟩ : ByteArray)] _ _ [((⟨#[73, 78]⟩ : ByteArray), 1, 1), ((⟨#[80, 84]⟩ : ByteArray), 1, 14), ((⟨#[81]⟩ : ByteArray), 2, 1)] ?h1 ?h2 ?h3 ?h4).mono ?_
  case h1 => rfl
  case h2 => rfl
  case h3 => decide
  case h4 => rfl
  rintro e w3 ⟨v3, rfl, HR3, HB3⟩
  go_wp2_with fail
  with_reducible refine (one_next HR3 HB3 2 14 [(⟨#[69, 84]⟩ : ByteArray)] _ _ [((⟨#[73, 78]⟩ : ByteArray), 1, 1), ((⟨#[80, 84]⟩ : ByteArray), 1, 14), ((⟨#[81]⟩ : ByteArray), 2, 1), ((⟨#[69, 84]⟩ : ByteArray), 2, 14)] ?h1 ?h2 ?h3 ?h4).mono ?_
  case h1 => rfl
  case h2 => rfl
  case h3 => decide
  case h4 => rfl
  rintro e w4 ⟨v4, rfl, HR4, HB4⟩
  go_wp2_with fail
  with_reducible refine (one_next HR4 HB4 4 1 [(⟨#[77]⟩ : ByteArray)] _ _ [((⟨#[73, 78]⟩ : ByteArray), 1, 1), ((⟨#[80, 84]⟩ : ByteArray), 1, 14), ((⟨#[81]⟩ : ByteArray), 2, 1), ((⟨#[69, 84]⟩ : ByteArray), 2, 14), ((⟨#[77]⟩ : ByteArray), 4, 1)] ?h1 ?h2 ?h3 ?h4).mono ?_
  case h1 => rfl
  case h2 => rfl
  case h3 => decide
  case h4 => rfl
  rintro e w5 ⟨v5, rfl, HR5, HB5⟩
  go_wp2_with fail
  with_reducible refine (one_next HR5 HB5 4 14 [(⟨#[83]⟩ : ByteArray)] _ _ (B.vars 9) ?h1 ?h2 ?h3 ?h4).mono ?_
  case h1 => rfl
  case h2 => rfl
  case h3 => decide
  case h4 => rfl
  rintro e w6 ⟨v6, rfl, HR6, HB6⟩
  go_wp2
  go_ret
  exact ⟨_, rfl, HR6, HB6⟩
set_option maxHeartbeats 1600000 in
set_option maxRecDepth 100000 in
theorem rvars10_calls (w : World) :
    Calls Try.prog 21 #[.int .i64 10] w fun e w' => ∃ v : Value, e = .returned v ∧ Aside0 (Kd.R kV 66 w' w.heap.size (fun _ => True) v (B.vars 10)) ∧ Aside0 (Below w.heap.size w w') := by
  have HR0 := Aside0.mk (Kd.R_nil kV 66 w w.heap.size (fun _ => True))
  have HB0 := Aside0.mk (Below.refl w.heap.size w)
  go_enter Try.func21, Try.ntmps21
  go_wp2_with fail
  with_reducible refine (one_next HR0 HB0 1 1 [(⟨#[73, 78]⟩ : ByteArray)] _ _ [((⟨#[73, 78]⟩ : ByteArray), 1, 1)] ?h1 ?h2 ?h3 ?h4).mono ?_
  case h1 => rfl
  case h2 => rfl
  case h3 => decide
  case h4 => rfl
  rintro e w1 ⟨v1, rfl, HR1, HB1⟩
  go_wp2_with fail
  with_reducible refine (one_next HR1 HB1 1 14 [(⟨#[80, 84]⟩ : ByteArray)] _ _ [((⟨#[73, 78]⟩ : ByteArray), 1, 1), ((⟨#[80, 84]⟩ : ByteArray), 1, 14)] ?h1 ?h2 ?h3 ?h4).mono ?_
  case h1 => rfl
  case h2 => rfl
  case h3 => decide
  case h4 => rfl
  rintro e w2 ⟨v2, rfl, HR2, HB2⟩
  go_wp2_with fail
  with_reducible refine (one_next HR2 HB2 2 1 [(⟨#[81]⟩ : ByteArray)] _ _ [((⟨#[73, 78]⟩ : ByteArray), 1, 1), ((⟨#[80, 84]⟩ : ByteArray), 1, 14), ((⟨#[81]⟩ : ByteArray), 2, 1)] ?h1 ?h2 ?h3 ?h4).mono ?_
  case h1 => rfl
  case h2 => rfl
  case h3 => decide
  case h4 => rfl
  rintro e w3 ⟨v3, rfl, HR3, HB3⟩
  go_wp2_with fail
  with_reducible refine (one_next HR3 HB3 2 14 [(⟨#[69, 84]⟩ : ByteArray)] _ _ [((⟨#[73, 78]⟩ : ByteArray), 1, 1), ((⟨#[80, 84]⟩ : ByteArray), 1, 14), ((⟨#[81]⟩ : ByteArray), 2, 1), ((⟨#[69, 84]⟩ : ByteArray), 2, 14)] ?h1 ?h2 ?h3 ?h4).mono ?_
  case h1 => rfl
  case h2 => rfl
  case h3 => decide
  case h4 => rfl
  rintro e w4 ⟨v4, rfl, HR4, HB4⟩
  go_wp2_with fail
  with_reducible refine (one_next HR4 HB4 4 1 [(⟨#[77]⟩ : ByteArray)] _ _ [((⟨#[73, 78]⟩ : ByteArray), 1, 1), ((⟨#[80, 84]⟩ : ByteArray), 1, 14), ((⟨#[81]⟩ : ByteArray), 2, 1), ((⟨#[69, 84]⟩ : ByteArray), 2, 14), ((⟨#[77]⟩ : ByteArray), 4, 1)] ?h1 ?h2 ?h3 ?h4).mono ?_
  case h1 => rfl
  case h2 => rfl
  case h3 => decide
  case h4 => rfl
  rintro e w5 ⟨v5, rfl, HR5, HB5⟩
  go_wp2_with fail
  with_reducible refine (one_next HR5 HB5 4 14 [(⟨#[83]⟩ : ByteArray)] _ _ (B.vars 10) ?h1 ?h2 ?h3 ?h4).mono ?_
  case h1 => rfl
  case h2 => rfl
  case h3 => decide
  case h4 => rfl
  rintro e w6 ⟨v6, rfl, HR6, HB6⟩
  go_wp2
  go_ret
  exact ⟨_, rfl, HR6, HB6⟩
set_option maxHeartbeats 1600000 in
set_option maxRecDepth 100000 in
theorem rvarsN_calls (k : Int) (w : World) (h : ¬ (1 ≤ k ∧ k ≤ 10)) :
    Calls Try.prog 21 #[.int .i64 k] w fun e w' => e = .returned (.slice none 0 0) ∧ w = w' := by
  have h1 : (k == 1) = false := beq_eq_false_iff_ne.mpr (by omega)
  have h2 : (k == 2) = false := beq_eq_false_iff_ne.mpr (by omega)
  have h3 : (k == 3) = false := beq_eq_false_iff_ne.mpr (by omega)
  have h4 : (k == 4) = false := beq_eq_false_iff_ne.mpr (by omega)
  have h5 : (k == 5) = false := beq_eq_false_iff_ne.mpr (by omega)
  have h6 : (k == 6) = false := beq_eq_false_iff_ne.mpr (by omega)
  have h7 : (k == 7) = false := beq_eq_false_iff_ne.mpr (by omega)
  have h8 : (k == 8) = false := beq_eq_false_iff_ne.mpr (by omega)
  have h9 : (k == 9) = false := beq_eq_false_iff_ne.mpr (by omega)
  have h10 : (k == 10) = false := beq_eq_false_iff_ne.mpr (by omega)
  go_enter Try.func21, Try.ntmps21
  go_wp2
  go_ret
  exact ⟨rfl, rfl⟩
theorem rvars_calls (k : Int) (w : World) :
    Calls Try.prog 21 #[.int .i64 k] w fun e w' => ∃ (A : Option Addr) (c : Nat), e = .returned (.slice A (B.varsU k).length c) ∧ (B.varsU k).length ≤ c ∧ Kd.C kU w' A (B.varsU k).length (B.varsU k) ∧ Below w.heap.size w w' := by
  have fin : ∀ (q : Int), Calls Try.prog 21 #[.int .i64 q] w (fun e w' => ∃ v : Value, e = .returned v ∧ Aside0 (Kd.R kV 66 w' w.heap.size (fun _ => True) v (B.vars q)) ∧ Aside0 (Below w.heap.size w w')) → (B.varsU q = (B.vars q).map fun x => (x.1, x.2.1, x.2.2, false)) →
      Calls Try.prog 21 #[.int .i64 q] w fun e w' => ∃ (A : Option Addr) (c : Nat), e = .returned (.slice A (B.varsU q).length c) ∧ (B.varsU q).length ≤ c ∧ Kd.C kU w' A (B.varsU q).length (B.varsU q) ∧ Below w.heap.size w w' := by
    intro q hc hq
    refine hc.mono ?_
    rintro e w' ⟨v, rfl, HR, HB⟩
    obtain ⟨A, c, rfl, hle, hC⟩ := own_len3 HR.out
    rw [hq, List.length_map]
    exact ⟨A, c, rfl, hle, hC, HB.out⟩
  by_cases hk : 1 ≤ k ∧ k ≤ 10
  · have h : k = 1 ∨ k = 2 ∨ k = 3 ∨ k = 4 ∨ k = 5 ∨ k = 6 ∨ k = 7 ∨ k = 8 ∨ k = 9 ∨ k = 10 := by omega
    rcases h with rfl | rfl | rfl | rfl | rfl | rfl | rfl | rfl | rfl | rfl
    · exact fin 1 (rvars1_calls w) rfl
    · exact fin 2 (rvars2_calls w) rfl
    · exact fin 3 (rvars3_calls w) rfl
    · exact rvars4_calls w
    · exact fin 5 (rvars5_calls w) rfl
    · exact fin 6 (rvars6_calls w) rfl
    · exact fin 7 (rvars7_calls w) rfl
    · exact fin 8 (rvars8_calls w) rfl
    · exact fin 9 (rvars9_calls w) rfl
    · exact fin 10 (rvars10_calls w) rfl
  · refine (rvarsN_calls k w hk).mono ?_
    rintro e w' ⟨rfl, rfl⟩
    have h0 : B.varsU k = [] := by
      unfold B.varsU B.vars
      simp only [show ¬ k = 1 by omega, show ¬ k = 2 by omega, show ¬ k = 3 by omega, show ¬ k = 4 by omega, show ¬ k = 5 by omega, show ¬ k = 6 by omega, show ¬ k = 7 by omega, show ¬ k = 8 by omega, show ¬ k = 9 by omega, show ¬ k = 10 by omega, if_false, List.map_nil]
    rw [h0]
    exact ⟨none, 0, rfl, Nat.le_refl _, Kd.C_nil _ _, Below.refl _ _⟩



end Go.Proofs.Ytfadafgnahhmdaa.X

