import Derived.Test.YtfadafgnahhmdaaBase
import Derived.Test.YtfadafgnahhmdaaEx2
import Derived.WalkLawsBesides
namespace Go.Proofs.Ytfadafgnahhmdaa.X
open Go.RowKit Go.Proofs.YtfadafgnahhmdaaW.PrintWords Go.Proofs.YtfadafgnahhmdaaW.PrintLast Go.Proofs.YtfadafgnahhmdaaW.PrintMore Go.Proofs.Ytfadafgnahhmdaa.E
attribute [local go_sem] max2_int min2_int max_two min_two max_three min_three max_four min_four
set_option linter.unusedVariables false
set_option linter.unusedSimpArgs false

/-! ### Rows of variables without an initial value: name, class, kind -/
def vcells (x : ByteArray × Int × Int) : List Value :=
  [.string x.1, .int .i64 0, .int .i64 x.2.1, .int .u8 x.2.2, .bool false, .int .i64 0, .int .i64 0, .int .i64 0, .bool false, .int .i64 0, .int .i64 0, .string ⟨#[]⟩, .slice none 0 0, .bool false, .bool false, .string ⟨#[]⟩]
def kV : Kd (ByteArray × Int × Int) where
  sz := 16
  E := []
  K := fun _ x cs => cs = vcells x
  M := fun _ _ _ x cs => cs = vcells x
  K_len := by rintro w x cs rfl; rfl
  K_one := by rintro w x cs rfl u hu; simp only [vcells, List.mem_cons, List.not_mem_nil, or_false] at hu; rcases hu with rfl | rfl | rfl | rfl | rfl | rfl | rfl | rfl | rfl | rfl | rfl | rfl | rfl | rfl | rfl | rfl <;> rfl
  K_below := fun _ h => h
  K_of_M := fun h => h
  M_mono := fun _ h => h
  M_bound := fun h => h
  M_move := fun _ h => h
  M_lower := fun _ h => h
theorem kV_E : kV.E = [] := rfl
theorem info66 : (Try.prog.info? 66).map (fun i => (i.zero, i.size, i.bytes)) = some (some (.agg #[(.string ⟨#[]⟩), (.int .i64 0), (.int .i64 0), (.int .u8 0), (.bool false), (.int .i64 0), (.int .i64 0), (.int .i64 0), (.bool false), (.int .i64 0), (.int .i64 0), (.string ⟨#[]⟩), (.slice none 0 0), (.bool false), (.bool false), (.string ⟨#[]⟩)]), 16, 152) := by kernel_rfl
theorem kV_sz : kV.sz = 16 := rfl
def ofL (c k : Int) (ns : List ByteArray) : List (ByteArray × Int × Int) := ns.map fun n => (n, c, k)
theorem ofL_step (c k : Int) (ns : List ByteArray) (j : Nat) (h : j < ns.length) : ofL c k (ns.take (j + 1)) = ofL c k (ns.take j) ++ [(ns.getD j ByteArray.empty, c, k)] := by
  unfold ofL
  rw [List.take_succ_eq_append_getElem h, List.map_append, List.getD_eq_getElem?_getD, List.getElem?_eq_getElem h]
  rfl
set_option maxHeartbeats 800000 in
set_option maxRecDepth 100000 in
theorem of_calls (c k : Int) (A : Option Addr) (n cp : Nat) (ns : List ByteArray) (w : World) (hr : Kd.C Kd.string w A n ns) (hn : n ≤ 100) :
    Calls Try.prog 37 #[.int .i64 c, .int .u8 k, .slice A n cp] w fun e w' => ∃ v : Value, e = .returned v ∧ Kd.R kV 66 w' w.heap.size (fun _ => True) v (ofL c k ns) ∧ Below w.heap.size w w' := by
  have hu64 := Try.underlying64
  have hu66 := Try.underlying66
  have hl : ns.length = n := hr.1
  have HR := Aside0.mk hr
  have HL := Aside0.mk hl
  clear hl hr
  go_enter Try.func37, Try.ntmps37
  go_wp2
  go_loopw [7, 12] (fun v i wr => ∃ j : Nat, j ≤ n ∧ i = .int .i64 j ∧ Aside0 (Kd.R kV 66 wr w.heap.size (fun _ => True) v (ofL c k (ns.take j))) ∧ Aside0 (Below w.heap.size w wr)) (fun _ i _ => n - (intOf i).toNat)
  case atStart => exact ⟨0, Nat.zero_le _, rfl, ⟨Kd.R_nil _ _ _ _ _⟩, ⟨Below.refl _ _⟩⟩
  case round =>
    obtain ⟨j, hj, rfl, HO, HB⟩ := hrel
    by_cases hlt : j < n
    · obtain ⟨ad, cs, rfl, _, hK, hcell⟩ := Kd.C_get HR.out ByteArray.empty (j : Int) (by omega) (by omega)
      have hc0 := hcell 0 _ (by rw [show cs = [Value.string (ns.getD j ByteArray.empty)] from hK]; rfl)
      rw [show Kd.string.sz = 1 from rfl, Nat.mul_one, Nat.add_zero, Int.toNat_natCast] at hc0
      replace hc0 := (HB.out.cell (World.block_lt_of_cell? w _ hc0)).trans hc0
      have hx0 : wr.cell? (ad.add j) = some (Value.string (ns.getD j ByteArray.empty)) := hc0
      obtain ⟨nm, hnm⟩ : ∃ nm, nm = ns.getD j ByteArray.empty := ⟨_, rfl⟩
      rw [← hnm] at hx0
      have HN := Aside0.mk hnm
      clear hnm hc0 hcell hK
      have hb1 : (0 ≤ (j : Int)) = True := eq_true (by omega)
      have hb2 : ((j : Int) < (n : Int)) = True := eq_true (by omega)
      go_wp2_with (first | (at_builtin; refine Kd.R_append kV (w0 := w) w.heap.size rfl (.tmp 16) (.tmp 22) 27 66 _ 152 rfl Try.underlying27 info66 rfl (by decide) (by omega) u7 (ofL c k (ns.take j)) (nm, c, k) (vcells (nm, c, k)) (fun _ => True) (fun _ => False) rfl rfl rfl (fun _ h => h.elim) (fun _ _ => trivial) HO.out HB.out HB.out.size ?aS ?_; (case aS => unfold ofL; rw [List.length_map, List.length_take]; omega); intro v1 w1 ho hb hg hat; have HO1 := Aside0.mk ho; have HB1 := Aside0.mk hb; clear ho hb hg hat))
      go_roundw
      case rel => exact ⟨j + 1, by omega, by go_num, ⟨by rw [ofL_step _ _ _ _ (by have := HL.out; omega), ← HN.out]; exact HO1.out⟩, HB1⟩
      case measure => simp [intOf]; omega
    · go_wp2
      go_ret
      exact ⟨_, rfl, by rw [show ns = ns.take j from (List.take_of_length_le (by have := HL.out; omega)).symm]; exact HO.out, HB.out⟩

/-! ### Grow of a nil slice, Concat -/
set_option maxHeartbeats 800000 in
set_option maxRecDepth 100000 in
theorem grow_calls (m : Int) (w : World) (h0 : 0 ≤ m) (h1 : m ≤ 100) :
    Calls Try.prog 47 #[.slice none 0 0, .int .i64 m] w fun e w' => ∃ v : Value, e = .returned v ∧ Kd.R kV 66 w' w.heap.size (fun _ => True) v [] ∧ Below w.heap.size w w' := by
  by_cases hm : 0 < m
  · go_enter Try.func47, Try.ntmps47
    go_wp2_with (first | (at_builtin; refine Kd.R_append_zeros kV (w0 := w) w.heap.size rfl (.tmp 20) (.tmp 21) 27 3 66 _ 152 rfl Try.underlying27 Try.underlying3 info66 rfl (by decide) (by omega) (.slice none 0 0) [] (⟨#[]⟩, 0, 0) m (fun _ => True) rfl rfl rfl (fun _ _ => trivial) (Kd.R_nil _ _ _ _ _) ?a0 (Below.refl _ _) (Nat.le_refl _) ?aS ?_; (case a0 => assumption); (case aS => rw [List.length_nil]; omega); intro v1 w1 ho hb hg hat; obtain ⟨A1, c1, hv1⟩ := Kd.R_slice ho; subst hv1; have HO1 := Aside0.mk ho; have HB1 := Aside0.mk hb; clear ho hb hg hat))
    go_ret
    exact ⟨_, rfl, by have h := Kd.R_take HO1.out (m := 0) (Nat.zero_le _); simpa using h, HB1.out⟩
  · have hm0 : m = 0 := by omega
    subst hm0
    go_enter Try.func47, Try.ntmps47
    go_wp2
    go_ret
    exact ⟨_, rfl, Kd.R_nil _ _ _ _ _, Below.refl _ _⟩
/-- The sum of the lists' lengths. -/
def lens (ll : List (List (ByteArray × Int × Int))) : Nat := (ll.map List.length).sum
theorem lens_step (ll : List (List (ByteArray × Int × Int))) (j : Nat) (h : j < ll.length) : lens (ll.take (j + 1)) = lens (ll.take j) + (ll.getD j []).length := by
  unfold lens
  rw [List.take_succ_eq_append_getElem h, List.map_append, List.sum_append, List.getD_eq_getElem?_getD, List.getElem?_eq_getElem h]
  simp
theorem lens_take_le (ll : List (List (ByteArray × Int × Int))) (j : Nat) : lens (ll.take j) ≤ lens ll := by
  unfold lens
  have h : ((ll.take j ++ ll.drop j).map List.length).sum = (ll.map List.length).sum := by rw [List.take_append_drop]
  rw [List.map_append, List.sum_append] at h
  omega
theorem flat_step (ll : List (List (ByteArray × Int × Int))) (j : Nat) (h : j < ll.length) : (ll.take (j + 1)).flatten = (ll.take j).flatten ++ ll.getD j [] := by
  rw [List.take_succ_eq_append_getElem h, List.flatten_append, List.getD_eq_getElem?_getD, List.getElem?_eq_getElem h]
  simp
theorem flat_len (ll : List (List (ByteArray × Int × Int))) : ll.flatten.length = lens ll := by
  unfold lens
  rw [List.length_flatten]
set_option maxHeartbeats 1600000 in
set_option maxRecDepth 100000 in
theorem concat_calls (A : Option Addr) (n cp : Nat) (ll : List (List (ByteArray × Int × Int))) (w : World) (hr : Kd.C (Kd.slice 66 kV) w A n ll) (hn : n ≤ 20) (hs : lens ll ≤ 100) :
    Calls Try.prog 36 #[.slice A n cp] w fun e w' => ∃ v : Value, e = .returned v ∧ Kd.R kV 66 w' w.heap.size (fun _ => True) v ll.flatten ∧ Below w.heap.size w w' := by
  have hl : ll.length = n := hr.1
  have HR := Aside0.mk hr
  have HL := Aside0.mk hl
  clear hl hr
  go_enter Try.func36, Try.ntmps36
  go_wp2
  go_loopw [3, 11] (fun t i wr => ∃ j : Nat, j ≤ n ∧ i = .int .i64 j ∧ t = .int .i64 (lens (ll.take j)) ∧ w = wr) (fun _ i _ => n - (intOf i).toNat)
  case atStart => exact ⟨0, Nat.zero_le _, rfl, rfl, rfl⟩
  case round =>
    obtain ⟨j, hj, rfl, rfl, rfl⟩ := hrel
    by_cases hlt : j < n
    · obtain ⟨ad, cs, rfl, _, hK, hcell⟩ := Kd.C_get HR.out [] (j : Int) (by omega) (by omega)
      obtain ⟨A2, c2, hcs, hle, hC⟩ := hK
      subst hcs
      have hx0 := hcell 0 _ rfl
      rw [show (Kd.slice 66 kV).sz = 1 from rfl, Nat.mul_one, Nat.add_zero, Int.toNat_natCast] at hx0
      have hst := lens_step ll j (by have := HL.out; omega)
      have htl := lens_take_le ll (j + 1)
      obtain ⟨q, hq⟩ : ∃ q, q = (ll.getD j []).length := ⟨_, rfl⟩
      rw [← hq] at hx0
      obtain ⟨p, hp⟩ : ∃ p, p = lens (ll.take j) := ⟨_, rfl⟩
      rw [← hp, ← hq] at hst
      rw [← hp]
      have HST := Aside0.mk hst
      have HP := Aside0.mk hp
      have b0 : p + q ≤ 100 := by omega
      clear hst hp hq hcell hC hle htl
      have hb1 : (0 ≤ (j : Int)) = True := eq_true (by omega)
      have hb2 : ((j : Int) < (n : Int)) = True := eq_true (by omega)
      go_wp2
      go_roundw
      case rel => exact ⟨j + 1, by omega, by go_num, by rw [HST.out]; go_num, trivial⟩
      case measure => simp [intOf]; omega
    · have hjn : ll.take j = ll := List.take_of_length_le (by have := HL.out; omega)
      rw [hjn]
      obtain ⟨p, hp⟩ : ∃ p, p = lens ll := ⟨_, rfl⟩
      rw [← hp] at hs ⊢
      have HP := Aside0.mk hp
      clear hp hjn
      go_wp2_with (go_at_call 47; refine (grow_calls (p : Int) _ (by omega) (by omega)).mono ?_; rintro e w1 ⟨v1, rfl, ho, hb⟩; have HO1 := Aside0.mk ho; have HB1 := Aside0.mk hb; clear ho hb)
      go_loopw [6, 27] (fun v i w2 => ∃ j : Nat, j ≤ n ∧ i = .int .i64 j ∧ Aside0 (Kd.R kV 66 w2 w.heap.size (fun _ => True) v (ll.take j).flatten) ∧ Aside0 (Below w.heap.size w w2)) (fun _ i _ => n - (intOf i).toNat)
      case atStart => exact ⟨0, Nat.zero_le _, rfl, HO1, HB1⟩
      case round =>
        obtain ⟨j2, hj2, rfl, HO, HB⟩ := hrel
        by_cases hlt2 : j2 < n
        · obtain ⟨ad, cs, rfl, _, hK, hcell⟩ := Kd.C_get HR.out [] (j2 : Int) (by omega) (by omega)
          obtain ⟨A2, c2, hcs, hle, hC⟩ := hK
          subst hcs
          have hx0 := hcell 0 _ rfl
          rw [show (Kd.slice 66 kV).sz = 1 from rfl, Nat.mul_one, Nat.add_zero, Int.toNat_natCast] at hx0
          replace hx0 := (HB.out.cell (World.block_lt_of_cell? w _ hx0)).trans hx0
          have hfl := flat_step ll j2 (by have := HL.out; omega)
          have hll := flat_len (ll.take (j2 + 1))
          have htl := lens_take_le ll (j2 + 1)
          rw [hfl, List.length_append] at hll
          rw [Int.toNat_natCast] at hC
          obtain ⟨ys, hy⟩ : ∃ ys, ys = ll.getD j2 [] := ⟨_, rfl⟩
          rw [← hy] at hx0 hC hfl hll
          obtain ⟨xs, hx⟩ : ∃ xs, xs = (ll.take j2).flatten := ⟨_, rfl⟩
          rw [← hx] at HO hfl hll
          have b0 : xs.length + ys.length ≤ 100 := by have := HP.out; omega
          obtain ⟨q, hq⟩ : ∃ q, q = ys.length := ⟨_, rfl⟩
          rw [← hq] at hx0
          have HC := Aside0.mk (Kd.C_below hC HB.out)
          have HF := Aside0.mk hfl
          have HQ := Aside0.mk hq
          have B0 := Aside0.mk b0
          clear hfl hll htl hy hx hC hcell hle hq b0
          have hb1 : (0 ≤ (j2 : Int)) = True := eq_true (by omega)
          have hb2 : ((j2 : Int) < (n : Int)) = True := eq_true (by omega)
          go_wp2_with (first | (at_builtin; refine Kd.R_append_rows kV (Rr := fun x cs => cs = vcells x) (w0 := w) w.heap.size rfl (.tmp 31) (.tmp 32) 27 66 _ 152 rfl Try.underlying27 info66 rfl (by decide) (by omega) u6 xs ys A2 q c2 (fun _ => True) (fun _ => False) rfl rfl HO.out ?aR (fun _ _ h => h) (fun _ h => h.elim) (fun _ _ => trivial) HB.out HB.out.size ?aS ?_; (case aR => rw [HQ.out]; exact HC.out); (case aS => have := B0.out; have := HQ.out; omega); intro v2 w3 ho hb hg hat; have HO2 := Aside0.mk ho; have HB2 := Aside0.mk hb; clear ho hb hg hat))
          go_roundw
          case rel => exact ⟨j2 + 1, by omega, by go_num, ⟨by rw [HF.out]; exact HO2.out⟩, HB2⟩
          case measure => simp [intOf]; omega
        · go_wp2
          go_ret
          exact ⟨_, rfl, by rw [show ll.flatten = (ll.take j2).flatten by rw [List.take_of_length_le (by have := HL.out; omega)]]; exact HO.out, HB.out⟩
section
variable {P : Program} {ops : Array Oper} {rest : List Oper} {o : Oper} {a : Act} {Q : Exit → Act → World → Prop} {α : Type}
/-- append(v, x), x in a block of its own whose number is told by an equation. -/
theorem R_append' (d : Kd α) {w0 W : World} (base : Nat) (hgd : o.guard = none) (s x : Operand) (t e : TypeId) (z : Value) (bytes : Nat)
    (ho : o.op = .call { callee := .builtin .append, args := #[s, x], argTypes := #[t, t] })
    (ht : P.underlying t = some (.slice e)) (hinfo : (P.info? e).map (fun i => (i.zero, i.size, i.bytes)) = some (some z, d.sz, bytes)) (hz : z.cells.size = d.sz) (hs0 : 0 < d.sz) (hb0 : 0 < bytes)
    (v : Value) (xs : List α) (p : α) (cs : List Value) (ok okp : Nat → Prop) (g : Nat) (hs : a.eval s = v) (hx : a.eval x = .slice (some ⟨g, 0, none⟩) 1 1) (hg : g = W.heap.size) (hp : d.M W base okp p cs) (hokp : ∀ k, okp k → ok k ∧ some k ≠ v.ownBlock) (hfresh : ∀ k, W.heap.size ≤ k → ok k)
    (HO : d.R e W base ok v xs) (HB : Below base w0 W) (hbase : base ≤ W.heap.size) (hl : (xs.length + 1) * bytes ≤ 140737488355328)
    (h : ∀ v1 w1, d.R e w1 base ok v1 (xs ++ [p]) → Below base w0 w1 → W.grownBy w1 v.ownBlock → (v1.ownBlock = v.ownBlock ∨ ∃ b, v1.ownBlock = some b ∧ W.heap.size ≤ b) → wpList P ops Q rest (a.put o.dst v1) w1) :
    wpList P ops Q (o :: rest) a (W.alloc (.cells cs.toArray e)) := by
  subst hg
  exact Kd.R_append d base hgd s x t e z bytes ho ht hinfo hz hs0 hb0 v xs p cs ok okp hs hx hp hokp hfresh HO HB hbase hl h
end

end Go.Proofs.Ytfadafgnahhmdaa.X

