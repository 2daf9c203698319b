import Derived.Test.YtfadafgnahhmdaaHA
import Derived.WalkLawsBesides
import Derived.Test.YtfadafgnahhmdaaHD
import Derived.Test.YtfadafgnahhmdaaHE
import Derived.Test.YtfadafgnahhmdaaHF
import Derived.Deep.RegionWith
import Derived.Deep.RegionLaw
import Derived.BigRegion
import Derived.Deep.DeepCutAuto
import Derived.Deep.RegionHeldLaw
set_option linter.unusedVariables false
set_option linter.unusedSimpArgs false
namespace Go.Proofs.Ytfadafgnahhmdaa.X
open Go.RowKit Go.Proofs.YtfadafgnahhmdaaW.PrintWords Go.Proofs.YtfadafgnahhmdaaW.PrintLast Go.Proofs.YtfadafgnahhmdaaW.PrintMore Go.Proofs.Ytfadafgnahhmdaa.E
attribute [local go_sem] max2_int min2_int max_two min_two max_three min_three max_four min_four
set_option linter.unusedVariables false
set_option linter.unusedSimpArgs false

/-! ### value_May: function 41 (by hand) -/
def value_May.f (a0_0 : Int) (a0_1 : Int) (a0_2 : ByteArray) : Option Bool := B.mayP a0_0 a0_1 a0_2
set_option maxRecDepth 100000 in
set_option maxHeartbeats 400000 in
theorem value_May.calls1 (a1 : Int) (a2 : ByteArray) (w : World) (h : a2.toList = []) :
    Calls Try.prog 41 #[.agg #[.int .u8 1, .int .u64 a1, .string a2]] w fun e w' => e = .returned (.bool (decide (a1 ≤ 1))) ∧ Below w.heap.size w w' := by
  have hu34 := Try.underlying34
  go_enter Try.func41, Try.ntmps41
  go_wp2
  go_ret
  exact ⟨rfl, below_alloc (Below.refl _ _) _⟩
set_option maxRecDepth 100000 in
set_option maxHeartbeats 400000 in
theorem value_May.calls14 (a1 : Int) (a2 : ByteArray) (w : World) (h : a2.toList = []) :
    Calls Try.prog 41 #[.agg #[.int .u8 14, .int .u64 a1, .string a2]] w fun e w' => e = .returned (.bool true) ∧ Below w.heap.size w w' := by
  have hu34 := Try.underlying34
  go_enter Try.func41, Try.ntmps41
  go_wp2
  go_ret
  exact ⟨rfl, below_alloc (Below.refl _ _) _⟩
set_option maxRecDepth 100000 in
set_option maxHeartbeats 400000 in
theorem value_May.callsF (a0 a1 : Int) (a2 : ByteArray) (w : World) (h : ¬ a2.toList = []) (h1 : (a0 == 19) = false) :
    Calls Try.prog 41 #[.agg #[.int .u8 a0, .int .u64 a1, .string a2]] w fun e w' => e = .returned (.bool false) ∧ Below w.heap.size w w' := by
  have hu34 := Try.underlying34
  have hb : (a2.toList == ([] : List UInt8)) = false := beq_eq_false_iff_ne.mpr h
  have hn : (a2.toList != ([] : List UInt8)) = true := bne_iff_ne.mpr h
  go_enter Try.func41, Try.ntmps41
  go_wp2
  go_ret
  exact ⟨rfl, below_alloc (Below.refl _ _) _⟩
set_option maxRecDepth 100000 in
set_option maxHeartbeats 400000 in
theorem value_May.calls3 (a1 : Int) (a2 : ByteArray) (w : World) (h : a2.toList = []) :
    Calls Try.prog 41 #[.agg #[.int .u8 3, .int .u64 a1, .string a2]] w fun e w' => e = .returned (.bool (decide (-32768 ≤ wrap64 a1) && decide (wrap64 a1 ≤ 32767))) ∧ Below w.heap.size w w' := by
  have hu34 := Try.underlying34
  go_enter Try.func41, Try.ntmps41
  go_wp2
  all_goals
    go_ret
    exact ⟨by first | rfl | (congr 2; simp; omega) | (simp; omega), below_alloc (Below.refl _ _) _⟩
theorem value_May.calls (a0_0 : Int) (a0_1 : Int) (a0_2 : ByteArray) (r : Bool) (w : World) (h : value_May.f a0_0 a0_1 a0_2 = some r) :
    Calls Try.prog 41 #[.agg #[.int .u8 a0_0, .int .u64 a0_1, .string a0_2]] w fun e w' => e = .returned (.bool r) ∧ Below w.heap.size w w' := by
  unfold value_May.f B.mayP at h
  by_cases ht : a0_2.toList = []
  · simp only [ht, decide_true, Bool.true_and] at h
    split at h
    · rename_i h1; subst h1; obtain rfl := Option.some.inj h; exact value_May.calls1 _ _ w ht
    · split at h
      · rename_i h1; subst h1; obtain rfl := Option.some.inj h; exact value_May.calls3 _ _ w ht
      · split at h
        · rename_i h1; subst h1; obtain rfl := Option.some.inj h; exact value_May.calls14 _ _ w ht
        · exact absurd h (by simp)
  · have hk : (a0_0 == 19) = false ∧ r = false := by
      simp only [ht, decide_false, Bool.false_and] at h
      split at h
      · rename_i h1; subst h1; exact ⟨rfl, (Option.some.inj h).symm⟩
      · split at h
        · rename_i h1; subst h1; exact ⟨rfl, (Option.some.inj h).symm⟩
        · split at h
          · rename_i h1; subst h1; exact ⟨rfl, (Option.some.inj h).symm⟩
          · exact absurd h (by simp)
    obtain ⟨hk, rfl⟩ := hk
    exact value_May.callsF _ _ _ w ht hk
/-! ### relayref01_May: function 43 (by hand) -/
def relayref01_May.f (a0_0 : Int) (a0_1 : Int) (a0_2 : ByteArray) : Option Bool := B.mayP a0_0 a0_1 a0_2
set_option maxRecDepth 100000 in
set_option maxHeartbeats 400000 in
theorem relayref01_May.calls1 (a1 : Int) (a2 : ByteArray) (w : World) (h : a2.toList = []) :
    Calls Try.prog 43 #[.agg #[.int .u8 1, .int .u64 a1, .string a2]] w fun e w' => e = .returned (.bool (decide (a1 ≤ 1))) ∧ Below w.heap.size w w' := by
  have hu34 := Try.underlying34
  go_enter Try.func43, Try.ntmps43
  go_wp2
  go_ret
  exact ⟨rfl, below_alloc (Below.refl _ _) _⟩
set_option maxRecDepth 100000 in
set_option maxHeartbeats 400000 in
theorem relayref01_May.calls14 (a1 : Int) (a2 : ByteArray) (w : World) (h : a2.toList = []) :
    Calls Try.prog 43 #[.agg #[.int .u8 14, .int .u64 a1, .string a2]] w fun e w' => e = .returned (.bool true) ∧ Below w.heap.size w w' := by
  have hu34 := Try.underlying34
  go_enter Try.func43, Try.ntmps43
  go_wp2
  go_ret
  exact ⟨rfl, below_alloc (Below.refl _ _) _⟩
set_option maxRecDepth 100000 in
set_option maxHeartbeats 400000 in
theorem relayref01_May.callsF (a0 a1 : Int) (a2 : ByteArray) (w : World) (h : ¬ a2.toList = []) (h1 : (a0 == 19) = false) :
    Calls Try.prog 43 #[.agg #[.int .u8 a0, .int .u64 a1, .string a2]] w fun e w' => e = .returned (.bool false) ∧ Below w.heap.size w w' := by
  have hu34 := Try.underlying34
  go_enter Try.func43, Try.ntmps43
  go_wp2
  go_ret
  exact ⟨rfl, below_alloc (Below.refl _ _) _⟩
set_option maxRecDepth 100000 in
set_option maxHeartbeats 400000 in
theorem relayref01_May.calls3 (a1 : Int) (a2 : ByteArray) (w : World) (h : a2.toList = []) :
    Calls Try.prog 43 #[.agg #[.int .u8 3, .int .u64 a1, .string a2]] w fun e w' => e = .returned (.bool (decide (-32768 ≤ wrap64 a1) && decide (wrap64 a1 ≤ 32767))) ∧ Below w.heap.size w w' := by
  have hu34 := Try.underlying34
  go_enter Try.func43, Try.ntmps43
  go_wp2
  all_goals
    go_ret
    exact ⟨by first | rfl | (congr 2; simp; omega) | (simp; omega), below_alloc (Below.refl _ _) _⟩
theorem relayref01_May.calls (a0_0 : Int) (a0_1 : Int) (a0_2 : ByteArray) (r : Bool) (w : World) (h : relayref01_May.f a0_0 a0_1 a0_2 = some r) :
    Calls Try.prog 43 #[.agg #[.int .u8 a0_0, .int .u64 a0_1, .string a0_2]] w fun e w' => e = .returned (.bool r) ∧ Below w.heap.size w w' := by
  unfold relayref01_May.f B.mayP at h
  by_cases ht : a0_2.toList = []
  · simp only [ht, decide_true, Bool.true_and] at h
    split at h
    · rename_i h1; subst h1; obtain rfl := Option.some.inj h; exact relayref01_May.calls1 _ _ w ht
    · split at h
      · rename_i h1; subst h1; obtain rfl := Option.some.inj h; exact relayref01_May.calls3 _ _ w ht
      · split at h
        · rename_i h1; subst h1; obtain rfl := Option.some.inj h; exact relayref01_May.calls14 _ _ w ht
        · exact absurd h (by simp)
  · have hk : (a0_0 == 19) = false ∧ r = false := by
      simp only [ht, decide_false, Bool.false_and] at h
      split at h
      · rename_i h1; subst h1; exact ⟨rfl, (Option.some.inj h).symm⟩
      · split at h
        · rename_i h1; subst h1; exact ⟨rfl, (Option.some.inj h).symm⟩
        · split at h
          · rename_i h1; subst h1; exact ⟨rfl, (Option.some.inj h).symm⟩
          · exact absurd h (by simp)
    obtain ⟨hk, rfl⟩ := hk
    exact relayref01_May.callsF _ _ _ w ht hk
theorem may_some (kd b : Int) (t : ByteArray) (h : kd = 1 ∨ kd = 3 ∨ kd = 14) : ∃ r, B.mayP kd b t = some r := by
  unfold B.mayP
  rcases h with rfl | rfl | rfl
  · exact ⟨_, rfl⟩
  · exact ⟨_, rfl⟩
  · exact ⟨_, rfl⟩

end Go.Proofs.Ytfadafgnahhmdaa.X
namespace Go.Proofs.Ytfadafgnahhmdaa.X
open Go.RowKit Go.Proofs.YtfadafgnahhmdaaW.PrintWords Go.Proofs.YtfadafgnahhmdaaW.PrintLast Go.Proofs.YtfadafgnahhmdaaW.PrintMore Go.Proofs.Ytfadafgnahhmdaa.E
attribute [local go_sem] max2_int min2_int max_two min_two max_three min_three max_four min_four
set_option linter.unusedVariables false
set_option linter.unusedSimpArgs false

open B (upd b2i sinceF spanF)
/-- a value as numbers -/
def tup (x : S34) : Int × Int × ByteArray := (x.f0, x.f1, x.f2)
def unt (p : Int × Int × ByteArray) : S34 := ⟨p.1, p.2.1, p.2.2⟩
theorem vars_name (k : Int) : ∀ x ∈ B.vars k, x.1.size ≤ 3 := by
  refine B.vars_ind (P := fun l => ∀ x ∈ l, x.1.size ≤ 3) k ?_ ?_ ?_ ?_ ?_ ?_ ?_ ?_ ?_ ?_ ?_ <;> decide
theorem varsU_name (k : Int) (j : Nat) (x : ByteArray × Int × Int × Bool) (h : (B.varsU k)[j]? = some x) : x.1.size ≤ maxLen := by
  have hm := List.mem_of_getElem? h
  unfold B.varsU at hm
  obtain ⟨y, hy, rfl⟩ := List.mem_map.1 hm
  have := vars_name k y hy
  unfold maxLen
  simp only
  omega
theorem wpList_put {w w' : World} {ops : Array Oper} {rest : List Oper} {o : Oper} {a : Act} {Q : Exit → Act → World → Prop} (hg : o.guard = none) (m x v : Operand) (hop : o.op = Op.mapUpdate 72 m x v)
    (mb : Nat) (s : ByteArray) (u : Int) (hm : a.eval m = .map (some mb)) (hx : a.eval x = .string s) (hv : a.eval v = .int .i64 u) (hrun : (Instr.mapUpdate 72 (.map (some mb)) (.string s) (.int .i64 u)).run Try.prog w = .ok () w')
    (hK : wpList Try.prog ops Q rest (a.put o.dst undef) w') : wpList Try.prog ops Q (o :: rest) a w := by
  refine wpList_plain hg fun K' hK' => ?_
  unfold Oper.wp
  simp [execOp, hop, hm, hx, hv, hrun, Result.andThen]
  exact hK' _ _ hK
theorem St_made (w : World) (t : Int) : St ((w.alloc (.map #[] 0)).alloc (.cells #[.map (some w.heap.size), .int .i64 t] 74)) (w.heap.size + 1) w.heap.size 0 (fun _ => 0) t := by
  refine ⟨?_, (Mp.made w).kept (World.grownBy_alloc _ _ none) (by simp)⟩
  have h := heap_alloc_new (w.alloc (.map #[] 0)) (.cells #[.map (some w.heap.size), .int .i64 t] 74)
  simpa using h
theorem pairs_step (k : Int) (l : List S34) (j : Nat) (x : ByteArray × Int × Int × Bool) (c : S34) (hx : (B.varsU k)[j]? = some x) (hc : l[j]? = some c) :
    B.pairs ((B.varsU k).take (j + 1)) ((l.map tup).take (j + 1)) = B.pairs ((B.varsU k).take j) ((l.map tup).take j) ++ [(x.1, wrap64 c.f1)] := by
  obtain ⟨h1, h2⟩ := List.getElem?_eq_some_iff.1 hx
  obtain ⟨h3, h4⟩ := List.getElem?_eq_some_iff.1 hc
  unfold B.pairs
  rw [List.take_succ_eq_append_getElem h1, List.take_succ_eq_append_getElem (by simpa using h3), List.zip_append (by simp; omega), List.map_append]
  simp [h2, h4, tup]
theorem okAll_step (k : Int) (l : List S34) (j : Nat) (x : ByteArray × Int × Int × Bool) (c : S34) (hx : (B.varsU k)[j]? = some x) (hc : l[j]? = some c) :
    B.okAll ((B.varsU k).take (j + 1)) ((l.map tup).take (j + 1)) = (B.okAll ((B.varsU k).take j) ((l.map tup).take j) && B.okC x.2.2.1 (tup c)) := by
  obtain ⟨h1, h2⟩ := List.getElem?_eq_some_iff.1 hx
  obtain ⟨h3, h4⟩ := List.getElem?_eq_some_iff.1 hc
  unfold B.okAll
  rw [List.take_succ_eq_append_getElem h1, List.take_succ_eq_append_getElem (by simpa using h3), List.zip_append (by simp; omega), List.all_append]
  simp [h2, h4, tup]
theorem okAll_no (vs : List (ByteArray × Int × Int × Bool)) (cs : List (Int × Int × ByteArray)) (j : Nat) (h : B.okAll (vs.take j) (cs.take j) = false) : B.okAll vs cs = false := by
  cases hh : B.okAll vs cs with
  | false => rfl
  | true =>
    unfold B.okAll at h hh
    rw [← h]
    symm
    rw [List.all_eq_true]
    intro p hp
    rw [List.all_eq_true] at hh
    refine hh p ?_
    have : (vs.take j).zip (cs.take j) = (vs.zip cs).take j := by simp [List.zip, List.take_zipWith]
    rw [this] at hp
    exact List.mem_of_mem_take hp

theorem steps_calls (w : World) : Calls Try.prog 42 #[] w fun e w' => e = .returned (.slice (some ⟨w.heap.size, 0, none⟩) 11 11) ∧ Below w.heap.size w w' ∧ ∀ i : Nat, 1 ≤ i → i ≤ 10 → w'.cell? ⟨w.heap.size, i, none⟩ = some (.func (Fn.func (51 + i)) #[] #[]) := by
  go_enter Try.func42, Try.ntmps42
  go_wp2
  refine bodyPost_ret (v := _) (by simp [results, Try.results42, go_sem]) rfl ⟨rfl, below_alloc (Below.refl _ _) _, fun i h1 h2 => ?_⟩
  have h : i = 1 ∨ i = 2 ∨ i = 3 ∨ i = 4 ∨ i = 5 ∨ i = 6 ∨ i = 7 ∨ i = 8 ∨ i = 9 ∨ i = 10 := by omega
  rcases h with rfl | rfl | rfl | rfl | rfl | rfl | rfl | rfl | rfl | rfl <;> simp

theorem St.belowW {w w' : World} {sb mb n : Nat} {f : ByteArray → Int} {now : Int} (h : St w sb mb n f now) (b : Below w.heap.size w w') : St w' sb mb n f now :=
  ⟨(b.block _ (blk_lt h.1)).trans h.1, h.2.kept (grown_of_below b none) (by simp)⟩
theorem St.grownN {w w' : World} {sb mb n : Nat} {f : ByteArray → Int} {now : Int} {own : Option Nat} (h : St w sb mb n f now) (g : w.grownBy w' own) (h1 : own ≠ some sb) (h2 : own ≠ some mb) : St w' sb mb n f now :=
  ⟨(g.block _ (blk_lt h.1) (fun e => h1 e.symm)).trans h.1, h.2.kept g (fun e => h2 e.symm)⟩
theorem outs_step (k : Int) (g : ByteArray → Int) (j : Nat) (x : ByteArray × Int × Int × Bool) (hx : (B.varsU k)[j]? = some x) : ((B.outs (B.varsU k) g).map unt).take (j + 1) = ((B.outs (B.varsU k) g).map unt).take j ++ [⟨x.2.2.1, IntKind.u64.wrap (g x.1), ⟨#[]⟩⟩] := by
  obtain ⟨h1, h2⟩ := List.getElem?_eq_some_iff.1 hx
  rw [List.take_succ_eq_append_getElem (by simpa [B.outs] using h1)]
  simp [B.outs, h2, unt]
theorem outs_len (k : Int) (g : ByteArray → Int) : ((B.outs (B.varsU k) g).map unt).length = (B.varsU k).length := by simp [B.outs]

end Go.Proofs.Ytfadafgnahhmdaa.X
namespace Go.Proofs.Ytfadafgnahhmdaa.X
open Go.RowKit Go.Proofs.YtfadafgnahhmdaaW.PrintWords Go.Proofs.YtfadafgnahhmdaaW.PrintLast Go.Proofs.YtfadafgnahhmdaaW.PrintMore Go.Proofs.Ytfadafgnahhmdaa.E
attribute [local go_sem] max2_int min2_int max_two min_two max_three min_three max_four min_four
set_option linter.unusedVariables false
set_option linter.unusedSimpArgs false

set_option maxHeartbeats 3200000 in
set_option maxRecDepth 100000 in
theorem step_calls (k : Int) (A : Option Addr) (n cp : Nat) (l : List S34) (now : Int) (w : World) (hr : Kd.C k34 w A n l) :
    Calls Try.prog 28 #[.int .i64 k, .slice A n cp, .int .i64 now] w fun e w' => ∃ v : Value, e = .returned (.tuple #[v, .int .i64 (B.stepC k (l.map tup) now).2]) ∧ Kd.R k34 34 w' w.heap.size (fun _ => True) v ((B.stepC k (l.map tup) now).1.map unt) ∧ Below w.heap.size w w' := by
  have hu34 := Try.underlying34
  have hu64 := Try.underlying64
  have hu66 := Try.underlying66
  have hu74 := Try.underlying74
  obtain ⟨m, hm⟩ : ∃ m, m = (B.varsU k).length := ⟨_, rfl⟩
  have hm10 : m ≤ 10 := by have := varsU_len k; omega
  have hln : l.length = n := hr.1
  have HM := Aside0.mk hm
  have HR := Aside0.mk hr
  have HLN := Aside0.mk hln
  have hn64 : n ≤ 9223372036854775807 := hr.2.1
  clear hm hr hln
  by_cases hz : m = 0 ∨ n ≠ m
  · have hres : B.stepC k (l.map tup) now = ([], 8) := by
      unfold B.stepC
      rw [if_pos]
      rw [List.length_map, HLN.out, ← HM.out]
      exact hz
    rw [hres]
    have HZ := Aside0.mk hz
    by_cases hm0 : m = 0
    · subst hm0
      clear hz
      go_enter Try.func28, Try.ntmps28
      go_wp2_with (go_at_call 20; refine (vars_calls _ _).mono ?_; rintro e w1 ⟨A1, c1, rfl, hle, hC, hb⟩; rw [← HM.out] at hle hC ⊢; have HB := Aside0.mk hb; clear hC hb hle)
      go_ret2
      exact ⟨_, rfl, Kd.R_nil _ _ _ _ _, HB.out⟩
    · have hnm : n ≠ m := by rcases hz with h | h; exact absurd h hm0; exact h
      have t1 : (m == 0) = false := beq_eq_false_iff_ne.mpr hm0
      have t2 : (n == m) = false := beq_eq_false_iff_ne.mpr hnm
      have t3 : ((m : Int) == 0) = false := beq_eq_false_iff_ne.mpr (by omega)
      have t4 : ((n : Int) == (m : Int)) = false := beq_eq_false_iff_ne.mpr (by omega)
      have t5 : ((n : Int) != (m : Int)) = true := bne_iff_ne.mpr (by omega)
      have t6 : (n != m) = true := bne_iff_ne.mpr hnm
      clear hz
      go_enter Try.func28, Try.ntmps28
      go_wp2_with (go_at_call 20; refine (vars_calls _ _).mono ?_; rintro e w1 ⟨A1, c1, rfl, hle, hC, hb⟩; rw [← HM.out] at hle hC ⊢; have HB := Aside0.mk hb; clear hC hb hle)
      go_ret2
      exact ⟨_, rfl, Kd.R_nil _ _ _ _ _, HB.out⟩
  · have hm0 : ¬ m = 0 := fun h => hz (.inl h)
    obtain rfl : n = m := by
      rcases Nat.decEq n m with h | h
      · exact absurd (.inr h) hz
      · exact h
    obtain ⟨res, hres⟩ : ∃ res, res = B.stepC k (l.map tup) now := ⟨_, rfl⟩
    rw [← hres]
    have HRES := Aside0.mk hres
    clear hres hz
    obtain ⟨j1, hj1⟩ : ∃ j1, (if now < 0 then 0 else now) = j1 := ⟨_, rfl⟩
    obtain ⟨tt, htt⟩ : ∃ tt, (if 4611686018427387904 < j1 then 4611686018427387904 else j1) = tt := ⟨_, rfl⟩
    have htc : tt = B.clampT now := by rw [← htt, ← hj1]; rfl
    have HTC := Aside0.mk htc
    clear htc
    have t1 : (n == 0) = false := beq_eq_false_iff_ne.mpr hm0
    have t3 : ((n : Int) == 0) = false := beq_eq_false_iff_ne.mpr (by omega)
    have hmm := @run_makeMap Try.prog
    go_enter Try.func28, Try.ntmps28
    go_wp2_with (go_at_call 20; refine (vars_calls _ _).mono ?_; rintro e w1 ⟨A1, c1, rfl, hle, hC, hb⟩; rw [← HM.out] at hle hC ⊢; have HB := Aside0.mk hb; have HC := Aside0.mk hC; clear hC hb hle)
    go_loopw [35] (fun i wr => ∃ j : Nat, j ≤ n ∧ i = .int .i64 j ∧ Aside0 (B.okAll ((B.varsU k).take j) ((l.map tup).take j) = true) ∧ Aside0 (St wr (w1.heap.size + 1) w1.heap.size j (B.loadF (B.pairs ((B.varsU k).take j) ((l.map tup).take j))) tt) ∧ Aside0 (Below w1.heap.size w1 wr)) (fun i _ => n - (intOf i).toNat)
    case atStart => exact ⟨0, Nat.zero_le _, rfl, ⟨rfl⟩, ⟨St_made w1 tt⟩, ⟨below_alloc (below_alloc (Below.refl _ _) _) _⟩⟩
    case round =>
      obtain ⟨j, hj, rfl, HOK, HST, HW⟩ := hrel
      clear hj1 htt t1 t3 hmm
      by_cases hlt : j < n
      · obtain ⟨ad, x, sv, rfl, hx, hK, hsv, hc0, hci⟩ := kU_at (Kd.C_below HC.out HW.out) j hlt
        obtain ⟨ad0, e0, y0, y1, y2⟩ := at_T34 (Kd.C_below HR.out (below_step HB.out HW.out)) (j : Int) (by omega) (by omega)
        subst e0
        obtain ⟨c, hc⟩ : ∃ c, l[j]? = some c := ⟨_, List.getElem?_eq_getElem (by have := HLN.out; omega)⟩
        have hrd : rd_T34 l (j : Int) = c := by unfold rd_T34; rw [Int.toNat_natCast, List.getD_eq_getElem?_getD, hc]; rfl
        rw [hrd, Int.toNat_natCast] at y0 y1 y2
        have HPS := Aside0.mk (pairs_step k l j x c hx hc)
        have HOS := Aside0.mk (okAll_step k l j x c hx hc)
        obtain ⟨hkd, _⟩ := varsU_kind k j x hx
        have hnm := varsU_name k j x hx
        obtain ⟨nm, cl, kd, ini⟩ := x
        obtain ⟨kc, bc, tc⟩ := c
        have HNM := Aside0.mk (show nm.size ≤ maxLen from hnm)
        clear hnm
        simp only at hkd hc0 y0 y1 y2
        clear hx hc hrd hsv
        have x1 := hci 1 _ (by omega) rfl
        have x2 := hci 2 _ (by omega) rfl
        have x3 := hci 3 _ (by omega) rfl
        have x4 := hci 4 _ (by omega) rfl
        have x5 := hci 5 _ (by omega) rfl
        have x6 := hci 6 _ (by omega) rfl
        have x7 := hci 7 _ (by omega) rfl
        have x8 := hci 8 _ (by omega) rfl
        have x9 := hci 9 _ (by omega) rfl
        have x10 := hci 10 _ (by omega) rfl
        have x11 := hci 11 _ (by omega) rfl
        have x12 := hci 12 _ (by omega) rfl
        have x13 := hci 13 _ (by omega) rfl
        have x14 := hci 14 _ (by omega) rfl
        have x15 := hci 15 _ (by omega) rfl
        obtain ⟨sA, sn, sc, rfl⟩ : ∃ A n c, sv = .slice A n c := by
          obtain ⟨sv2, hse, hsv2⟩ := hK
          have hsv3 : sv = sv2 := by simpa [ucells] using hse
          subst hsv3
          rcases hsv2 with ⟨_, h⟩ | ⟨_, A, c, h, _⟩ <;> exact ⟨_, _, _, h⟩
        clear hci hK
        have hb1 : (0 ≤ (j : Int)) = True := eq_true (by omega)
        have hb2 : ((j : Int) < (n : Int)) = True := eq_true (by omega)
        go_wp2_with fail
        generalize hW : wr.alloc _ = W
        have bW : Below wr.heap.size wr W := by rw [← hW]; exact below_alloc (Below.refl _ _) _
        have fN : W.cell? ⟨wr.heap.size, 0, none⟩ = some (.string nm) := by rw [← hW]; simp
        have fK : W.cell? ⟨wr.heap.size, 3, none⟩ = some (.int .u8 kd) := by rw [← hW]; simp
        have gsz : wr.heap.size < W.heap.size := by rw [← hW]; simp
        replace y0 := (bW.cell (World.block_lt_of_cell? wr _ y0)).trans y0
        replace y1 := (bW.cell (World.block_lt_of_cell? wr _ y1)).trans y1
        replace y2 := (bW.cell (World.block_lt_of_cell? wr _ y2)).trans y2
        have HST2 := Aside0.mk (show St W (w1.heap.size + 1) w1.heap.size j _ tt from ⟨(bW.block _ (blk_lt HST.out.1)).trans HST.out.1, HST.out.2.kept (grown_of_below bW none) (by simp)⟩)
        have HW2 := Aside0.mk (below_step HW.out bW)
        clear hW x1 x2 x3 x4 x5 x6 x7 x8 x9 x10 x11 x12 x13 x14 x15 hc0 HST HW
        obtain ⟨bx, hbx⟩ : ∃ bx, bx = wr.heap.size := ⟨_, rfl⟩
        rw [← hbx] at fN fK gsz ⊢
        clear bW hbx
        by_cases hkk : kc = kd
        · obtain rfl := hkk
          obtain ⟨r, hr⟩ := may_some kc bc tc hkd
          have HMAY : Aside0 (value_May.f kc bc tc = some r) := ⟨hr⟩
          have HR2 : Aside0 (B.okC kc (tup ⟨kc, bc, tc⟩) = r) := ⟨by unfold B.okC tup; rw [hr]; cases r <;> simp⟩
          clear hr
          have q1 : (kc != kc) = false := by simp
          have q2 : (kc == kc) = true := by simp
          go_region_with (go_at_call 41; (with_reducible refine (value_May.calls kc bc tc r _ HMAY.out).mono ?_); rintro e w3 ⟨rfl, hb3⟩; have HB3 := Aside0.mk hb3; clear hb3)
          all_goals
            have hb3 := HB3.out
            have hsz3 : W.heap.size ≤ w3.heap.size := hb3.size
            have hbW : Below W.heap.size W w3 := ⟨hb3.os, hb3.tape, hb3.output, hb3.size, hb3.block⟩
            have fN3 : w3.cell? ⟨bx, 0, none⟩ = some (.string nm) := (hbW.cell gsz).trans fN
            have z0 := (hbW.cell (World.block_lt_of_cell? W _ y0)).trans y0
            have z1 := (hbW.cell (World.block_lt_of_cell? W _ y1)).trans y1
            have HST3 := Aside0.mk (show St w3 (w1.heap.size + 1) w1.heap.size j _ tt from ⟨(hbW.block _ (blk_lt HST2.out.1)).trans HST2.out.1, HST2.out.2.kept (grown_of_below hbW none) (by simp)⟩)
            have HW3 := Aside0.mk (below_step HW2.out hbW)
            clear hb3 HB3 hbW hsz3 fN fK y0 y1 y2 HST2 HW2 gsz q1 q2
            cases r with
            | false =>
              go_wp2
              go_ret2
              have hno : B.okAll (B.varsU k) (l.map tup) = false := okAll_no _ _ (j + 1) (by rw [HOS.out, HR2.out, Bool.and_false])
              have hr8 : res = ([], 8) := by
                rw [HRES.out]
                unfold B.stepC
                rw [if_neg (by rw [List.length_map, HLN.out, ← HM.out]; omega), if_neg (by rw [hno]; decide)]
              rw [hr8]
              exact ⟨_, rfl, Kd.R_nil _ _ _ _ _, below_step HB.out HW3.out⟩
            | true =>
              have c0 := HST3.out.c0
              go_wp2_with fail
              go_still_tail 12, (by kernel_rfl)
              change wpList _ _ _ _ _ w3.drew
              have HST4 := Aside0.mk HST3.out.drew
              have HW4 := Aside0.mk (show Below w1.heap.size w1 w3.drew from below_drew HW3.out)
              clear c0 fN3 z0 z1 HST3 HW3
              generalize w3.drew = w4 at HST4 HW4 ⊢
              obtain ⟨w5, r5, h5, g5⟩ := HST4.out.put (by omega) nm HNM.out (IntKind.i64.wrap bc) (by rw [i64_w]; exact wrap64_wf _)
              have HST5 := Aside0.mk h5
              have HW5 := Aside0.mk (HW4.out.grown g5 HW4.out.size (fun k hk => by injection hk with hk; omega))
              clear h5 g5
              refine wpList_put rfl _ _ _ rfl _ _ _ rfl rfl rfl r5 ?_
              clear r5
              go_wp2
              go_roundw
              case rel => exact ⟨j + 1, by omega, by go_num, ⟨by rw [HOS.out, HOK.out, HR2.out]; rfl⟩, ⟨by rw [HPS.out, B.loadF_snoc, ← i64_w]; exact HST5.out⟩, HW5⟩
              case measure => simp [intOf]; omega
        · have q1 : (kc != kd) = true := bne_iff_ne.mpr hkk
          have q2 : (kc == kd) = false := beq_eq_false_iff_ne.mpr hkk
          go_quiet (fail)
          go_wp2
          go_ret2
          have hno : B.okAll (B.varsU k) (l.map tup) = false := okAll_no _ _ (j + 1) (by rw [HOS.out, show B.okC kd (tup ⟨kc, bc, tc⟩) = false by simp [B.okC, tup, hkk], Bool.and_false])
          have hr8 : res = ([], 8) := by
            rw [HRES.out]
            unfold B.stepC
            rw [if_neg (by rw [List.length_map, HLN.out, ← HM.out]; omega), if_neg (by rw [hno]; decide)]
          rw [hr8]
          exact ⟨_, rfl, Kd.R_nil _ _ _ _ _, pw_below_drewN (below_step HB.out HW2.out) _⟩
      · obtain rfl : j = n := by omega
        clear hj hlt
        have htk1 : (B.varsU k).take j = B.varsU k := List.take_of_length_le (by rw [← HM.out]; exact Nat.le_refl _)
        have htk2 : (l.map tup).take j = l.map tup := List.take_of_length_le (by rw [List.length_map, HLN.out]; exact Nat.le_refl _)
        rw [htk1, htk2] at HOK HST
        have HRE2 : Aside0 (res = (B.outs (B.varsU k) (B.stepF k (B.loadF (B.pairs (B.varsU k) (l.map tup))) tt), 0)) := ⟨by
          rw [HRES.out]
          unfold B.stepC
          rw [if_neg (by rw [List.length_map, HLN.out, ← HM.out]; omega), if_pos HOK.out, ← HTC.out]⟩
        have HTB : Aside0 (0 ≤ tt ∧ tt ≤ 4611686018427387904) := ⟨by rw [HTC.out]; exact B.clampT_bd now⟩
        have hk : 1 ≤ k ∧ k ≤ 10 := by
          rcases Classical.em (1 ≤ k ∧ k ≤ 10) with h | h
          · exact h
          · exfalso
            have := HM.out
            unfold B.varsU at this
            rw [B.vars_out k h] at this
            exact hm0 this
        clear htk1 htk2 HRES HOK
        go_upto_region 12 with (fail)
        go_cut [75] (fun _ w => Aside0 (St w (w1.heap.size + 1) w1.heap.size (j + 60) (B.stepF k (B.loadF (B.pairs (B.varsU k) (l.map tup))) tt) tt) ∧ Aside0 (Below w1.heap.size w1 w))
        case first =>
          have h : k = 1 ∨ k = 2 ∨ k = 3 ∨ k = 4 ∨ k = 5 ∨ k = 6 ∨ k = 7 ∨ k = 8 ∨ k = 9 ∨ k = 10 := by omega
          clear HM HR HLN HC hk HRE2 HTC
          rcases h with rfl | rfl | rfl | rfl | rfl | rfl | rfl | rfl | rfl | rfl
          · have y0 : ∀ u : World, Below w1.heap.size w1 u → True := fun _ _ => trivial
            go_wp2_with (first
              | (go_at_call 42; refine (steps_calls _).mono ?_; rintro e w3 ⟨rfl, hb3, hc3⟩; have HB3 := Aside0.mk hb3; have c3 := hc3 1 (by omega) (by omega); simp only [Nat.reduceAdd] at c3; clear hc3 hb3)
              | (go_at_call 52; refine (sr_calls (HST.out.belowW HB3.out) (by omega) HTB.out.1 HTB.out.2).mono ?_; rintro e w4 ⟨rfl, h4, g4⟩; have H4 := Aside0.mk h4; have G4 := Aside0.mk g4; clear h4 g4))
            go_meet
            case rel => exact ⟨⟨H4.out⟩, ⟨(below_step HW.out HB3.out).grown G4.out (below_step HW.out HB3.out).size (fun k hk => by injection hk with hk; omega)⟩⟩
          · have y0 : ∀ u : World, Below w1.heap.size w1 u → True := fun _ _ => trivial
            go_wp2_with (first
              | (go_at_call 42; refine (steps_calls _).mono ?_; rintro e w3 ⟨rfl, hb3, hc3⟩; have HB3 := Aside0.mk hb3; have c3 := hc3 2 (by omega) (by omega); simp only [Nat.reduceAdd] at c3; clear hc3 hb3)
              | (go_at_call 53; refine (rs_calls (HST.out.belowW HB3.out) (by omega) HTB.out.1 HTB.out.2).mono ?_; rintro e w4 ⟨rfl, h4, g4⟩; have H4 := Aside0.mk h4; have G4 := Aside0.mk g4; clear h4 g4))
            go_meet
            case rel => exact ⟨⟨H4.out⟩, ⟨(below_step HW.out HB3.out).grown G4.out (below_step HW.out HB3.out).size (fun k hk => by injection hk with hk; omega)⟩⟩
          · have y0 : ∀ u : World, Below w1.heap.size w1 u → True := fun _ _ => trivial
            go_wp2_with (first
              | (go_at_call 42; refine (steps_calls _).mono ?_; rintro e w3 ⟨rfl, hb3, hc3⟩; have HB3 := Aside0.mk hb3; have c3 := hc3 3 (by omega) (by omega); simp only [Nat.reduceAdd] at c3; clear hc3 hb3)
              | (go_at_call 54; refine (rise_calls (HST.out.belowW HB3.out) (by omega) HTB.out.1 HTB.out.2).mono ?_; rintro e w4 ⟨rfl, h4, g4⟩; have H4 := Aside0.mk h4; have G4 := Aside0.mk g4; clear h4 g4))
            go_meet
            case rel => exact ⟨⟨H4.out⟩, ⟨(below_step HW.out HB3.out).grown G4.out (below_step HW.out HB3.out).size (fun k hk => by injection hk with hk; omega)⟩⟩
          · have y0 : ∀ u : World, Below w1.heap.size w1 u → True := fun _ _ => trivial
            go_wp2_with (first
              | (go_at_call 42; refine (steps_calls _).mono ?_; rintro e w3 ⟨rfl, hb3, hc3⟩; have HB3 := Aside0.mk hb3; have c3 := hc3 4 (by omega) (by omega); simp only [Nat.reduceAdd] at c3; clear hc3 hb3)
              | (go_at_call 55; refine (fall_calls (HST.out.belowW HB3.out) (by omega) HTB.out.1 HTB.out.2).mono ?_; rintro e w4 ⟨rfl, h4, g4⟩; have H4 := Aside0.mk h4; have G4 := Aside0.mk g4; clear h4 g4))
            go_meet
            case rel => exact ⟨⟨H4.out⟩, ⟨(below_step HW.out HB3.out).grown G4.out (below_step HW.out HB3.out).size (fun k hk => by injection hk with hk; omega)⟩⟩
          · have y0 : ∀ u : World, Below w1.heap.size w1 u → True := fun _ _ => trivial
            go_wp2_with (first
              | (go_at_call 42; refine (steps_calls _).mono ?_; rintro e w3 ⟨rfl, hb3, hc3⟩; have HB3 := Aside0.mk hb3; have c3 := hc3 5 (by omega) (by omega); simp only [Nat.reduceAdd] at c3; clear hc3 hb3)
              | (go_at_call 56; refine (ctu_calls (HST.out.belowW HB3.out) (by omega) HTB.out.1 HTB.out.2).mono ?_; rintro e w4 ⟨rfl, h4, g4⟩; have H4 := Aside0.mk h4; have G4 := Aside0.mk g4; clear h4 g4))
            go_meet
            case rel => exact ⟨⟨H4.out⟩, ⟨(below_step HW.out HB3.out).grown G4.out (below_step HW.out HB3.out).size (fun k hk => by injection hk with hk; omega)⟩⟩
          · have y0 : ∀ u : World, Below w1.heap.size w1 u → True := fun _ _ => trivial
            go_wp2_with (first
              | (go_at_call 42; refine (steps_calls _).mono ?_; rintro e w3 ⟨rfl, hb3, hc3⟩; have HB3 := Aside0.mk hb3; have c3 := hc3 6 (by omega) (by omega); simp only [Nat.reduceAdd] at c3; clear hc3 hb3)
              | (go_at_call 57; refine (ctd_calls (HST.out.belowW HB3.out) (by omega) HTB.out.1 HTB.out.2).mono ?_; rintro e w4 ⟨rfl, h4, g4⟩; have H4 := Aside0.mk h4; have G4 := Aside0.mk g4; clear h4 g4))
            go_meet
            case rel => exact ⟨⟨H4.out⟩, ⟨(below_step HW.out HB3.out).grown G4.out (below_step HW.out HB3.out).size (fun k hk => by injection hk with hk; omega)⟩⟩
          · have y0 : ∀ u : World, Below w1.heap.size w1 u → True := fun _ _ => trivial
            go_wp2_with (first
              | (go_at_call 42; refine (steps_calls _).mono ?_; rintro e w3 ⟨rfl, hb3, hc3⟩; have HB3 := Aside0.mk hb3; have c3 := hc3 7 (by omega) (by omega); simp only [Nat.reduceAdd] at c3; clear hc3 hb3)
              | (go_at_call 58; refine (ctud_calls (HST.out.belowW HB3.out) (by omega) HTB.out.1 HTB.out.2).mono ?_; rintro e w4 ⟨rfl, h4, g4⟩; have H4 := Aside0.mk h4; have G4 := Aside0.mk g4; clear h4 g4))
            go_meet
            case rel => exact ⟨⟨H4.out⟩, ⟨(below_step HW.out HB3.out).grown G4.out (below_step HW.out HB3.out).size (fun k hk => by injection hk with hk; omega)⟩⟩
          · have y0 : ∀ u : World, Below w1.heap.size w1 u → True := fun _ _ => trivial
            go_wp2_with (first
              | (go_at_call 42; refine (steps_calls _).mono ?_; rintro e w3 ⟨rfl, hb3, hc3⟩; have HB3 := Aside0.mk hb3; have c3 := hc3 8 (by omega) (by omega); simp only [Nat.reduceAdd] at c3; clear hc3 hb3)
              | (go_at_call 59; refine (tp_calls (HST.out.belowW HB3.out) (by omega) HTB.out.1 HTB.out.2).mono ?_; rintro e w4 ⟨rfl, h4, g4⟩; have H4 := Aside0.mk h4; have G4 := Aside0.mk g4; clear h4 g4))
            go_meet
            case rel => exact ⟨⟨H4.out⟩, ⟨(below_step HW.out HB3.out).grown G4.out (below_step HW.out HB3.out).size (fun k hk => by injection hk with hk; omega)⟩⟩
          · have y0 : ∀ u : World, Below w1.heap.size w1 u → True := fun _ _ => trivial
            go_wp2_with (first
              | (go_at_call 42; refine (steps_calls _).mono ?_; rintro e w3 ⟨rfl, hb3, hc3⟩; have HB3 := Aside0.mk hb3; have c3 := hc3 9 (by omega) (by omega); simp only [Nat.reduceAdd] at c3; clear hc3 hb3)
              | (go_at_call 60; refine (ton_calls (HST.out.belowW HB3.out) (by omega) HTB.out.1 HTB.out.2).mono ?_; rintro e w4 ⟨rfl, h4, g4⟩; have H4 := Aside0.mk h4; have G4 := Aside0.mk g4; clear h4 g4))
            go_meet
            case rel => exact ⟨⟨H4.out⟩, ⟨(below_step HW.out HB3.out).grown G4.out (below_step HW.out HB3.out).size (fun k hk => by injection hk with hk; omega)⟩⟩
          · have y0 : ∀ u : World, Below w1.heap.size w1 u → True := fun _ _ => trivial
            go_wp2_with (first
              | (go_at_call 42; refine (steps_calls _).mono ?_; rintro e w3 ⟨rfl, hb3, hc3⟩; have HB3 := Aside0.mk hb3; have c3 := hc3 10 (by omega) (by omega); simp only [Nat.reduceAdd] at c3; clear hc3 hb3)
              | (go_at_call 61; refine (tof_calls (HST.out.belowW HB3.out) (by omega) HTB.out.1 HTB.out.2).mono ?_; rintro e w4 ⟨rfl, h4, g4⟩; have H4 := Aside0.mk h4; have G4 := Aside0.mk g4; clear h4 g4))
            go_meet
            case rel => exact ⟨⟨H4.out⟩, ⟨(below_step HW.out HB3.out).grown G4.out (below_step HW.out HB3.out).size (fun k hk => by injection hk with hk; omega)⟩⟩
        case rest =>
          obtain ⟨HS2, HW2⟩ := hcut
          clear HST HW HTC hk
          obtain ⟨g, hg⟩ : ∃ g, g = B.stepF k (B.loadF (B.pairs (B.varsU k) (l.map tup))) tt := ⟨_, rfl⟩
          rw [← hg] at HS2 HRE2
          have HG := Aside0.mk hg
          clear hg
          have HO0 : Aside0 (w1.heap.size + 2 ≤ wc.heap.size) := ⟨by have := blk_lt HS2.out.1; omega⟩
          go_wp2_with fail
          go_loopw [12, 78] (fun v i wr => ∃ i2 : Nat, i2 ≤ j ∧ i = .int .i64 i2 ∧ Aside0 (Kd.R k34 34 wr w1.heap.size (fun b => w1.heap.size + 2 ≤ b) v (((B.outs (B.varsU k) g).map unt).take i2)) ∧ Aside0 (St wr (w1.heap.size + 1) w1.heap.size (j + 60) g tt) ∧ Aside0 (Below w1.heap.size w1 wr)) (fun _ i _ => j - (intOf i).toNat)
          case atStart => exact ⟨0, Nat.zero_le _, rfl, ⟨Kd.R_nil _ _ _ _ _⟩, HS2, HW2⟩
          case round =>
            obtain ⟨i2, hi2, rfl, HO, HST, HW⟩ := hrel
            clear HS2 HW2
            by_cases hlt : i2 < j
            · obtain ⟨ad, x, sv, rfl, hx, hK, hsv, hc0, hci⟩ := kU_at (Kd.C_below HC.out HW.out) i2 hlt
              have HSTEP := Aside0.mk (outs_step k g i2 x hx)
              have hnm := varsU_name k i2 x hx
              obtain ⟨nm, cl, kd, ini⟩ := x
              have HNM := Aside0.mk (show nm.size ≤ maxLen from hnm)
              clear hnm
              simp only at hc0
              clear hx hsv
              have x1 := hci 1 _ (by omega) rfl
              have x2 := hci 2 _ (by omega) rfl
              have x3 := hci 3 _ (by omega) rfl
              have x4 := hci 4 _ (by omega) rfl
              have x5 := hci 5 _ (by omega) rfl
              have x6 := hci 6 _ (by omega) rfl
              have x7 := hci 7 _ (by omega) rfl
              have x8 := hci 8 _ (by omega) rfl
              have x9 := hci 9 _ (by omega) rfl
              have x10 := hci 10 _ (by omega) rfl
              have x11 := hci 11 _ (by omega) rfl
              have x12 := hci 12 _ (by omega) rfl
              have x13 := hci 13 _ (by omega) rfl
              have x14 := hci 14 _ (by omega) rfl
              have x15 := hci 15 _ (by omega) rfl
              obtain ⟨sA, sn, sc, rfl⟩ : ∃ A n c, sv = .slice A n c := by
                obtain ⟨sv2, hse, hsv2⟩ := hK
                have hsv3 : sv = sv2 := by simpa [ucells] using hse
                subst hsv3
                rcases hsv2 with ⟨_, h⟩ | ⟨_, A, c, h, _⟩ <;> exact ⟨_, _, _, h⟩
              clear hci hK
              have hb1 : (0 ≤ (i2 : Int)) = True := eq_true (by omega)
              have hb2 : ((i2 : Int) < (j : Int)) = True := eq_true (by omega)
              go_wp2_with fail
              generalize hW : wr.alloc _ = W
              have bW : Below wr.heap.size wr W := by rw [← hW]; exact below_alloc (Below.refl _ _) _
              have fN : W.cell? ⟨wr.heap.size, 0, none⟩ = some (.string nm) := by rw [← hW]; simp
              have fK : W.cell? ⟨wr.heap.size, 3, none⟩ = some (.int .u8 kd) := by rw [← hW]; simp
              have HST2 := Aside0.mk (HST.out.belowW bW)
              have HW2 := Aside0.mk (below_step HW.out bW)
              have HO2 := Aside0.mk (Kd.R_below HO.out bW)
              clear hW x1 x2 x3 x4 x5 x6 x7 x8 x9 x10 x11 x12 x13 x14 x15 hc0
              obtain ⟨bx, hbx⟩ : ∃ bx, bx = wr.heap.size := ⟨_, rfl⟩
              rw [← hbx] at fN fK ⊢
              have HB2 : Aside0 (w1.heap.size + 2 ≤ bx) := ⟨by have := blk_lt HST.out.1; rw [← hbx] at this; exact this⟩
              have HN0 : Aside0 (u12.ownBlock ≠ some bx) := ⟨fun e => by have := Kd.R_lt HO.out _ e; omega⟩
              clear bW hbx HST HW HO
              have c0 := HST2.out.c0
              have hl1 := HST2.out.look0 nm HNM.out
              have hl2 : (Instr.lookup 72 (.map (some w1.heap.size)) (.string nm) false).run Try.prog W.drew = .ok (.int .i64 (g nm)) W.drew := HST2.out.drew.look0 nm HNM.out
              have HSTd := Aside0.mk HST2.out.drew
              have HWd := Aside0.mk (show Below w1.heap.size w1 W.drew from below_drew HW2.out)
              have HOd := Aside0.mk (Kd.R_drew HO2.out)
              have HBX : Aside0 (bx < W.drew.heap.size) := ⟨World.block_lt_of_cell? W _ fN⟩
              have fNd : W.drew.cell? ⟨bx, 0, none⟩ = some (.string nm) := fN
              have fKd : W.drew.cell? ⟨bx, 3, none⟩ = some (.int .u8 kd) := fK
              have HLT : Aside0 ((((B.outs (B.varsU k) g).map unt).take i2).length ≤ 10) := ⟨by rw [List.length_take, outs_len]; have := varsU_len k; omega⟩
              clear HST2 HW2 HO2 hl1
              go_region_held_law (fun w' => w'.cell? ⟨bx, 0, none⟩ = some (.string nm) ∧ w'.cell? ⟨bx, 3, none⟩ = some (.int .u8 kd) ∧ w'.cell? ⟨w1.heap.size + 1, 0, none⟩ = some (.map (some w1.heap.size))) (first | go_keep | (exact ⟨by assumption, by assumption, by assumption⟩))
                ((refine Kd.R_append_step k34 (w0 := w1) (W := W.drew) w1.heap.size (by simp [Region.wanted]) (.tmp 82) (.tmp 95) 30 34 _ 32 rfl Try.underlying30 info34 rfl (by decide) (by omega) u12 (((B.outs (B.varsU k) g).map unt).take i2) ⟨kd, IntKind.u64.wrap (g nm), ⟨#[]⟩⟩ [.int .u8 kd, .int .u64 (IntKind.u64.wrap (g nm)), .string ⟨#[]⟩] (fun b => w1.heap.size + 2 ≤ b) (fun _ => False) rfl rfl (k34_mkM _ _ _ ⟨kd, IntKind.u64.wrap (g nm), ⟨#[]⟩⟩) (fun _ h => h.elim) (fun b hb => by have := blk_lt HSTd.out.1; have := HBX.out; have := HB2.out; omega) HOd.out HWd.out HWd.out.size (by have := HLT.out; omega) ?_; intro v3 w3 ho hb hg hat; have HO3 := Aside0.mk ho; have HW3 := Aside0.mk hb; have hn1 : u12.ownBlock ≠ some (w1.heap.size + 1) := fun e => absurd (HOd.out.1 _ e) (by omega); have hn2 : u12.ownBlock ≠ some w1.heap.size := fun e => absurd (HOd.out.1 _ e) (by omega); have HST3 := Aside0.mk (HSTd.out.grownN hg hn1 hn2); have k1 : w3.cell? ⟨bx, 0, none⟩ = some (.string nm) := (World.cell?_of_block (hg.block bx HBX.out (fun e => HN0.out e.symm))).trans fNd; have k2 : w3.cell? ⟨bx, 3, none⟩ = some (.int .u8 kd) := (World.cell?_of_block (hg.block bx HBX.out (fun e => HN0.out e.symm))).trans fKd; have k3 := HST3.out.c0; clear ho hb hg hat))
              go_wp2
              go_roundw
              case rel => exact ⟨i2 + 1, by omega, by go_num, ⟨by rw [HSTEP.out]; exact HO3.out⟩, HST3, HW3⟩
              case measure => simp [intOf]; omega
            · obtain rfl : i2 = j := by omega
              go_wp2
              go_ret2
              have hfull : ((B.outs (B.varsU k) g).map unt).take i2 = (B.outs (B.varsU k) g).map unt := List.take_of_length_le (by rw [outs_len, ← HM.out]; exact Nat.le_refl _)
              rw [hfull] at HO
              rw [HRE2.out]
              exact ⟨u12, rfl, Kd.R_lower (Kd.R_mono HO.out (fun _ _ => trivial)) HB.out.size, below_step HB.out HW.out⟩

end Go.Proofs.Ytfadafgnahhmdaa.X
