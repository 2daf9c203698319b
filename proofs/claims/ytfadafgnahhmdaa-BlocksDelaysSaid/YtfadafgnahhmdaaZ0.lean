import Derived.Test.YtfadafgnahhmdaaT1
import Derived.Test.YtfadafgnahhmdaaT2
import Derived.Test.YtfadafgnahhmdaaT3
import Derived.Test.YtfadafgnahhmdaaT4
import Derived.Test.YtfadafgnahhmdaaT5
import Derived.Test.YtfadafgnahhmdaaT6
import Derived.Test.YtfadafgnahhmdaaMay
import Derived.Deep.RegionWith
import Derived.Deep.RegionLaw
import Derived.BigRegion
namespace Go.Proofs.Ytfadafgnahhmdaa.X
open Go.RowKit Go.Proofs.YtfadafgnahhmdaaW.PrintWords Go.Proofs.YtfadafgnahhmdaaW.PrintLast Go.Proofs.YtfadafgnahhmdaaW.PrintMore Go.Proofs.Ytfadafgnahhmdaa.E
attribute [local go_sem] max2_int min2_int max_two min_two max_three min_three max_four min_four
set_option linter.unusedVariables false
set_option linter.unusedSimpArgs false

open B (upd b2i sinceF spanF)
/-- a value as numbers -/
def tup (x : S34) : Int × Int × ByteArray := (x.f0, x.f1, x.f2)
def unt (p : Int × Int × ByteArray) : S34 := ⟨p.1, p.2.1, p.2.2⟩
theorem vars_name (k : Int) : ∀ x ∈ B.vars k, x.1.size ≤ 3 := by
  refine B.vars_ind (P := fun l => ∀ x ∈ l, x.1.size ≤ 3) k ?_ ?_ ?_ ?_ ?_ ?_ ?_ ?_ ?_ ?_ ?_ <;> decide
theorem varsU_name (k : Int) (j : Nat) (x : ByteArray × Int × Int × Bool) (h : (B.varsU k)[j]? = some x) : x.1.size ≤ maxLen := by
  have hm := List.mem_of_getElem? h
  unfold B.varsU at hm
  obtain ⟨y, hy, rfl⟩ := List.mem_map.1 hm
  have := vars_name k y hy
  unfold maxLen
  simp only
  omega
theorem wpList_put {w w' : World} {ops : Array Oper} {rest : List Oper} {o : Oper} {a : Act} {Q : Exit → Act → World → Prop} (hg : o.guard = none) (m x v : Operand) (hop : o.op = Op.mapUpdate 72 m x v)
    (mb : Nat) (s : ByteArray) (u : Int) (hm : a.eval m = .map (some mb)) (hx : a.eval x = .string s) (hv : a.eval v = .int .i64 u) (hrun : (Instr.mapUpdate 72 (.map (some mb)) (.string s) (.int .i64 u)).run Try.prog w = .ok () w')
    (hK : wpList Try.prog ops Q rest (a.put o.dst undef) w') : wpList Try.prog ops Q (o :: rest) a w := by
  refine wpList_plain hg fun K' hK' => ?_
  unfold Oper.wp
  simp [execOp, hop, hm, hx, hv, hrun, Result.andThen]
  exact hK' _ _ hK
theorem St_made (w : World) (t : Int) : St ((w.alloc (.map #[] 0)).alloc (.cells #[.map (some w.heap.size), .int .i64 t] 74)) (w.heap.size + 1) w.heap.size 0 (fun _ => 0) t := by
  refine ⟨?_, (Mp.made w).kept (World.grownBy_alloc _ _ none) (by simp)⟩
  have h := heap_alloc_new (w.alloc (.map #[] 0)) (.cells #[.map (some w.heap.size), .int .i64 t] 74)
  simpa using h
theorem pairs_step (k : Int) (l : List S34) (j : Nat) (x : ByteArray × Int × Int × Bool) (c : S34) (hx : (B.varsU k)[j]? = some x) (hc : l[j]? = some c) :
    B.pairs ((B.varsU k).take (j + 1)) ((l.map tup).take (j + 1)) = B.pairs ((B.varsU k).take j) ((l.map tup).take j) ++ [(x.1, wrap64 c.f1)] := by
  obtain ⟨h1, h2⟩ := List.getElem?_eq_some_iff.1 hx
  obtain ⟨h3, h4⟩ := List.getElem?_eq_some_iff.1 hc
  unfold B.pairs
  rw [List.take_succ_eq_append_getElem h1, List.take_succ_eq_append_getElem (by simpa using h3), List.zip_append (by simp; omega), List.map_append]
  simp [h2, h4, tup]
theorem okAll_step (k : Int) (l : List S34) (j : Nat) (x : ByteArray × Int × Int × Bool) (c : S34) (hx : (B.varsU k)[j]? = some x) (hc : l[j]? = some c) :
    B.okAll ((B.varsU k).take (j + 1)) ((l.map tup).take (j + 1)) = (B.okAll ((B.varsU k).take j) ((l.map tup).take j) && B.okC x.2.2.1 (tup c)) := by
  obtain ⟨h1, h2⟩ := List.getElem?_eq_some_iff.1 hx
  obtain ⟨h3, h4⟩ := List.getElem?_eq_some_iff.1 hc
  unfold B.okAll
  rw [List.take_succ_eq_append_getElem h1, List.take_succ_eq_append_getElem (by simpa using h3), List.zip_append (by simp; omega), List.all_append]
  simp [h2, h4, tup]
theorem okAll_no (vs : List (ByteArray × Int × Int × Bool)) (cs : List (Int × Int × ByteArray)) (j : Nat) (h : B.okAll (vs.take j) (cs.take j) = false) : B.okAll vs cs = false := by
  cases hh : B.okAll vs cs with
  | false => rfl
  | true =>
    unfold B.okAll at h hh
    rw [← h]
    symm
    rw [List.all_eq_true]
    intro p hp
    rw [List.all_eq_true] at hh
    refine hh p ?_
    have : (vs.take j).zip (cs.take j) = (vs.zip cs).take j := by simp [List.zip, List.take_zipWith]
    rw [this] at hp
    exact List.mem_of_mem_take hp

theorem steps_calls (w : World) : Calls Try.prog 42 #[] w fun e w' => e = .returned (.slice (some ⟨w.heap.size, 0, none⟩) 11 11) ∧ Below w.heap.size w w' ∧ ∀ i : Nat, 1 ≤ i → i ≤ 10 → w'.cell? ⟨w.heap.size, i, none⟩ = some (.func (Fn.func (51 + i)) #[] #[]) := by
  go_enter Try.func42, Try.ntmps42
  go_wp2
  refine bodyPost_ret (v := _) (by simp [results, Try.results42, go_sem]) rfl ⟨rfl, below_alloc (Below.refl _ _) _, fun i h1 h2 => ?_⟩
  have h : i = 1 ∨ i = 2 ∨ i = 3 ∨ i = 4 ∨ i = 5 ∨ i = 6 ∨ i = 7 ∨ i = 8 ∨ i = 9 ∨ i = 10 := by omega
  rcases h with rfl | rfl | rfl | rfl | rfl | rfl | rfl | rfl | rfl | rfl <;> simp

theorem St.belowW {w w' : World} {sb mb n : Nat} {f : ByteArray → Int} {now : Int} (h : St w sb mb n f now) (b : Below w.heap.size w w') : St w' sb mb n f now :=
  ⟨(b.block _ (blk_lt h.1)).trans h.1, h.2.kept (grown_of_below b none) (by simp)⟩
theorem St.grownN {w w' : World} {sb mb n : Nat} {f : ByteArray → Int} {now : Int} {own : Option Nat} (h : St w sb mb n f now) (g : w.grownBy w' own) (h1 : own ≠ some sb) (h2 : own ≠ some mb) : St w' sb mb n f now :=
  ⟨(g.block _ (blk_lt h.1) (fun e => h1 e.symm)).trans h.1, h.2.kept g (fun e => h2 e.symm)⟩
theorem outs_step (k : Int) (g : ByteArray → Int) (j : Nat) (x : ByteArray × Int × Int × Bool) (hx : (B.varsU k)[j]? = some x) : ((B.outs (B.varsU k) g).map unt).take (j + 1) = ((B.outs (B.varsU k) g).map unt).take j ++ [⟨x.2.2.1, IntKind.u64.wrap (g x.1), ⟨#[]⟩⟩] := by
  obtain ⟨h1, h2⟩ := List.getElem?_eq_some_iff.1 hx
  rw [List.take_succ_eq_append_getElem (by simpa [B.outs] using h1)]
  simp [B.outs, h2, unt]
theorem outs_len (k : Int) (g : ByteArray → Int) : ((B.outs (B.varsU k) g).map unt).length = (B.varsU k).length := by simp [B.outs]

end Go.Proofs.Ytfadafgnahhmdaa.X

