import Derived.Test.YtfadafgnahhmdaaG
import Derived.Deep.Grids
import Derived.Deep.SlicePairs
import Derived.SizedLaws
import Derived.ChangeSlices
namespace Go.Proofs.Ytfadafgnahhmdaa.X
open Go.RowKit Go.Proofs.YtfadafgnahhmdaaW.PrintWords Go.Proofs.YtfadafgnahhmdaaW.PrintLast Go.Proofs.YtfadafgnahhmdaaW.PrintMore Go.Proofs.Ytfadafgnahhmdaa.E
attribute [local go_sem] max2_int min2_int max_two min_two max_three min_three max_four min_four
set_option linter.unusedVariables false
set_option linter.unusedSimpArgs false

open Go.ChangeShapes Go.WideShapes
/-- a slice of bools as the row hands it -/
theorem open_bools {H : Type} {enc : TypeId × Value → H} {W : World} {a : Option Addr} {len cap : Nat} {d : DataW H} {ps : List MemPlace} {ts : List TypeId} {ds : List (DataW H)} {j : Nat}
    (hsz : (DataW.weightsEach Try.prog ts ds).all (· ≤ reachBytes) = true) (ht : ts[j]? = some 44) (hd : ds[j]? = some d)
    (h : DataW.Trod enc Try.prog W 0 (fun _ => true) true 44 (.slice a len cap) d ps) : ∃ xs : List Bool, Kd.C Kd.bool W a len xs ∧ len ≤ 140737488351232 := by
  obtain ⟨fuel, hf⟩ := h
  rcases Go.Deep.open_bools Try.underlying44 Try.underlying4 (by kernel_rfl) hf with ⟨hcs, _⟩ | ⟨x, l, c, b, hcs, _, hl, hm, hx, hcell⟩
  · simp [Value.cells] at hcs
    obtain ⟨rfl, rfl, rfl⟩ := hcs
    exact ⟨[], Kd.C_nil _ _, by omega⟩
  · simp [Value.cells] at hcs
    obtain ⟨rfl, rfl, rfl⟩ := hcs
    obtain ⟨hx, _⟩ := Prod.mk.inj hx
    subst hx
    have hm2 : cap ≤ maxLen := hm
    unfold maxLen at hm2
    have hbd : len ≤ 140737488351232 := by
      have z := sized_slice hsz ht hd Try.underlying44
      rw [show Try.prog.bytesOf 4 = 1 from by kernel_rfl] at z
      simp at z
      unfold reachBytes at z
      omega
    refine ⟨(List.range len).map b, ⟨by simp, by omega, fun _ => ⟨x, rfl, fun i p hp => ⟨[.bool p], rfl, rfl, fun q u hu => ?_⟩⟩⟩, hbd⟩
    obtain ⟨hi, he⟩ := List.getElem?_eq_some_iff.1 hp
    simp at hi he
    subst he
    match q with
    | 0 =>
      simp at hu
      subst hu
      rw [show Kd.bool.sz = 1 from rfl, Nat.mul_one, Nat.add_zero]
      exact hcell i (by omega)
    | q + 1 => simp at hu
instance : Inhabited Tk := ⟨⟨false, 0⟩⟩
/-- a slice of ticks as the row hands it -/
theorem open_ticks {H : Type} {enc : TypeId × Value → H} {W : World} {a : Option Addr} {len cap : Nat} {d : DataW H} {ps : List MemPlace} {ts : List TypeId} {ds : List (DataW H)} {j : Nat}
    (hsz : (DataW.weightsEach Try.prog ts ds).all (· ≤ reachBytes) = true) (ht : ts[j]? = some 49) (hd : ds[j]? = some d)
    (h : DataW.Trod enc Try.prog W 0 (fun _ => true) true 49 (.slice a len cap) d ps) : ∃ xs : List Tk, (Kd.C kT W a len xs ∧ ∀ x ∈ xs, (Lit.int .i64 x.f1).wf = true) ∧ len * 16 ≤ 140737488351232 := by
  obtain ⟨fuel, hf⟩ := h
  rcases Go.Deep.open_slice_pairs Try.underlying49 Try.underlying52 (by kernel_rfl) rfl rfl (by kernel_rfl) (by kernel_rfl) hf with ⟨hcs, _⟩ | ⟨x, l, c, m, n, V0, V1, D0, D1, P0, P1, hcs, _, hl, hm, hmm, hx, hcell⟩
  · simp [Value.cells] at hcs
    obtain ⟨rfl, rfl, rfl⟩ := hcs
    exact ⟨[], ⟨Kd.C_nil _ _, by simp⟩, by omega⟩
  · simp [Value.cells] at hcs
    obtain ⟨rfl, rfl, rfl⟩ := hcs
    obtain ⟨hx, _⟩ := Prod.mk.inj hx
    subst hx
    simp at hmm
    subst hmm
    have hm2 : m ≤ maxLen := hm
    unfold maxLen at hm2
    have hbd : len * 16 ≤ 140737488351232 := by
      have z := sized_slice hsz ht hd Try.underlying49
      rw [show Try.prog.bytesOf 52 = 16 from by kernel_rfl] at z
      simp at z
      unfold reachBytes at z
      omega
    obtain ⟨f, hf⟩ := Go.Deep.choose_lt (α := Tk) (n := m) (p := fun i y => V0 i = .bool y.f0 ∧ V1 i = .int .i64 y.f1 ∧ (Lit.int .i64 y.f1).wf = true) (fun i hi => by
      obtain ⟨_, _, h0, h1⟩ := hcell i hi
      obtain ⟨b, e1, _⟩ := DataW.trod_bool Try.underlying4 h0
      obtain ⟨q, e2, _, hw⟩ := DataW.trod_int Try.underlying3 h1
      exact ⟨⟨b, q⟩, by simpa using e1, by simpa using e2, hw⟩)
    refine ⟨(List.range len).map f, ⟨⟨by simp, by omega, fun _ => ⟨x, rfl, fun i p hp => ?_⟩⟩, ?_⟩, hbd⟩
    · obtain ⟨hi, he⟩ := List.getElem?_eq_some_iff.1 hp
      simp at hi he
      subst he
      obtain ⟨e1, e2, _⟩ := hf i (by omega)
      obtain ⟨c0, c1, _, _⟩ := hcell i (by omega)
      refine ⟨[.bool (f i).f0, .int .i64 (f i).f1], rfl, kT_mk W (f i), fun q u hu => ?_⟩
      rw [show kT.sz = 2 from rfl]
      match q with
      | 0 =>
        simp at hu
        subst hu
        rw [← e1]
        exact c0
      | 1 =>
        simp at hu
        subst hu
        rw [← e2]
        exact c1
      | q + 2 => simp at hu
    · intro y hy
      obtain ⟨i, hi, rfl⟩ := List.mem_map.1 hy
      exact (hf i (by have := List.mem_range.1 hi; omega)).2.2

end Go.Proofs.Ytfadafgnahhmdaa.X

