import Derived.Test.YtfadafgnahhmdaaD
namespace Go.Proofs.Ytfadafgnahhmdaa.X
open Go.RowKit Go.Proofs.YtfadafgnahhmdaaW.PrintWords Go.Proofs.YtfadafgnahhmdaaW.PrintLast Go.Proofs.YtfadafgnahhmdaaW.PrintMore Go.Proofs.Ytfadafgnahhmdaa.E
attribute [local go_sem] max2_int min2_int max_two min_two max_three min_three max_four min_four
set_option linter.unusedVariables false
set_option linter.unusedSimpArgs false

/-! ### the lists that the laws go over: append of a literal and the argument -/
theorem info4 : (Try.prog.info? 4).map (fun i => (i.zero, i.size, i.bytes)) = some (some (.bool false), 1, 1) := by kernel_rfl
theorem R_litB (W : World) (base : Nat) (hb : base ≤ W.heap.size) (xs : List Bool) (cs : Array Value) (h : cs = (encs Value.bool xs).toArray) (hl : xs.length ≤ 1000) : Kd.R Kd.bool 4 (W.alloc (.cells cs 4)) base (fun _ => True) (.slice (some ⟨W.heap.size, 0, none⟩) xs.length xs.length) xs := by
  subst h
  exact ⟨fun _ _ => trivial, OwnRow.lit (ps := xs) W base (Kd.reps_scalar xs) hb (by omega)⟩
structure Tk where
  f0 : Bool
  f1 : Int
def kT : Kd Tk := Kd.iso (Kd.pair Kd.bool (Kd.int .i64)) (fun x : Tk => (x.f0, x.f1))
theorem kT_open {w : World} {x : Tk} {cs : List Value} (h : kT.K w x cs) : cs = [.bool x.f0, .int .i64 x.f1] := by
  obtain ⟨_, _, rfl, rfl, rfl⟩ := h
  exact rfl
theorem kT_mk (w : World) (x : Tk) : kT.K w x [.bool x.f0, .int .i64 x.f1] := ⟨[.bool x.f0], [.int .i64 x.f1], rfl, rfl, rfl⟩
theorem kT_mkM (w : World) (base : Nat) (ok : Nat → Prop) (x : Tk) : kT.M w base ok x [.bool x.f0, .int .i64 x.f1] := ⟨[.bool x.f0], [.int .i64 x.f1], rfl, rfl, rfl⟩
theorem info52 : (Try.prog.info? 52).map (fun i => (i.zero, i.size, i.bytes)) = some (some (.agg #[.bool false, .int .i64 0]), 2, 16) := by kernel_rfl
theorem R_litT (W : World) (base : Nat) (hb : base ≤ W.heap.size) (x : Tk) : Kd.R kT 52 (W.alloc (.cells #[.bool x.f0, .int .i64 x.f1] 52)) base (fun _ => True) (.slice (some ⟨W.heap.size, 0, none⟩) 1 1) [x] := by
  refine ⟨fun _ _ => trivial, OwnRow.lit (ps := [x]) W base (inner := [.bool x.f0, .int .i64 x.f1]) ?_ hb (by simp)⟩
  refine ⟨rfl, fun j p hj => ?_⟩
  match j with
  | 0 =>
    simp at hj
    subst hj
    exact kT_mkM _ _ _ x
  | j + 1 => simp at hj
theorem at_T {w : World} {A : Option Addr} {n : Nat} {xs : List Tk} (h : Kd.C kT w A n xs) (j : Nat) (h1 : j < n) : ∃ ad x, A = some ad ∧ xs[j]? = some x ∧ w.cell? (ad.add (j * 2)) = some (.bool x.f0) ∧ w.cell? ⟨(ad.add (j * 2)).block, (ad.add (j * 2)).off + 1, none⟩ = some (.int .i64 x.f1) := by
  obtain ⟨ad, rfl, hc⟩ := h.2.2 (by omega)
  have hl := h.1
  obtain ⟨x, hx⟩ : ∃ x, xs[j]? = some x := ⟨_, List.getElem?_eq_getElem (by omega)⟩
  obtain ⟨c, _, hK, hcell⟩ := hc j x hx
  obtain rfl := kT_open hK
  exact ⟨ad, x, rfl, hx, hcell 0 _ rfl, by rw [← add_field _ _ 1 (by omega)]; exact hcell 1 _ rfl⟩
theorem at_B {w : World} {A : Option Addr} {n : Nat} {xs : List Bool} (h : Kd.C Kd.bool w A n xs) (j : Nat) (h1 : j < n) : ∃ ad x, A = some ad ∧ xs[j]? = some x ∧ w.cell? (ad.add j) = some (.bool x) := by
  obtain ⟨ad, rfl, hc⟩ := h.2.2 (by omega)
  have hl := h.1
  obtain ⟨x, hx⟩ : ∃ x, xs[j]? = some x := ⟨_, List.getElem?_eq_getElem (by omega)⟩
  obtain ⟨c, _, hK, hcell⟩ := hc j x hx
  have hK2 : c = [.bool x] := hK
  subst hK2
  have := hcell 0 _ rfl
  rw [show Kd.bool.sz = 1 from rfl, Nat.mul_one, Nat.add_zero] at this
  exact ⟨ad, x, rfl, hx, this⟩
theorem startG (k : Int) (L : List S34) (n : Nat) (w : World) (h : startL k = L) (hn : L.length = n) (h0 : 0 < n) :
    Calls Try.prog 23 #[.int .i64 k] w fun e w' => ∃ g c, e = .returned (.slice (some ⟨g, 0, none⟩) n c) ∧ Kd.C k34 w' (some ⟨g, 0, none⟩) n L ∧ Below w.heap.size w w' := by
  refine (start_calls k w).mono ?_
  rintro e w' ⟨v, rfl, hR, hb⟩
  rw [h] at hR
  obtain ⟨g, cap, rfl, _, _, _⟩ := Kd.R_form hR (by omega)
  have hC := (Kd.R_reads' hR).2.2
  rw [hn] at hC ⊢
  exact ⟨g, cap, rfl, hC, hb⟩
theorem start3 : startL 3 = [bv false, bv false, bv false] := by simp [startL, B.varsU, B.vars, bv, B.b2i]
theorem start4 : startL 4 = [bv false, bv false, bv true] := by simp [startL, B.varsU, B.vars, bv, B.b2i]
theorem start5 : startL 5 = [bv false, bv false, iv 0, bv false, iv 0, bv false] := by simp [startL, B.varsU, B.vars, bv, iv, B.b2i, u64_0]
theorem start7 : startL 7 = [bv false, bv false, bv false, bv false, iv 0, bv false, bv false, iv 0, bv false, bv false] := by simp [startL, B.varsU, B.vars, bv, iv, B.b2i, u64_0]
theorem start8 : startL 8 = [bv false, tv 0, bv false, tv 0, bv false, tv 0] := by simp [startL, B.varsU, B.vars, bv, tv, B.b2i, u64_0]
theorem start9 : startL 9 = [bv false, tv 0, bv false, tv 0, bv false, tv 0] := by simp [startL, B.varsU, B.vars, bv, tv, B.b2i, u64_0]
theorem start10 : startL 10 = [bv false, tv 0, bv false, tv 0, bv false, tv 0] := by simp [startL, B.varsU, B.vars, bv, tv, B.b2i, u64_0]

end Go.Proofs.Ytfadafgnahhmdaa.X

