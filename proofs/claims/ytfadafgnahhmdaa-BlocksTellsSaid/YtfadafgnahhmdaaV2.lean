import Derived.Test.YtfadafgnahhmdaaV1
import Derived.Test.YtfadafgnahhmdaaB
namespace Go.Proofs.Ytfadafgnahhmdaa.X
open Go.RowKit Go.Proofs.YtfadafgnahhmdaaW.PrintWords Go.Proofs.YtfadafgnahhmdaaW.PrintLast Go.Proofs.YtfadafgnahhmdaaW.PrintMore Go.Proofs.Ytfadafgnahhmdaa.E
attribute [local go_sem] max2_int min2_int max_two min_two max_three min_three max_four min_four
set_option linter.unusedVariables false
set_option linter.unusedSimpArgs false

/-! ### What is told of the variables: name, class, kind, and whether one begins TRUE -/
def ucells (x : ByteArray × Int × Int × Bool) (sv : Value) : List Value :=
  [.string x.1, .int .i64 0, .int .i64 x.2.1, .int .u8 x.2.2.1, .bool false, .int .i64 0, .int .i64 0, .int .i64 0, .bool false, .int .i64 0, .int .i64 0, .string ⟨#[]⟩, sv, .bool false, .bool false, .string ⟨#[]⟩]
def KU (w : World) (x : ByteArray × Int × Int × Bool) (cs : List Value) : Prop :=
  ∃ sv, cs = ucells x sv ∧ ((x.2.2.2 = false ∧ sv = .slice none 0 0) ∨ (x.2.2.2 = true ∧ ∃ A c, sv = .slice A 1 c ∧ 1 ≤ c ∧ Kd.C k34 w A 1 [⟨1, 1, ⟨#[]⟩⟩]))
def kU : Kd (ByteArray × Int × Int × Bool) where
  sz := 16
  E := []
  K := KU
  M := fun _ _ _ _ _ => False
  K_len := by rintro w x cs ⟨sv, rfl, _⟩; rfl
  K_one := by
    rintro w x cs ⟨sv, rfl, h⟩ u hu
    have hs : sv.oneCell' = true := by
      rcases h with ⟨_, rfl⟩ | ⟨_, A, c, rfl, _⟩ <;> rfl
    simp only [ucells, List.mem_cons, List.not_mem_nil, or_false] at hu
    rcases hu with rfl | rfl | rfl | rfl | rfl | rfl | rfl | rfl | rfl | rfl | rfl | rfl | rfl | rfl | rfl | rfl <;> first | rfl | exact hs
  K_below := by
    rintro w w1 x cs hb ⟨sv, rfl, h⟩
    refine ⟨sv, rfl, ?_⟩
    rcases h with h | ⟨h, A, c, h1, h2, h3⟩
    · exact .inl h
    · exact .inr ⟨h, A, c, h1, h2, Kd.C_below h3 hb⟩
  K_of_M := fun h => h.elim
  M_mono := fun _ h => h
  M_bound := fun h => h.elim
  M_move := fun _ h => h
  M_lower := fun _ h => h
theorem kU_of_kV {w : World} {A : Option Addr} {n : Nat} {xs : List (ByteArray × Int × Int)} (h : Kd.C kV w A n xs) : Kd.C kU w A n (xs.map fun x => (x.1, x.2.1, x.2.2, false)) := by
  refine ⟨by simpa using h.1, h.2.1, fun hn => ?_⟩
  obtain ⟨ad, e, hc⟩ := h.2.2 hn
  refine ⟨ad, e, fun j p hj => ?_⟩
  rw [List.getElem?_map] at hj
  obtain ⟨q, hq, rfl⟩ := Option.map_eq_some_iff.1 hj
  obtain ⟨c, hl, hK, hcell⟩ := hc j q hq
  refine ⟨c, hl, ⟨.slice none 0 0, ?_, .inl ⟨rfl, rfl⟩⟩, hcell⟩
  exact hK
theorem own_len3 {w : World} {base : Nat} {v : Value} {xs : List (ByteArray × Int × Int)} (h : Kd.R kV 66 w base (fun _ => True) v xs) : ∃ A c, v = .slice A xs.length c ∧ xs.length ≤ c ∧ Kd.C kU w A xs.length (xs.map fun x => (x.1, x.2.1, x.2.2, false)) := by
  obtain ⟨A, c, h1, h2, h3⟩ := Kd.R_reads h
  exact ⟨A, c, h1, h2, kU_of_kV h3⟩
/-- A literal of one value. -/
theorem lit_one (W : World) (x : S34) : Kd.C k34 (W.alloc (.cells #[.int .u8 x.f0, .int .u64 x.f1, .string x.f2] 34)) (some ⟨W.heap.size, 0, none⟩) 1 [x] := by
  refine ⟨rfl, by omega, fun _ => ⟨_, rfl, fun j p hj => ?_⟩⟩
  have hj0 : j = 0 := by
    have := (List.getElem?_eq_some_iff.1 hj).1
    simp at this
    exact this
  subst hj0
  simp at hj
  subst hj
  refine ⟨_, rfl, k34_mk _ x, fun i u hu => ?_⟩
  rw [Nat.zero_mul, Nat.zero_add, add_plain]
  refine cell_lit W _ 34 i u ?_
  simpa using hu
/-- M of F_TRIG begins TRUE: behind the store. -/
theorem fall_row {w W : World} {g cap : Nat} (h : Kd.R kV 66 W w.heap.size (fun _ => True) (.slice (some ⟨g, 0, none⟩) 3 cap) (B.vars 4)) (hg : g < W.heap.size) (ad : Addr) (had : ad.block ≠ g) (hC : Kd.C k34 W (some ad) 1 [⟨1, 1, ⟨#[]⟩⟩]) :
    Kd.C kU (W.setCell ⟨g, 44, none⟩ (.slice (some ad) 1 1)) (some ⟨g, 0, none⟩) 3 [((⟨#[67, 76, 75]⟩ : ByteArray), 1, 1, false), ((⟨#[81]⟩ : ByteArray), 2, 1, false), ((⟨#[77]⟩ : ByteArray), 4, 1, true)] := by
  obtain ⟨_, _, hR⟩ := Kd.R_reads' h
  have hR3 : Kd.C kV W (some ⟨g, 0, none⟩) 3 (B.vars 4) := hR
  have hC2 : Kd.C k34 (W.setCell ⟨g, 44, none⟩ (.slice (some ad) 1 1)) (some ad) 1 [⟨1, 1, ⟨#[]⟩⟩] := by
    refine ⟨rfl, by omega, fun _ => ⟨ad, rfl, fun j p hj => ?_⟩⟩
    obtain ⟨ad', e, hc⟩ := hC.2.2 (by omega)
    injection e with e
    subst e
    obtain ⟨c, hl, hK, hcell⟩ := hc j p hj
    exact ⟨c, hl, k34_open hK ▸ k34_mk _ _, fun i u hu => (cell_far (p := ⟨g, 44, none⟩) (by rw [add_block]; exact had) _).trans (hcell i u hu)⟩
  obtain ⟨ad', e, hc⟩ := hR3.2.2 (by omega)
  injection e with e
  subst e
  have hcells : ∀ (j : Nat) (p : ByteArray × Int × Int), (B.vars 4)[j]? = some p → ∀ i u, (vcells p)[i]? = some u → W.cell? ⟨g, j * 16 + i, none⟩ = some u := by
    intro j p hj i u hu
    obtain ⟨c, hl, hK, hcell⟩ := hc j p hj
    have hK' : c = vcells p := hK
    subst hK'
    have := hcell i u hu
    rwa [add_plain] at this
  have hset : ∀ o u, o ≠ 44 → W.cell? ⟨g, o, none⟩ = some u → (W.setCell ⟨g, 44, none⟩ (.slice (some ad) 1 1)).cell? ⟨g, o, none⟩ = some u := by
    intro o u ho hu
    exact (World.cell?_setCell_other _ _ _ _ (by intro he; injection he with _ he; exact ho he.symm)).trans hu
  refine ⟨rfl, by omega, fun _ => ⟨_, rfl, fun j p hj => ?_⟩⟩
  have hj3 : j < 3 := by have := (List.getElem?_eq_some_iff.1 hj).1; simpa using this
  match j, hj3, hj with
  | 0, _, hj =>
    simp at hj
    subst hj
    refine ⟨_, rfl, ⟨.slice none 0 0, rfl, .inl ⟨rfl, rfl⟩⟩, fun i u hu => ?_⟩
    rw [add_plain]
    have hi : i < 16 := by have := (List.getElem?_eq_some_iff.1 hu).1; simpa [ucells] using this
    exact hset _ _ (show 0 * 16 + i ≠ 44 by omega) (hcells 0 _ rfl i u hu)
  | 1, _, hj =>
    simp at hj
    subst hj
    refine ⟨_, rfl, ⟨.slice none 0 0, rfl, .inl ⟨rfl, rfl⟩⟩, fun i u hu => ?_⟩
    rw [add_plain]
    have hi : i < 16 := by have := (List.getElem?_eq_some_iff.1 hu).1; simpa [ucells] using this
    exact hset _ _ (show 1 * 16 + i ≠ 44 by omega) (hcells 1 _ rfl i u hu)
  | 2, _, hj =>
    simp at hj
    subst hj
    refine ⟨_, rfl, ⟨.slice (some ad) 1 1, rfl, .inr ⟨rfl, some ad, 1, rfl, Nat.le_refl _, hC2⟩⟩, fun i u hu => ?_⟩
    rw [add_plain]
    have hi : i < 16 := by have := (List.getElem?_eq_some_iff.1 hu).1; simpa [ucells] using this
    by_cases h12 : i = 12
    · subst h12
      have hu' : u = .slice (some ad) 1 1 := by simpa [ucells] using hu.symm
      subst hu'
      exact World.cell?_setCell_same _ _ _ (hcells 2 _ rfl 12 (.slice none 0 0) rfl)
    · refine hset _ _ (show 2 * 16 + i ≠ 44 by omega) (hcells 2 _ rfl i u ?_)
      rw [← hu]
      have hlist : ∀ k, k < 16 → k ≠ 12 → (vcells ((⟨#[77]⟩ : ByteArray), 4, 1))[k]? = (ucells ((⟨#[77]⟩ : ByteArray), 4, 1, true) (.slice (some ad) 1 1))[k]? := by
        intro k hk hk12
        match k, hk, hk12 with
        | 0, _, _ | 1, _, _ | 2, _, _ | 3, _, _ | 4, _, _ | 5, _, _ | 6, _, _ | 7, _, _ | 8, _, _ | 9, _, _ | 10, _, _ | 11, _, _ | 13, _, _ | 14, _, _ | 15, _, _ => rfl
        | k + 16, hk, _ => omega
      exact hlist i hi h12

end Go.Proofs.Ytfadafgnahhmdaa.X

