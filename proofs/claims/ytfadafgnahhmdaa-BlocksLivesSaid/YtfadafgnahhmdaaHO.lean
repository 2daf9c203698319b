import Derived.Test.YtfadafgnahhmdaaHL
import Derived.Test.YtfadafgnahhmdaaHM
import Derived.Test.YtfadafgnahhmdaaHN
import Derived.Test.YtfadafgnahhmdaaHB
import Derived.Test.YtfadafgnahhmdaaHG
import Derived.Deep.RegionHeld3
import Derived.Deep.DeepCutAuto
import Derived.Deep.RegionLaw
import Derived.Deep.RegionHeldLaw
import Derived.Deep.CutBlock
set_option linter.unusedVariables false
set_option linter.unusedSimpArgs false
namespace Go.Proofs.Ytfadafgnahhmdaa.X
open Go.RowKit Go.Proofs.YtfadafgnahhmdaaW.PrintWords Go.Proofs.YtfadafgnahhmdaaW.PrintLast Go.Proofs.YtfadafgnahhmdaaW.PrintMore Go.Proofs.Ytfadafgnahhmdaa.E
attribute [local go_sem] max2_int min2_int max_two min_two max_three min_three max_four min_four
set_option linter.unusedVariables false
set_option linter.unusedSimpArgs false

open B (b2i upd)
/-! ### The document's steps, on the cells -/
def nsK (k : Int) : List ByteArray := (B.varsU k).map (·.1)
def numsL (l : List S34) : List Int := l.map fun c => wrap64 c.f1
theorem w64_range (n : Int) : -9223372036854775808 ≤ wrap64 n ∧ wrap64 n ≤ 9223372036854775807 := by unfold wrap64; omega
theorem okC_bool {c : S34} (h : B.okC 1 (tup c) = true) (h0 : 0 ≤ c.f1) : wrap64 c.f1 = b2i (c.f1 == 1) := by
  have h1 : c.f1 ≤ 1 := by
    simp [B.okC, B.mayP, tup] at h
    exact of_decide_eq_true h.2.2
  have h2 : c.f1 = 0 ∨ c.f1 = 1 := by omega
  rcases h2 with e | e <;> rw [e] <;> (unfold wrap64; decide)
theorem grown_refl' (w : World) (row : Option Nat) : w.grownBy w row := World.grownBy.refl w row
theorem rm1_calls {w : World} {base : Nat} {A : Option Addr} {c g cap : Nat} {l : List S34} (hok : B.okAll (B.varsU 1) (l.map tup) = true) (hl : l.length = 3) (hp : ∀ x ∈ l, 0 ≤ x.f1) (h : S2 w base A 3 c g 3 cap (nsK 1) (numsL l)) (t : Int) :
    Calls Try.prog 44 #[.agg #[.slice A 3 c, .slice (some ⟨g, 0, none⟩) 3 cap], .int .i64 1] w fun e w' => e = .returned (.tuple #[]) ∧ S2 w' base A 3 c g 3 cap (nsK 1) ((nsK 1).map (B.stepF 1 (B.loadF ((nsK 1).zip (numsL l))) t)) ∧ w.grownBy w' (some g) := by
  have hns : nsK 1 = n1 := n_varsU.1
  rw [hns] at h ⊢
  match l, hl, hok, hp, h with
  | [x0, x1, x2], _, hok, hp, h =>
    simp [B.varsU, B.vars, B.okAll] at hok
    obtain ⟨k0, k1, k2⟩ := hok
    have e0 := okC_bool k0 (hp x0 (by simp))
    have e1 := okC_bool k1 (hp x1 (by simp))
    have e2 := okC_bool k2 (hp x2 (by simp))
    have hN : numsL [x0, x1, x2] = [b2i (x0.f1 == 1), b2i (x1.f1 == 1), b2i (x2.f1 == 1)] := by simp [numsL, e0, e1, e2]
    rw [hN] at h ⊢
    rw [lst1]
    refine (plain1 _ _ _ ⟨h⟩ ⟨grown_refl' _ _⟩).mono ?_
    rintro e w' ⟨rfl, hs, hg⟩
    exact ⟨rfl, hs.out, hg.out⟩
theorem rm2_calls {w : World} {base : Nat} {A : Option Addr} {c g cap : Nat} {l : List S34} (hok : B.okAll (B.varsU 2) (l.map tup) = true) (hl : l.length = 3) (hp : ∀ x ∈ l, 0 ≤ x.f1) (h : S2 w base A 3 c g 3 cap (nsK 2) (numsL l)) (t : Int) :
    Calls Try.prog 44 #[.agg #[.slice A 3 c, .slice (some ⟨g, 0, none⟩) 3 cap], .int .i64 2] w fun e w' => e = .returned (.tuple #[]) ∧ S2 w' base A 3 c g 3 cap (nsK 2) ((nsK 2).map (B.stepF 2 (B.loadF ((nsK 2).zip (numsL l))) t)) ∧ w.grownBy w' (some g) := by
  have hns : nsK 2 = n2 := n_varsU.2.1
  rw [hns] at h ⊢
  match l, hl, hok, hp, h with
  | [x0, x1, x2], _, hok, hp, h =>
    simp [B.varsU, B.vars, B.okAll] at hok
    obtain ⟨k0, k1, k2⟩ := hok
    have e0 := okC_bool k0 (hp x0 (by simp))
    have e1 := okC_bool k1 (hp x1 (by simp))
    have e2 := okC_bool k2 (hp x2 (by simp))
    have hN : numsL [x0, x1, x2] = [b2i (x0.f1 == 1), b2i (x1.f1 == 1), b2i (x2.f1 == 1)] := by simp [numsL, e0, e1, e2]
    rw [hN] at h ⊢
    rw [lst2]
    refine (plain2 _ _ _ ⟨h⟩ ⟨grown_refl' _ _⟩).mono ?_
    rintro e w' ⟨rfl, hs, hg⟩
    exact ⟨rfl, hs.out, hg.out⟩
theorem rm3_calls {w : World} {base : Nat} {A : Option Addr} {c g cap : Nat} {l : List S34} (hok : B.okAll (B.varsU 3) (l.map tup) = true) (hl : l.length = 3) (hp : ∀ x ∈ l, 0 ≤ x.f1) (h : S2 w base A 3 c g 3 cap (nsK 3) (numsL l)) (t : Int) :
    Calls Try.prog 44 #[.agg #[.slice A 3 c, .slice (some ⟨g, 0, none⟩) 3 cap], .int .i64 3] w fun e w' => e = .returned (.tuple #[]) ∧ S2 w' base A 3 c g 3 cap (nsK 3) ((nsK 3).map (B.stepF 3 (B.loadF ((nsK 3).zip (numsL l))) t)) ∧ w.grownBy w' (some g) := by
  have hns : nsK 3 = n3 := n_varsU.2.2.1
  rw [hns] at h ⊢
  match l, hl, hok, hp, h with
  | [x0, x1, x2], _, hok, hp, h =>
    simp [B.varsU, B.vars, B.okAll] at hok
    obtain ⟨k0, k1, k2⟩ := hok
    have e0 := okC_bool k0 (hp x0 (by simp))
    have e1 := okC_bool k1 (hp x1 (by simp))
    have e2 := okC_bool k2 (hp x2 (by simp))
    have hN : numsL [x0, x1, x2] = [b2i (x0.f1 == 1), b2i (x1.f1 == 1), b2i (x2.f1 == 1)] := by simp [numsL, e0, e1, e2]
    rw [hN] at h ⊢
    rw [lst3]
    refine (plain3 _ _ _ ⟨h⟩ ⟨grown_refl' _ _⟩).mono ?_
    rintro e w' ⟨rfl, hs, hg⟩
    exact ⟨rfl, hs.out, hg.out⟩
theorem rm4_calls {w : World} {base : Nat} {A : Option Addr} {c g cap : Nat} {l : List S34} (hok : B.okAll (B.varsU 4) (l.map tup) = true) (hl : l.length = 3) (hp : ∀ x ∈ l, 0 ≤ x.f1) (h : S2 w base A 3 c g 3 cap (nsK 4) (numsL l)) (t : Int) :
    Calls Try.prog 44 #[.agg #[.slice A 3 c, .slice (some ⟨g, 0, none⟩) 3 cap], .int .i64 4] w fun e w' => e = .returned (.tuple #[]) ∧ S2 w' base A 3 c g 3 cap (nsK 4) ((nsK 4).map (B.stepF 4 (B.loadF ((nsK 4).zip (numsL l))) t)) ∧ w.grownBy w' (some g) := by
  have hns : nsK 4 = n4 := n_varsU.2.2.2.1
  rw [hns] at h ⊢
  match l, hl, hok, hp, h with
  | [x0, x1, x2], _, hok, hp, h =>
    simp [B.varsU, B.vars, B.okAll] at hok
    obtain ⟨k0, k1, k2⟩ := hok
    have e0 := okC_bool k0 (hp x0 (by simp))
    have e1 := okC_bool k1 (hp x1 (by simp))
    have e2 := okC_bool k2 (hp x2 (by simp))
    have hN : numsL [x0, x1, x2] = [b2i (x0.f1 == 1), b2i (x1.f1 == 1), b2i (x2.f1 == 1)] := by simp [numsL, e0, e1, e2]
    rw [hN] at h ⊢
    rw [lst4]
    refine (plain4 _ _ _ ⟨h⟩ ⟨grown_refl' _ _⟩).mono ?_
    rintro e w' ⟨rfl, hs, hg⟩
    exact ⟨rfl, hs.out, hg.out⟩
theorem rm5_calls {w : World} {base : Nat} {A : Option Addr} {c g cap : Nat} {l : List S34} (hok : B.okAll (B.varsU 5) (l.map tup) = true) (hl : l.length = 6) (hp : ∀ x ∈ l, 0 ≤ x.f1) (h : S2 w base A 6 c g 6 cap (nsK 5) (numsL l)) (t : Int) :
    Calls Try.prog 45 #[.agg #[.slice A 6 c, .slice (some ⟨g, 0, none⟩) 6 cap], .int .i64 5] w fun e w' => e = .returned (.tuple #[]) ∧ S2 w' base A 6 c g 6 cap (nsK 5) ((nsK 5).map (B.stepF 5 (B.loadF ((nsK 5).zip (numsL l))) t)) ∧ w.grownBy w' (some g) := by
  have hns : nsK 5 = n5 := n_varsU.2.2.2.2.1
  rw [hns] at h ⊢
  match l, hl, hok, hp, h with
  | [x0, x1, x2, x3, x4, x5], _, hok, hp, h =>
    simp [B.varsU, B.vars, B.okAll] at hok
    obtain ⟨k0, k1, k2, k3, k4, k5⟩ := hok
    have e0 := okC_bool k0 (hp x0 (by simp))
    have e1 := okC_bool k1 (hp x1 (by simp))
    obtain ⟨y2, hy2⟩ : ∃ y, wrap64 x2.f1 = y := ⟨_, rfl⟩
    have r2 := w64_range x2.f1
    rw [hy2] at r2
    have e3 := okC_bool k3 (hp x3 (by simp))
    obtain ⟨y4, hy4⟩ : ∃ y, wrap64 x4.f1 = y := ⟨_, rfl⟩
    have r4 := w64_range x4.f1
    rw [hy4] at r4
    have e5 := okC_bool k5 (hp x5 (by simp))
    have hN : numsL [x0, x1, x2, x3, x4, x5] = [b2i (x0.f1 == 1), b2i (x1.f1 == 1), y2, b2i (x3.f1 == 1), y4, b2i (x5.f1 == 1)] := by simp [numsL, e0, e1, hy2, e3, hy4, e5]
    rw [hN] at h ⊢
    rw [lst5]
    refine (count5 _ _ _ _ _ _ r4.1 r4.2 ⟨h⟩ ⟨grown_refl' _ _⟩).mono ?_
    rintro e w' ⟨rfl, hs, hg⟩
    exact ⟨rfl, hs.out, hg.out⟩
theorem rm6_calls {w : World} {base : Nat} {A : Option Addr} {c g cap : Nat} {l : List S34} (hok : B.okAll (B.varsU 6) (l.map tup) = true) (hl : l.length = 6) (hp : ∀ x ∈ l, 0 ≤ x.f1) (h : S2 w base A 6 c g 6 cap (nsK 6) (numsL l)) (t : Int) :
    Calls Try.prog 45 #[.agg #[.slice A 6 c, .slice (some ⟨g, 0, none⟩) 6 cap], .int .i64 6] w fun e w' => e = .returned (.tuple #[]) ∧ S2 w' base A 6 c g 6 cap (nsK 6) ((nsK 6).map (B.stepF 6 (B.loadF ((nsK 6).zip (numsL l))) t)) ∧ w.grownBy w' (some g) := by
  have hns : nsK 6 = n6 := n_varsU.2.2.2.2.2.1
  rw [hns] at h ⊢
  match l, hl, hok, hp, h with
  | [x0, x1, x2, x3, x4, x5], _, hok, hp, h =>
    simp [B.varsU, B.vars, B.okAll] at hok
    obtain ⟨k0, k1, k2, k3, k4, k5⟩ := hok
    have e0 := okC_bool k0 (hp x0 (by simp))
    have e1 := okC_bool k1 (hp x1 (by simp))
    obtain ⟨y2, hy2⟩ : ∃ y, wrap64 x2.f1 = y := ⟨_, rfl⟩
    have r2 := w64_range x2.f1
    rw [hy2] at r2
    have e3 := okC_bool k3 (hp x3 (by simp))
    obtain ⟨y4, hy4⟩ : ∃ y, wrap64 x4.f1 = y := ⟨_, rfl⟩
    have r4 := w64_range x4.f1
    rw [hy4] at r4
    have e5 := okC_bool k5 (hp x5 (by simp))
    have hN : numsL [x0, x1, x2, x3, x4, x5] = [b2i (x0.f1 == 1), b2i (x1.f1 == 1), y2, b2i (x3.f1 == 1), y4, b2i (x5.f1 == 1)] := by simp [numsL, e0, e1, hy2, e3, hy4, e5]
    rw [hN] at h ⊢
    rw [lst6]
    refine (count6 _ _ _ _ _ _ r4.1 r4.2 ⟨h⟩ ⟨grown_refl' _ _⟩).mono ?_
    rintro e w' ⟨rfl, hs, hg⟩
    exact ⟨rfl, hs.out, hg.out⟩
theorem rm7_calls {w : World} {base : Nat} {A : Option Addr} {c g cap : Nat} {l : List S34} (hok : B.okAll (B.varsU 7) (l.map tup) = true) (hl : l.length = 10) (hp : ∀ x ∈ l, 0 ≤ x.f1) (h : S2 w base A 10 c g 10 cap (nsK 7) (numsL l)) (t : Int) :
    Calls Try.prog 45 #[.agg #[.slice A 10 c, .slice (some ⟨g, 0, none⟩) 10 cap], .int .i64 7] w fun e w' => e = .returned (.tuple #[]) ∧ S2 w' base A 10 c g 10 cap (nsK 7) ((nsK 7).map (B.stepF 7 (B.loadF ((nsK 7).zip (numsL l))) t)) ∧ w.grownBy w' (some g) := by
  have hns : nsK 7 = n7 := n_varsU.2.2.2.2.2.2.1
  rw [hns] at h ⊢
  match l, hl, hok, hp, h with
  | [x0, x1, x2, x3, x4, x5, x6, x7, x8, x9], _, hok, hp, h =>
    simp [B.varsU, B.vars, B.okAll] at hok
    obtain ⟨k0, k1, k2, k3, k4, k5, k6, k7, k8, k9⟩ := hok
    have e0 := okC_bool k0 (hp x0 (by simp))
    have e1 := okC_bool k1 (hp x1 (by simp))
    have e2 := okC_bool k2 (hp x2 (by simp))
    have e3 := okC_bool k3 (hp x3 (by simp))
    obtain ⟨y4, hy4⟩ : ∃ y, wrap64 x4.f1 = y := ⟨_, rfl⟩
    have r4 := w64_range x4.f1
    rw [hy4] at r4
    have e5 := okC_bool k5 (hp x5 (by simp))
    have e6 := okC_bool k6 (hp x6 (by simp))
    obtain ⟨y7, hy7⟩ : ∃ y, wrap64 x7.f1 = y := ⟨_, rfl⟩
    have r7 := w64_range x7.f1
    rw [hy7] at r7
    have e8 := okC_bool k8 (hp x8 (by simp))
    have e9 := okC_bool k9 (hp x9 (by simp))
    have hN : numsL [x0, x1, x2, x3, x4, x5, x6, x7, x8, x9] = [b2i (x0.f1 == 1), b2i (x1.f1 == 1), b2i (x2.f1 == 1), b2i (x3.f1 == 1), y4, b2i (x5.f1 == 1), b2i (x6.f1 == 1), y7, b2i (x8.f1 == 1), b2i (x9.f1 == 1)] := by simp [numsL, e0, e1, e2, e3, hy4, e5, e6, hy7, e8, e9]
    rw [hN] at h ⊢
    rw [lst7]
    refine (count7 _ _ _ _ _ _ _ _ _ _ r7.1 r7.2 ⟨h⟩ ⟨grown_refl' _ _⟩).mono ?_
    rintro e w' ⟨rfl, hs, hg⟩
    exact ⟨rfl, hs.out, hg.out⟩
theorem rm8_calls {w : World} {base : Nat} {A : Option Addr} {c g cap : Nat} {l : List S34} (hok : B.okAll (B.varsU 8) (l.map tup) = true) (hl : l.length = 6) (hp : ∀ x ∈ l, 0 ≤ x.f1) (h : S2 w base A 6 c g 6 cap (nsK 8) (numsL l)) (t : Int) (h0t : 0 ≤ t) (h1t : t ≤ 4611686018427387904) :
    Calls Try.prog 46 #[.agg #[.slice A 6 c, .slice (some ⟨g, 0, none⟩) 6 cap], .int .i64 8, .int .i64 t] w fun e w' => e = .returned (.tuple #[]) ∧ S2 w' base A 6 c g 6 cap (nsK 8) ((nsK 8).map (B.stepF 8 (B.loadF ((nsK 8).zip (numsL l))) t)) ∧ w.grownBy w' (some g) := by
  have hns : nsK 8 = n8 := n_varsU.2.2.2.2.2.2.2.1
  rw [hns] at h ⊢
  match l, hl, hok, hp, h with
  | [x0, x1, x2, x3, x4, x5], _, hok, hp, h =>
    simp [B.varsU, B.vars, B.okAll] at hok
    obtain ⟨k0, k1, k2, k3, k4, k5⟩ := hok
    have e0 := okC_bool k0 (hp x0 (by simp))
    obtain ⟨y1, hy1⟩ : ∃ y, wrap64 x1.f1 = y := ⟨_, rfl⟩
    have r1 := w64_range x1.f1
    rw [hy1] at r1
    have e2 := okC_bool k2 (hp x2 (by simp))
    obtain ⟨y3, hy3⟩ : ∃ y, wrap64 x3.f1 = y := ⟨_, rfl⟩
    have r3 := w64_range x3.f1
    rw [hy3] at r3
    have e4 := okC_bool k4 (hp x4 (by simp))
    obtain ⟨y5, hy5⟩ : ∃ y, wrap64 x5.f1 = y := ⟨_, rfl⟩
    have r5 := w64_range x5.f1
    rw [hy5] at r5
    have hN : numsL [x0, x1, x2, x3, x4, x5] = [b2i (x0.f1 == 1), y1, b2i (x2.f1 == 1), y3, b2i (x4.f1 == 1), y5] := by simp [numsL, e0, hy1, e2, hy3, e4, hy5]
    rw [hN] at h ⊢
    rw [lst8]
    refine (time8 _ _ _ _ _ _ t h0t h1t ⟨h⟩ ⟨grown_refl' _ _⟩).mono ?_
    rintro e w' ⟨rfl, hs, hg⟩
    exact ⟨rfl, hs.out, hg.out⟩
theorem rm9_calls {w : World} {base : Nat} {A : Option Addr} {c g cap : Nat} {l : List S34} (hok : B.okAll (B.varsU 9) (l.map tup) = true) (hl : l.length = 6) (hp : ∀ x ∈ l, 0 ≤ x.f1) (h : S2 w base A 6 c g 6 cap (nsK 9) (numsL l)) (t : Int) (h0t : 0 ≤ t) (h1t : t ≤ 4611686018427387904) :
    Calls Try.prog 46 #[.agg #[.slice A 6 c, .slice (some ⟨g, 0, none⟩) 6 cap], .int .i64 9, .int .i64 t] w fun e w' => e = .returned (.tuple #[]) ∧ S2 w' base A 6 c g 6 cap (nsK 9) ((nsK 9).map (B.stepF 9 (B.loadF ((nsK 9).zip (numsL l))) t)) ∧ w.grownBy w' (some g) := by
  have hns : nsK 9 = n9 := n_varsU.2.2.2.2.2.2.2.2.1
  rw [hns] at h ⊢
  match l, hl, hok, hp, h with
  | [x0, x1, x2, x3, x4, x5], _, hok, hp, h =>
    simp [B.varsU, B.vars, B.okAll] at hok
    obtain ⟨k0, k1, k2, k3, k4, k5⟩ := hok
    have e0 := okC_bool k0 (hp x0 (by simp))
    obtain ⟨y1, hy1⟩ : ∃ y, wrap64 x1.f1 = y := ⟨_, rfl⟩
    have r1 := w64_range x1.f1
    rw [hy1] at r1
    have e2 := okC_bool k2 (hp x2 (by simp))
    obtain ⟨y3, hy3⟩ : ∃ y, wrap64 x3.f1 = y := ⟨_, rfl⟩
    have r3 := w64_range x3.f1
    rw [hy3] at r3
    have e4 := okC_bool k4 (hp x4 (by simp))
    obtain ⟨y5, hy5⟩ : ∃ y, wrap64 x5.f1 = y := ⟨_, rfl⟩
    have r5 := w64_range x5.f1
    rw [hy5] at r5
    have hN : numsL [x0, x1, x2, x3, x4, x5] = [b2i (x0.f1 == 1), y1, b2i (x2.f1 == 1), y3, b2i (x4.f1 == 1), y5] := by simp [numsL, e0, hy1, e2, hy3, e4, hy5]
    rw [hN] at h ⊢
    rw [lst9]
    refine (time9 _ _ _ _ _ _ t h0t h1t ⟨h⟩ ⟨grown_refl' _ _⟩).mono ?_
    rintro e w' ⟨rfl, hs, hg⟩
    exact ⟨rfl, hs.out, hg.out⟩
theorem rm10_calls {w : World} {base : Nat} {A : Option Addr} {c g cap : Nat} {l : List S34} (hok : B.okAll (B.varsU 10) (l.map tup) = true) (hl : l.length = 6) (hp : ∀ x ∈ l, 0 ≤ x.f1) (h : S2 w base A 6 c g 6 cap (nsK 10) (numsL l)) (t : Int) (h0t : 0 ≤ t) (h1t : t ≤ 4611686018427387904) :
    Calls Try.prog 46 #[.agg #[.slice A 6 c, .slice (some ⟨g, 0, none⟩) 6 cap], .int .i64 10, .int .i64 t] w fun e w' => e = .returned (.tuple #[]) ∧ S2 w' base A 6 c g 6 cap (nsK 10) ((nsK 10).map (B.stepF 10 (B.loadF ((nsK 10).zip (numsL l))) t)) ∧ w.grownBy w' (some g) := by
  have hns : nsK 10 = n10 := n_varsU.2.2.2.2.2.2.2.2.2
  rw [hns] at h ⊢
  match l, hl, hok, hp, h with
  | [x0, x1, x2, x3, x4, x5], _, hok, hp, h =>
    simp [B.varsU, B.vars, B.okAll] at hok
    obtain ⟨k0, k1, k2, k3, k4, k5⟩ := hok
    have e0 := okC_bool k0 (hp x0 (by simp))
    obtain ⟨y1, hy1⟩ : ∃ y, wrap64 x1.f1 = y := ⟨_, rfl⟩
    have r1 := w64_range x1.f1
    rw [hy1] at r1
    have e2 := okC_bool k2 (hp x2 (by simp))
    obtain ⟨y3, hy3⟩ : ∃ y, wrap64 x3.f1 = y := ⟨_, rfl⟩
    have r3 := w64_range x3.f1
    rw [hy3] at r3
    have e4 := okC_bool k4 (hp x4 (by simp))
    obtain ⟨y5, hy5⟩ : ∃ y, wrap64 x5.f1 = y := ⟨_, rfl⟩
    have r5 := w64_range x5.f1
    rw [hy5] at r5
    have hN : numsL [x0, x1, x2, x3, x4, x5] = [b2i (x0.f1 == 1), y1, b2i (x2.f1 == 1), y3, b2i (x4.f1 == 1), y5] := by simp [numsL, e0, hy1, e2, hy3, e4, hy5]
    rw [hN] at h ⊢
    rw [lst10]
    refine (time10 _ _ _ _ _ _ t h0t h1t ⟨h⟩ ⟨grown_refl' _ _⟩).mono ?_
    rintro e w' ⟨rfl, hs, hg⟩
    exact ⟨rfl, hs.out, hg.out⟩

end Go.Proofs.Ytfadafgnahhmdaa.X
namespace Go.Proofs.Ytfadafgnahhmdaa.X
open Go.RowKit Go.Proofs.YtfadafgnahhmdaaW.PrintWords Go.Proofs.YtfadafgnahhmdaaW.PrintLast Go.Proofs.YtfadafgnahhmdaaW.PrintMore Go.Proofs.Ytfadafgnahhmdaa.E
attribute [local go_sem] max2_int min2_int max_two min_two max_three min_three max_four min_four
set_option linter.unusedVariables false
set_option linter.unusedSimpArgs false

open B (b2i upd)
/-- The box of the document's state, while it is filled: the names' row and the numbers' row. -/
structure BX (w : World) (bs B0 : Nat) (vN vV : Value) (xs : List ByteArray) (ys : List Int) : Prop where
  c0 : w.cell? ⟨bs, 0, none⟩ = some vN
  c1 : w.cell? ⟨bs, 1, none⟩ = some vV
  f0 : w.frozen? ⟨bs, 0, none⟩ = false
  f1 : w.frozen? ⟨bs, 1, none⟩ = false
  RN : Kd.R Kd.string 9 w B0 (fun q => B0 ≤ q) vN xs
  RV : Kd.R kI 3 w B0 (fun q => B0 ≤ q) vV ys
  hb : bs < B0
  hs : B0 ≤ w.heap.size
section
variable {w w' w1 : World} {bs B0 : Nat} {vN vV v1 : Value} {xs : List ByteArray} {ys : List Int}
theorem BX.lt (h : BX w bs B0 vN vV xs ys) : bs < w.heap.size := Nat.lt_of_lt_of_le h.hb h.hs
theorem BX.below (h : BX w bs B0 vN vV xs ys) (hb : Below w.heap.size w w') : BX w' bs B0 vN vV xs ys :=
  ⟨(hb.cell (p := ⟨bs, 0, none⟩) h.lt).trans h.c0, (hb.cell (p := ⟨bs, 1, none⟩) h.lt).trans h.c1, (hb.frozen (p := ⟨bs, 0, none⟩) h.lt).trans h.f0, (hb.frozen (p := ⟨bs, 1, none⟩) h.lt).trans h.f1, Kd.R_below h.RN hb, Kd.R_below h.RV hb, h.hb, Nat.le_trans h.hs hb.size⟩
theorem BX.neN (h : BX w bs B0 vN vV xs ys) : some bs ≠ vN.ownBlock := fun e => by
  have h1 := h.RN.1 bs e.symm
  have h2 := h.hb
  have h3 : B0 ≤ bs := h1
  omega
theorem BX.neV (h : BX w bs B0 vN vV xs ys) : some bs ≠ vV.ownBlock := fun e => by
  have h1 := h.RV.1 bs e.symm
  have h2 := h.hb
  have h3 : B0 ≤ bs := h1
  omega
theorem BX.storeN (h : BX w bs B0 vN vV xs ys) {zs : List ByteArray} (hg : w.grownBy w1 vN.ownBlock) (ho : Kd.R Kd.string 9 w1 B0 (fun q => B0 ≤ q) v1 zs) :
    w1.cell? ⟨bs, 0, none⟩ = some vN ∧ w1.frozen? ⟨bs, 0, none⟩ = false ∧ BX (w1.setCell ⟨bs, 0, none⟩ v1) bs B0 v1 vV zs ys := by
  have e0 : w1.heap[bs]? = w.heap[bs]? := hg.block bs h.lt h.neN
  have c0 : w1.cell? ⟨bs, 0, none⟩ = some vN := (World.cell?_of_block (a := ⟨bs, 0, none⟩) e0).trans h.c0
  have c1 : w1.cell? ⟨bs, 1, none⟩ = some vV := (World.cell?_of_block (a := ⟨bs, 1, none⟩) e0).trans h.c1
  have f0 : w1.frozen? ⟨bs, 0, none⟩ = false := (World.frozen?_of_block (a := ⟨bs, 0, none⟩) e0).trans h.f0
  have f1 : w1.frozen? ⟨bs, 1, none⟩ = false := (World.frozen?_of_block (a := ⟨bs, 1, none⟩) e0).trans h.f1
  have hv : Kd.R kI 3 w1 B0 (fun q => B0 ≤ q) vV ys := Kd.R_over h.RV h.RN (by intro q hq; simp [kI, Kd.int, Kd.scalar] at hq; subst hq; decide) hg
  have hok : ∀ k, B0 ≤ k → k ≠ (⟨bs, 0, none⟩ : Addr).block := fun k hk e => by have := h.hb; simp at e; omega
  refine ⟨c0, f0, World.cell?_setCell_same _ _ _ c0, (World.cell?_setCell_other _ _ _ _ (by simp)).trans c1, (World.frozen?_setCell _ _ _ _).trans f0, (World.frozen?_setCell _ _ _ _).trans f1, Kd.R_far ho hok _, Kd.R_far hv hok _, h.hb, ?_⟩
  have := hg.size
  have := h.hs
  simp [World.setCell]
  omega
theorem BX.storeV (h : BX w bs B0 vN vV xs ys) {zs : List Int} (hg : w.grownBy w1 vV.ownBlock) (ho : Kd.R kI 3 w1 B0 (fun q => B0 ≤ q) v1 zs) :
    w1.cell? ⟨bs, 1, none⟩ = some vV ∧ w1.frozen? ⟨bs, 1, none⟩ = false ∧ BX (w1.setCell ⟨bs, 1, none⟩ v1) bs B0 vN v1 xs zs := by
  have e0 : w1.heap[bs]? = w.heap[bs]? := hg.block bs h.lt h.neV
  have c0 : w1.cell? ⟨bs, 0, none⟩ = some vN := (World.cell?_of_block (a := ⟨bs, 0, none⟩) e0).trans h.c0
  have c1 : w1.cell? ⟨bs, 1, none⟩ = some vV := (World.cell?_of_block (a := ⟨bs, 1, none⟩) e0).trans h.c1
  have f0 : w1.frozen? ⟨bs, 0, none⟩ = false := (World.frozen?_of_block (a := ⟨bs, 0, none⟩) e0).trans h.f0
  have f1 : w1.frozen? ⟨bs, 1, none⟩ = false := (World.frozen?_of_block (a := ⟨bs, 1, none⟩) e0).trans h.f1
  have hv : Kd.R Kd.string 9 w1 B0 (fun q => B0 ≤ q) vN xs := Kd.R_over h.RN h.RV (by intro q hq; simp [Kd.string, Kd.scalar] at hq; subst hq; decide) hg
  have hok : ∀ k, B0 ≤ k → k ≠ (⟨bs, 1, none⟩ : Addr).block := fun k hk e => by have := h.hb; simp at e; omega
  refine ⟨c1, f1, (World.cell?_setCell_other _ _ _ _ (by simp)).trans c0, World.cell?_setCell_same _ _ _ c1, (World.frozen?_setCell _ _ _ _).trans f0, (World.frozen?_setCell _ _ _ _).trans f1, Kd.R_far hv hok _, Kd.R_far ho hok _, h.hb, ?_⟩
  have := hg.size
  have := h.hs
  simp [World.setCell]
  omega
theorem BX.made (w : World) : BX (w.alloc (.cells #[.slice none 0 0, .slice none 0 0] 81)) w.heap.size (w.heap.size + 1) (.slice none 0 0) (.slice none 0 0) [] [] :=
  ⟨cell_lit w _ 81 0 _ rfl, cell_lit w _ 81 1 _ rfl, by simp, by simp, Kd.R_nil _ _ _ _ _, Kd.R_nil _ _ _ _ _, by omega, by simp⟩
end
theorem info9 : (Try.prog.info? 9).map (fun i => (i.zero, i.size, i.bytes)) = some (some (.string ⟨#[]⟩), 1, 16) := by kernel_rfl
theorem info3 : (Try.prog.info? 3).map (fun i => (i.zero, i.size, i.bytes)) = some (some (.int .i64 0), 1, 8) := by kernel_rfl

end Go.Proofs.Ytfadafgnahhmdaa.X
namespace Go.Proofs.Ytfadafgnahhmdaa.X
open Go.RowKit Go.Proofs.YtfadafgnahhmdaaW.PrintWords Go.Proofs.YtfadafgnahhmdaaW.PrintLast Go.Proofs.YtfadafgnahhmdaaW.PrintMore Go.Proofs.Ytfadafgnahhmdaa.E
attribute [local go_sem] max2_int min2_int max_two min_two max_three min_three max_four min_four
set_option linter.unusedVariables false
set_option linter.unusedSimpArgs false

open B (b2i upd)
theorem pairs_zip (k : Int) (l : List S34) : (nsK k).zip (numsL l) = B.pairs (B.varsU k) (l.map tup) := by
  unfold B.pairs nsK numsL
  rw [List.zip_map, List.zip_map_right, List.map_map]
  rfl
set_option maxHeartbeats 6400000 in
set_option maxRecDepth 100000 in
theorem rstep_calls (k : Int) (A : Option Addr) (n cp : Nat) (l : List S34) (now : Int) (w : World) (hr : Kd.C k34 w A n l) (hp : ∀ x ∈ l, 0 ≤ x.f1) :
    Calls Try.prog 29 #[.int .i64 k, .slice A n cp, .int .i64 now] w fun e w' => ∃ v : Value, e = .returned (.tuple #[v, .int .i64 (B.stepC k (l.map tup) now).2]) ∧ Kd.R k34 34 w' w.heap.size (fun _ => True) v ((B.stepC k (l.map tup) now).1.map unt) ∧ Below w.heap.size w w' := by
  have hu34 := Try.underlying34
  have hu64 := Try.underlying64
  have hu66 := Try.underlying66
  have hu81 := Try.underlying81
  obtain ⟨m, hm⟩ : ∃ m, m = (B.varsU k).length := ⟨_, rfl⟩
  have hm10 : m ≤ 10 := by have := varsU_len k; omega
  have hln : l.length = n := hr.1
  have HM := Aside0.mk hm
  have HR := Aside0.mk hr
  have HLN := Aside0.mk hln
  have HP := Aside0.mk hp
  have hn64 : n ≤ 9223372036854775807 := hr.2.1
  clear hm hr hln hp
  by_cases hz : m = 0 ∨ n ≠ m
  · have hres : B.stepC k (l.map tup) now = ([], 8) := by
      unfold B.stepC
      rw [if_pos]
      rw [List.length_map, HLN.out, ← HM.out]
      exact hz
    rw [hres]
    have HZ := Aside0.mk hz
    by_cases hm0 : m = 0
    · subst hm0
      clear hz
      go_enter Try.func29, Try.ntmps29
      go_wp2_with (go_at_call 21; refine (rvars_calls _ _).mono ?_; rintro e w1 ⟨A1, c1, rfl, hle, hC, hb⟩; rw [← HM.out] at hle hC ⊢; have HB := Aside0.mk hb; clear hC hb hle)
      go_ret2
      exact ⟨_, rfl, Kd.R_nil _ _ _ _ _, HB.out⟩
    · have hnm : n ≠ m := by rcases hz with h | h; exact absurd h hm0; exact h
      have t1 : (m == 0) = false := beq_eq_false_iff_ne.mpr hm0
      have t2 : (n == m) = false := beq_eq_false_iff_ne.mpr hnm
      have t3 : ((m : Int) == 0) = false := beq_eq_false_iff_ne.mpr (by omega)
      have t4 : ((n : Int) == (m : Int)) = false := beq_eq_false_iff_ne.mpr (by omega)
      have t5 : ((n : Int) != (m : Int)) = true := bne_iff_ne.mpr (by omega)
      have t6 : (n != m) = true := bne_iff_ne.mpr hnm
      clear hz
      go_enter Try.func29, Try.ntmps29
      go_wp2_with (go_at_call 21; refine (rvars_calls _ _).mono ?_; rintro e w1 ⟨A1, c1, rfl, hle, hC, hb⟩; rw [← HM.out] at hle hC ⊢; have HB := Aside0.mk hb; clear hC hb hle)
      go_ret2
      exact ⟨_, rfl, Kd.R_nil _ _ _ _ _, HB.out⟩
  · have hm0 : ¬ m = 0 := fun h => hz (.inl h)
    obtain rfl : n = m := by
      rcases Nat.decEq n m with h | h
      · exact absurd (.inr h) hz
      · exact h
    obtain ⟨res, hres⟩ : ∃ res, res = B.stepC k (l.map tup) now := ⟨_, rfl⟩
    rw [← hres]
    have HRES := Aside0.mk hres
    clear hres hz
    have t1 : (n == 0) = false := beq_eq_false_iff_ne.mpr hm0
    have t3 : ((n : Int) == 0) = false := beq_eq_false_iff_ne.mpr (by omega)
    go_enter Try.func29, Try.ntmps29
    go_wp2_with (go_at_call 21; refine (rvars_calls _ _).mono ?_; rintro e w1 ⟨A1, c1, rfl, hle, hC, hb⟩; rw [← HM.out] at hle hC ⊢; have HB := Aside0.mk hb; have HC := Aside0.mk hC; clear hC hb hle)
    go_loopw [10] (fun i wr => ∃ (j : Nat) (vN vV : Value), j ≤ n ∧ i = .int .i64 j ∧ Aside0 (B.okAll ((B.varsU k).take j) ((l.map tup).take j) = true) ∧ Aside0 (BX wr w1.heap.size (w1.heap.size + 1) vN vV ((nsK k).take j) ((numsL l).take j)) ∧ Aside0 (Below w1.heap.size w1 wr)) (fun i _ => n - (intOf i).toNat)
    case atStart => exact ⟨0, _, _, Nat.zero_le _, rfl, ⟨rfl⟩, ⟨BX.made w1⟩, ⟨below_alloc (Below.refl _ _) _⟩⟩
    case round =>
      obtain ⟨j, vN, vV, hj, rfl, HOK, HST, HW⟩ := hrel
      clear t1 t3
      by_cases hlt : j < n
      · obtain ⟨ad, x, sv, rfl, hx, hK, hsv, hc0, hci⟩ := kU_at (Kd.C_below HC.out HW.out) j hlt
        obtain ⟨ad0, e0, y0, y1, y2⟩ := at_T34 (Kd.C_below HR.out (below_step HB.out HW.out)) (j : Int) (by omega) (by omega)
        subst e0
        obtain ⟨ad1, e1, _, yw1, _⟩ := at_T34 HR.out (j : Int) (by omega) (by omega)
        injection e1 with e1
        subst e1
        obtain ⟨c, hc⟩ : ∃ c, l[j]? = some c := ⟨_, List.getElem?_eq_getElem (by have := HLN.out; omega)⟩
        have hrd : rd_T34 l (j : Int) = c := by unfold rd_T34; rw [Int.toNat_natCast, List.getD_eq_getElem?_getD, hc]; rfl
        rw [hrd, Int.toNat_natCast] at y0 y1 y2 yw1
        have HPS := Aside0.mk (show (numsL l).take (j + 1) = (numsL l).take j ++ [wrap64 c.f1] from by
          unfold numsL
          have h3 : j < (l.map fun c => wrap64 c.f1).length := by rw [List.length_map]; exact (List.getElem?_eq_some_iff.1 hc).1
          rw [List.take_succ_eq_append_getElem h3]
          simp [(List.getElem?_eq_some_iff.1 hc).2])
        have HNS := Aside0.mk (show (nsK k).take (j + 1) = (nsK k).take j ++ [x.1] from by
          unfold nsK
          have h3 : j < ((B.varsU k).map (·.1)).length := by rw [List.length_map]; exact (List.getElem?_eq_some_iff.1 hx).1
          rw [List.take_succ_eq_append_getElem h3]
          simp [(List.getElem?_eq_some_iff.1 hx).2])
        have HOS := Aside0.mk (okAll_step k l j x c hx hc)
        obtain ⟨hkd, _⟩ := varsU_kind k j x hx
        obtain ⟨nm, cl, kd, ini⟩ := x
        obtain ⟨kc, bc, tc⟩ := c
        simp only at hkd hc0 y0 y1 y2 HPS HNS
        have HZ0 := Aside0.mk yw1
        clear yw1
        clear hx hc hrd hsv hK
        have x3 := hci 3 _ (by omega) rfl
        clear hci
        have hb1 : (0 ≤ (j : Int)) = True := eq_true (by omega)
        have hb2 : ((j : Int) < (n : Int)) = True := eq_true (by omega)
        obtain ⟨rr, hrr⟩ : ∃ rr, B.okC kd (tup ⟨kc, bc, tc⟩) = rr := ⟨_, rfl⟩
        have HRR := Aside0.mk hrr
        clear hrr
        go_upto_region 8 with (fail)
        go_cut [50] (fun s w' => s = .bool (!rr) ∧ Aside0 (Below wr.heap.size wr w'))
        case first =>
          clear HPS HNS HST
          by_cases hkk : kc = kd
          · obtain rfl := hkk
            obtain ⟨r, hr⟩ := may_some kc bc tc hkd
            have HMAY : Aside0 (relayref01_May.f kc bc tc = some r) := ⟨hr⟩
            have hR2 : r = rr := by rw [← HRR.out]; unfold B.okC tup; rw [hr]; cases r <;> simp
            subst hR2
            clear hr
            have q1 : (kc != kc) = false := by simp
            have q2 : (kc == kc) = true := by simp
            go_region_with (go_at_call 43; (with_reducible refine (relayref01_May.calls kc bc tc r _ HMAY.out).mono ?_); rintro e w3 ⟨rfl, hb3⟩; have HB3 := Aside0.mk hb3; clear hb3)
            all_goals
              go_wp2
              go_meet
              case rel => exact ⟨rfl, ⟨below_step (below_drew (Below.refl _ _)) HB3.out⟩⟩
          · have q1 : (kc != kd) = true := bne_iff_ne.mpr hkk
            have q2 : (kc == kd) = false := beq_eq_false_iff_ne.mpr hkk
            have hr0 : rr = false := by rw [← HRR.out]; simp [B.okC, tup, hkk]
            subst hr0
            go_quiet (fail)
            go_wp2
            go_meet
            case rel => exact ⟨rfl, ⟨pw_below_drewN (Below.refl _ _) _⟩⟩
        case rest =>
          obtain ⟨rfl, HX⟩ := hcut
          cases rr with
          | false =>
            go_wp2
            go_ret2
            have hno : B.okAll (B.varsU k) (l.map tup) = false := okAll_no _ _ (j + 1) (by rw [HOS.out, HRR.out, Bool.and_false])
            have hr8 : res = ([], 8) := by
              rw [HRES.out]
              unfold B.stepC
              rw [if_neg (by rw [List.length_map, HLN.out, ← HM.out]; omega), if_neg (by rw [hno]; decide)]
            rw [hr8]
            exact ⟨_, rfl, Kd.R_nil _ _ _ _ _, below_step HB.out (below_step HW.out HX.out)⟩
          | true =>
            have HST2 := Aside0.mk (HST.out.below HX.out)
            have HW2 := Aside0.mk (below_step HW.out HX.out)
            have z1 := (HX.out.cell (World.block_lt_of_cell? wr _ y1)).trans y1
            have z0 := (HX.out.cell (World.block_lt_of_cell? wr _ hc0)).trans hc0
            clear y0 y1 y2 x3 hc0 HST HW HX
            have HZ1 := Aside0.mk z1
            clear z1
            go_upto_region 10 with (fail)
            go_cut [60] (fun _ w' => ∃ v1, Aside0 (BX w' w1.heap.size (w1.heap.size + 1) v1 vV ((nsK k).take (j + 1)) ((numsL l).take j)) ∧ Aside0 (Below w1.heap.size w1 w' ∧ w'.cell? ⟨(ad0.add (j * 3)).block, (ad0.add (j * 3)).off + 1, none⟩ = some (.int .u64 bc)))
            case first =>
              have HSd := Aside0.mk (HST2.out.below (below_drew (Below.refl _ _)))
              have HWd := Aside0.mk (show Below w1.heap.size w1 wc.drew from below_drew HW2.out)
              have hlt2 := HSd.out.lt
              have c0 := HSd.out.c0
              have a0 : ∀ o, (wc.alloc o).cell? ⟨w1.heap.size, 0, none⟩ = some vN := fun o => (World.cell?_alloc_lt wc o ⟨w1.heap.size, 0, none⟩ hlt2).trans c0
              have x0 : wc.drew.cell? (ad.add (j * 16)) = some (.string nm) := z0
              have hz1 : wc.drew.cell? ⟨(ad0.add (j * 3)).block, (ad0.add (j * 3)).off + 1, none⟩ = some (.int .u64 bc) := HZ1.out
              have HZ1d := Aside0.mk hz1
              have HZL := Aside0.mk (World.block_lt_of_cell? wc.drew _ hz1)
              have HZB := Aside0.mk (show (ad0.add (j * 3)).block < w1.heap.size from Nat.lt_of_lt_of_le (show (⟨(ad0.add (j * 3)).block, (ad0.add (j * 3)).off + 1, none⟩ : Addr).block < w.heap.size from World.block_lt_of_cell? w _ HZ0.out) HB.out.size)
              have HLT : Aside0 (((nsK k).take j).length ≤ 10) := ⟨by rw [List.length_take]; omega⟩
              clear z0 hlt2 hz1 HST2 HW2 HZ1 HPS
              go_region_law (refine Kd.R_append_step Kd.string (w0 := wc.drew) (W := wc.drew) (w1.heap.size + 1) (by simp [Region.wanted]) (.tmp 52) (.tmp 58) 61 9 _ 16 rfl Try.underlying61 info9 rfl (by decide) (by omega) vN ((nsK k).take j) nm [.string nm] (fun q => w1.heap.size + 1 ≤ q) (fun _ => False) rfl rfl rfl (fun _ h => h.elim) (fun q hq => Nat.le_trans HSd.out.hs hq) HSd.out.RN (Below.refl _ _) HSd.out.hs (by have := HLT.out; omega) ?_; intro v1 w3 ho hb hg hat; obtain ⟨A9, c9, hv9⟩ := Kd.R_slice ho; obtain ⟨q9, hq9⟩ : ∃ q9, q9 = ((nsK k).take j ++ [nm]).length := ⟨_, rfl⟩; rw [← hq9] at hv9; clear hq9; subst hv9; obtain ⟨s0, s1, hbx⟩ := HSd.out.storeN hg ho; have HBX := Aside0.mk hbx; have HW3 := Aside0.mk ((HWd.out.grown hg HWd.out.size (fun q hq => Nat.le_of_succ_le (HSd.out.RN.1 q hq))).setCell (p := ⟨w1.heap.size, 0, none⟩) (Nat.le_refl _) (.slice A9 q9 c9)); have HGG := Aside0.mk hg; clear ho hb hg hat hbx)
              all_goals
                go_wp2
                go_meet
                case rel => exact ⟨_, ⟨by rw [HNS.out]; exact HBX.out⟩, ⟨HW3.out, (World.cell?_setCell_other _ _ _ _ (fun e => by have h1 := HZB.out; injection e with e; omega)).trans ((World.cell?_of_block (a := ⟨(ad0.add (j * 3)).block, (ad0.add (j * 3)).off + 1, none⟩) (HGG.out.block _ HZL.out (fun e => by have h1 := HZB.out; have h2 : w1.heap.size + 1 ≤ (ad0.add (j * 3)).block := HSd.out.RN.1 _ e.symm; omega))).trans HZ1d.out)⟩⟩
            case rest =>
              obtain ⟨v1, HST3, HW3⟩ := hcut
              go_wp2_with fail
              have HSd := Aside0.mk (HST3.out.below (below_drew (Below.refl _ _)))
              have HWd := Aside0.mk (show Below w1.heap.size w1 wc.drew from below_drew HW3.out.1)
              have hlt2 := HSd.out.lt
              have c1 := HSd.out.c1
              have a1 : ∀ o, (wc.alloc o).cell? ⟨w1.heap.size, 1, none⟩ = some vV := fun o => (World.cell?_alloc_lt wc o ⟨w1.heap.size, 1, none⟩ hlt2).trans c1
              have x1 : wc.drew.cell? ⟨(ad0.add (j * 3)).block, (ad0.add (j * 3)).off + 1, none⟩ = some (.int .u64 bc) := HW3.out.2
              have HLT : Aside0 (((numsL l).take j).length ≤ 10) := ⟨by rw [List.length_take]; omega⟩
              clear hlt2 HST3 HW3
              go_region_law (refine Kd.R_append_step kI (w0 := wc.drew) (W := wc.drew) (w1.heap.size + 1) (by simp [Region.wanted]) (.tmp 62) (.tmp 69) 79 3 _ 8 rfl Try.underlying79 info3 rfl (by decide) (by omega) vV ((numsL l).take j) (IntKind.i64.wrap bc) [.int .i64 (IntKind.i64.wrap bc)] (fun q => w1.heap.size + 1 ≤ q) (fun _ => False) rfl rfl rfl (fun _ h => h.elim) (fun q hq => Nat.le_trans HSd.out.hs hq) HSd.out.RV (Below.refl _ _) HSd.out.hs (by have := HLT.out; omega) ?_; intro v2 w3 ho hb hg hat; obtain ⟨A9, c9, hv9⟩ := Kd.R_slice ho; obtain ⟨q9, hq9⟩ : ∃ q9, q9 = ((numsL l).take j ++ [IntKind.i64.wrap bc]).length := ⟨_, rfl⟩; rw [← hq9] at hv9; clear hq9; subst hv9; obtain ⟨s0, s1, hbx⟩ := HSd.out.storeV hg ho; have HBX := Aside0.mk hbx; have HW3 := Aside0.mk ((HWd.out.grown hg HWd.out.size (fun q hq => Nat.le_of_succ_le (HSd.out.RV.1 q hq))).setCell (p := ⟨w1.heap.size, 1, none⟩) (Nat.le_refl _) (.slice A9 q9 c9)); clear ho hb hg hat hbx)
              all_goals
                go_wp2
                go_roundw
                case rel => exact ⟨j + 1, _, _, by omega, by go_num, ⟨by rw [HOS.out, HOK.out, HRR.out]; rfl⟩, ⟨by rw [HPS.out, ← i64_w]; exact HBX.out⟩, HW3⟩
                case measure => simp [intOf]; omega
      · obtain rfl : j = n := by omega
        clear hj hlt
        have hlN : (nsK k).length = j := by unfold nsK; rw [List.length_map]; exact HM.out.symm
        have hlV : (numsL l).length = j := by unfold numsL; rw [List.length_map]; exact HLN.out
        have htk1 : (nsK k).take j = nsK k := List.take_of_length_le (by omega)
        have htk2 : (numsL l).take j = numsL l := List.take_of_length_le (by omega)
        have htk3 : (B.varsU k).take j = B.varsU k := List.take_of_length_le (by rw [← HM.out]; exact Nat.le_refl _)
        have htk4 : (l.map tup).take j = l.map tup := List.take_of_length_le (by rw [List.length_map, HLN.out]; exact Nat.le_refl _)
        rw [htk3, htk4] at HOK
        rw [htk1, htk2] at HST
        obtain ⟨tt, htt⟩ : ∃ tt, tt = B.clampT now := ⟨_, rfl⟩
        have HTC := Aside0.mk htt
        have HRE2 : Aside0 (res = (B.outs (B.varsU k) (B.stepF k (B.loadF ((nsK k).zip (numsL l))) tt), 0)) := ⟨by
          rw [HRES.out]
          unfold B.stepC
          rw [if_neg (by rw [List.length_map, HLN.out, ← HM.out]; omega), if_pos HOK.out, ← htt, ← pairs_zip]⟩
        have HTB : Aside0 (0 ≤ tt ∧ tt ≤ 4611686018427387904) := ⟨by rw [htt]; exact B.clampT_bd now⟩
        have hk : 1 ≤ k ∧ k ≤ 10 := by
          rcases Classical.em (1 ≤ k ∧ k ≤ 10) with h | h
          · exact h
          · exfalso
            have := HM.out
            unfold B.varsU at this
            rw [B.vars_out k h] at this
            exact hm0 this
        obtain ⟨AN, cN, rfl, hcN, hCN⟩ := Kd.R_reads HST.out.RN
        obtain ⟨g, cap, rfl, hbg, hgl, cells, hblk⟩ := Kd.R_form HST.out.RV (by omega)
        have HS0 := Aside0.mk (show S2 wr (w1.heap.size + 1) AN j cN g j cap (nsK k) (numsL l) from by
          have h1 : Kd.R Kd.string 9 wr (w1.heap.size + 1) (fun q => q ≠ g) (.slice AN (nsK k).length cN) (nsK k) := Kd.R_reok rfl HST.out.RN (fun q hq e => by subst e; exact Kd.R_ne HST.out.RN hblk (by decide) hq.symm)
          have h2 : Kd.R kI 3 wr (w1.heap.size + 1) (fun _ => True) (.slice (some ⟨g, 0, none⟩) (numsL l).length cap) (numsL l) := Kd.R_mono HST.out.RV (fun _ _ => trivial)
          rw [hlN] at h1
          rw [hlV] at h2
          exact ⟨h1, h2, by omega⟩)
        have HC0 := Aside0.mk HST.out.c0
        have HC1 := Aside0.mk HST.out.c1
        have HSZ := Aside0.mk (And.intro hbg hgl)
        rw [hlN] at HC0
        rw [hlV] at HC1
        clear HRES htk1 htk2 htk3 htk4 hlN hlV hCN hcN hblk hbg hgl HST htt
        obtain ⟨j1, hj1⟩ : ∃ j1, j1 = (if now < 0 then 0 else now) := ⟨_, rfl⟩
        have htt2 : tt = if 4611686018427387904 < j1 then 4611686018427387904 else j1 := by rw [HTC.out, hj1]; rfl
        have HJ1 := Aside0.mk hj1
        have HT2 := Aside0.mk htt2
        clear hj1 htt2
        go_upto_if 73 with (fail)
        go_cut [2] (fun s w' => s = .int .i64 j1 ∧ w' = wr)
        case first =>
          by_cases h : now < 0
          · have hT : (now < 0) = True := eq_true h
            go_wp2
            go_meet
            case rel => exact ⟨by rw [HJ1.out, if_pos h], rfl⟩
          · have hT : (now < 0) = False := eq_false h
            go_wp2
            go_meet
            case rel => exact ⟨by rw [HJ1.out, if_neg (by omega)], rfl⟩
        case rest =>
          obtain ⟨rfl, hwc⟩ := hcut
          subst hwc
          go_upto_if 75 with (fail)
          go_cut [2] (fun s w' => s = .int .i64 tt ∧ w' = wc)
          case first =>
            by_cases h : 4611686018427387904 < j1
            · have hT : (4611686018427387904 < j1) = True := eq_true h
              go_wp2
              go_meet
              case rel => exact ⟨by rw [HT2.out, if_pos h], rfl⟩
            · have hT : (4611686018427387904 < j1) = False := eq_false h
              go_wp2
              go_meet
              case rel => exact ⟨by rw [HT2.out, if_neg (by omega)], rfl⟩
          case rest =>
            obtain ⟨rfl, hwd⟩ := hcut
            subst hwd
            go_upto_block 2 with fail
            go_cut [80] (fun _ w' => Aside0 (w'.cell? ⟨w1.heap.size, 1, none⟩ = some (.slice (some ⟨g, 0, none⟩) j cap)) ∧ Aside0 (Kd.R kI 3 w' (w1.heap.size + 1) (fun _ => True) (.slice (some ⟨g, 0, none⟩) j cap) ((nsK k).map (B.stepF k (B.loadF ((nsK k).zip (numsL l))) tt))) ∧ Aside0 (Below w1.heap.size w1 w') ∧ Aside0 (g < w'.heap.size))
            case first =>
              have c0 := HC0.out
              have c1' := HC1.out
              clear HC HR HRE2 HTC HJ1 HT2 HB
              have h : k = 1 ∨ k = 2 ∨ k = 3 ∨ k = 4 ∨ k = 5 ∨ k = 6 ∨ k = 7 ∨ k = 8 ∨ k = 9 ∨ k = 10 := by omega
              clear hk
              rcases h with rfl | rfl | rfl | rfl | rfl | rfl | rfl | rfl | rfl | rfl
              · obtain rfl : j = 3 := by have := HM.out; simpa [B.varsU, B.vars] using this
                go_wp2_with (go_at_call 44; refine (rm1_calls HOK.out HLN.out HP.out HS0.out tt).mono ?_; rintro e w4 ⟨rfl, h4, g4⟩; have H4 := Aside0.mk h4; have G4 := Aside0.mk g4; clear h4 g4)
                go_meet
                case rel => exact ⟨⟨(World.cell?_of_block (a := ⟨w1.heap.size, 1, none⟩) (G4.out.block _ (by show w1.heap.size < _; have := HSZ.out; omega) (fun e => by injection e with e; have e2 : w1.heap.size = g := e; have := HSZ.out; omega))).trans HC1.out⟩, ⟨H4.out.2.1⟩, ⟨HW.out.grown G4.out HW.out.size (fun q hq => by injection hq with hq; have := HSZ.out; omega)⟩, ⟨Nat.lt_of_lt_of_le HSZ.out.2 G4.out.size⟩⟩
              · obtain rfl : j = 3 := by have := HM.out; simpa [B.varsU, B.vars] using this
                go_wp2_with (go_at_call 44; refine (rm2_calls HOK.out HLN.out HP.out HS0.out tt).mono ?_; rintro e w4 ⟨rfl, h4, g4⟩; have H4 := Aside0.mk h4; have G4 := Aside0.mk g4; clear h4 g4)
                go_meet
                case rel => exact ⟨⟨(World.cell?_of_block (a := ⟨w1.heap.size, 1, none⟩) (G4.out.block _ (by show w1.heap.size < _; have := HSZ.out; omega) (fun e => by injection e with e; have e2 : w1.heap.size = g := e; have := HSZ.out; omega))).trans HC1.out⟩, ⟨H4.out.2.1⟩, ⟨HW.out.grown G4.out HW.out.size (fun q hq => by injection hq with hq; have := HSZ.out; omega)⟩, ⟨Nat.lt_of_lt_of_le HSZ.out.2 G4.out.size⟩⟩
              · obtain rfl : j = 3 := by have := HM.out; simpa [B.varsU, B.vars] using this
                go_wp2_with (go_at_call 44; refine (rm3_calls HOK.out HLN.out HP.out HS0.out tt).mono ?_; rintro e w4 ⟨rfl, h4, g4⟩; have H4 := Aside0.mk h4; have G4 := Aside0.mk g4; clear h4 g4)
                go_meet
                case rel => exact ⟨⟨(World.cell?_of_block (a := ⟨w1.heap.size, 1, none⟩) (G4.out.block _ (by show w1.heap.size < _; have := HSZ.out; omega) (fun e => by injection e with e; have e2 : w1.heap.size = g := e; have := HSZ.out; omega))).trans HC1.out⟩, ⟨H4.out.2.1⟩, ⟨HW.out.grown G4.out HW.out.size (fun q hq => by injection hq with hq; have := HSZ.out; omega)⟩, ⟨Nat.lt_of_lt_of_le HSZ.out.2 G4.out.size⟩⟩
              · obtain rfl : j = 3 := by have := HM.out; simpa [B.varsU, B.vars] using this
                go_wp2_with (go_at_call 44; refine (rm4_calls HOK.out HLN.out HP.out HS0.out tt).mono ?_; rintro e w4 ⟨rfl, h4, g4⟩; have H4 := Aside0.mk h4; have G4 := Aside0.mk g4; clear h4 g4)
                go_meet
                case rel => exact ⟨⟨(World.cell?_of_block (a := ⟨w1.heap.size, 1, none⟩) (G4.out.block _ (by show w1.heap.size < _; have := HSZ.out; omega) (fun e => by injection e with e; have e2 : w1.heap.size = g := e; have := HSZ.out; omega))).trans HC1.out⟩, ⟨H4.out.2.1⟩, ⟨HW.out.grown G4.out HW.out.size (fun q hq => by injection hq with hq; have := HSZ.out; omega)⟩, ⟨Nat.lt_of_lt_of_le HSZ.out.2 G4.out.size⟩⟩
              · obtain rfl : j = 6 := by have := HM.out; simpa [B.varsU, B.vars] using this
                go_wp2_with (go_at_call 45; refine (rm5_calls HOK.out HLN.out HP.out HS0.out tt).mono ?_; rintro e w4 ⟨rfl, h4, g4⟩; have H4 := Aside0.mk h4; have G4 := Aside0.mk g4; clear h4 g4)
                go_meet
                case rel => exact ⟨⟨(World.cell?_of_block (a := ⟨w1.heap.size, 1, none⟩) (G4.out.block _ (by show w1.heap.size < _; have := HSZ.out; omega) (fun e => by injection e with e; have e2 : w1.heap.size = g := e; have := HSZ.out; omega))).trans HC1.out⟩, ⟨H4.out.2.1⟩, ⟨HW.out.grown G4.out HW.out.size (fun q hq => by injection hq with hq; have := HSZ.out; omega)⟩, ⟨Nat.lt_of_lt_of_le HSZ.out.2 G4.out.size⟩⟩
              · obtain rfl : j = 6 := by have := HM.out; simpa [B.varsU, B.vars] using this
                go_wp2_with (go_at_call 45; refine (rm6_calls HOK.out HLN.out HP.out HS0.out tt).mono ?_; rintro e w4 ⟨rfl, h4, g4⟩; have H4 := Aside0.mk h4; have G4 := Aside0.mk g4; clear h4 g4)
                go_meet
                case rel => exact ⟨⟨(World.cell?_of_block (a := ⟨w1.heap.size, 1, none⟩) (G4.out.block _ (by show w1.heap.size < _; have := HSZ.out; omega) (fun e => by injection e with e; have e2 : w1.heap.size = g := e; have := HSZ.out; omega))).trans HC1.out⟩, ⟨H4.out.2.1⟩, ⟨HW.out.grown G4.out HW.out.size (fun q hq => by injection hq with hq; have := HSZ.out; omega)⟩, ⟨Nat.lt_of_lt_of_le HSZ.out.2 G4.out.size⟩⟩
              · obtain rfl : j = 10 := by have := HM.out; simpa [B.varsU, B.vars] using this
                go_wp2_with (go_at_call 45; refine (rm7_calls HOK.out HLN.out HP.out HS0.out tt).mono ?_; rintro e w4 ⟨rfl, h4, g4⟩; have H4 := Aside0.mk h4; have G4 := Aside0.mk g4; clear h4 g4)
                go_meet
                case rel => exact ⟨⟨(World.cell?_of_block (a := ⟨w1.heap.size, 1, none⟩) (G4.out.block _ (by show w1.heap.size < _; have := HSZ.out; omega) (fun e => by injection e with e; have e2 : w1.heap.size = g := e; have := HSZ.out; omega))).trans HC1.out⟩, ⟨H4.out.2.1⟩, ⟨HW.out.grown G4.out HW.out.size (fun q hq => by injection hq with hq; have := HSZ.out; omega)⟩, ⟨Nat.lt_of_lt_of_le HSZ.out.2 G4.out.size⟩⟩
              · obtain rfl : j = 6 := by have := HM.out; simpa [B.varsU, B.vars] using this
                go_wp2_with (go_at_call 46; refine (rm8_calls HOK.out HLN.out HP.out HS0.out tt HTB.out.1 HTB.out.2).mono ?_; rintro e w4 ⟨rfl, h4, g4⟩; have H4 := Aside0.mk h4; have G4 := Aside0.mk g4; clear h4 g4)
                go_meet
                case rel => exact ⟨⟨(World.cell?_of_block (a := ⟨w1.heap.size, 1, none⟩) (G4.out.block _ (by show w1.heap.size < _; have := HSZ.out; omega) (fun e => by injection e with e; have e2 : w1.heap.size = g := e; have := HSZ.out; omega))).trans HC1.out⟩, ⟨H4.out.2.1⟩, ⟨HW.out.grown G4.out HW.out.size (fun q hq => by injection hq with hq; have := HSZ.out; omega)⟩, ⟨Nat.lt_of_lt_of_le HSZ.out.2 G4.out.size⟩⟩
              · obtain rfl : j = 6 := by have := HM.out; simpa [B.varsU, B.vars] using this
                go_wp2_with (go_at_call 46; refine (rm9_calls HOK.out HLN.out HP.out HS0.out tt HTB.out.1 HTB.out.2).mono ?_; rintro e w4 ⟨rfl, h4, g4⟩; have H4 := Aside0.mk h4; have G4 := Aside0.mk g4; clear h4 g4)
                go_meet
                case rel => exact ⟨⟨(World.cell?_of_block (a := ⟨w1.heap.size, 1, none⟩) (G4.out.block _ (by show w1.heap.size < _; have := HSZ.out; omega) (fun e => by injection e with e; have e2 : w1.heap.size = g := e; have := HSZ.out; omega))).trans HC1.out⟩, ⟨H4.out.2.1⟩, ⟨HW.out.grown G4.out HW.out.size (fun q hq => by injection hq with hq; have := HSZ.out; omega)⟩, ⟨Nat.lt_of_lt_of_le HSZ.out.2 G4.out.size⟩⟩
              · obtain rfl : j = 6 := by have := HM.out; simpa [B.varsU, B.vars] using this
                go_wp2_with (go_at_call 46; refine (rm10_calls HOK.out HLN.out HP.out HS0.out tt HTB.out.1 HTB.out.2).mono ?_; rintro e w4 ⟨rfl, h4, g4⟩; have H4 := Aside0.mk h4; have G4 := Aside0.mk g4; clear h4 g4)
                go_meet
                case rel => exact ⟨⟨(World.cell?_of_block (a := ⟨w1.heap.size, 1, none⟩) (G4.out.block _ (by show w1.heap.size < _; have := HSZ.out; omega) (fun e => by injection e with e; have e2 : w1.heap.size = g := e; have := HSZ.out; omega))).trans HC1.out⟩, ⟨H4.out.2.1⟩, ⟨HW.out.grown G4.out HW.out.size (fun q hq => by injection hq with hq; have := HSZ.out; omega)⟩, ⟨Nat.lt_of_lt_of_le HSZ.out.2 G4.out.size⟩⟩
            case rest =>
              obtain ⟨HD1, HDV, HDW, HDG⟩ := hcut
              clear HS0 HC0 HC1 HW HTC HJ1 HT2 HP HOK
              obtain ⟨F, hF⟩ : ∃ F, F = B.stepF k (B.loadF ((nsK k).zip (numsL l))) tt := ⟨_, rfl⟩
              rw [← hF] at HDV HRE2
              clear hF
              have HVL : Aside0 (((nsK k).map F).length = j) := ⟨by rw [List.length_map]; unfold nsK; rw [List.length_map]; exact HM.out.symm⟩
              go_wp2_with fail
              go_loopw [11, 12] (fun v i wr => ∃ i2 : Nat, i2 ≤ j ∧ i = .int .i64 i2 ∧ Aside0 (Kd.R k34 34 wr w1.heap.size (fun b => b ≠ w1.heap.size ∧ b ≠ g) v (((B.outs (B.varsU k) F).map unt).take i2)) ∧ Aside0 (wr.cell? ⟨w1.heap.size, 1, none⟩ = some (.slice (some ⟨g, 0, none⟩) j cap)) ∧ Aside0 (Kd.R kI 3 wr (w1.heap.size + 1) (fun _ => True) (.slice (some ⟨g, 0, none⟩) j cap) ((nsK k).map F)) ∧ Aside0 (Below w1.heap.size w1 wr) ∧ Aside0 (g < wr.heap.size)) (fun _ i _ => j - (intOf i).toNat)
              case atStart => exact ⟨0, Nat.zero_le _, rfl, ⟨Kd.R_nil _ _ _ _ _⟩, HD1, HDV, HDW, HDG⟩
              case round =>
                obtain ⟨i2, hi2, rfl, HO, HE1, HEV, HEW, HEG⟩ := hrel
                clear HD1 HDV HDW HDG
                by_cases hlt : i2 < j
                · obtain ⟨ad, x, sv, rfl, hx, hK, hsv, hc0, hci⟩ := kU_at (Kd.C_below HC.out HEW.out) i2 hlt
                  have HSTEP := Aside0.mk (outs_step k F i2 x hx)
                  have hvx : rdOf 0 ((nsK k).map F) (i2 : Int) = F x.1 := by
                    have h1 : ((nsK k).map F)[i2]? = some (F x.1) := by unfold nsK; rw [List.map_map, List.getElem?_map, hx]; rfl
                    show ((nsK k).map F).getD i2 0 = F x.1
                    rw [List.getD_eq_getElem?_getD, h1]
                    rfl
                  have hcv := (Kd.R_cell (0 : Int) (by rw [HVL.out]; exact HEV.out) (i2 : Int) (by omega) (by rw [HVL.out]; omega)).1
                  rw [hvx, Int.toNat_natCast] at hcv
                  obtain ⟨nm, cl, kd, ini⟩ := x
                  simp only at hc0
                  clear hx hsv hvx hK hc0
                  have x3 := hci 3 _ (by omega) rfl
                  clear hci
                  generalize F nm = fv at *
                  have hb1 : (0 ≤ (i2 : Int)) = True := eq_true (by omega)
                  have hb2 : ((i2 : Int) < (j : Int)) = True := eq_true (by omega)
                  have HOd := Aside0.mk (Kd.R_drew HO.out)
                  have HEVd := Aside0.mk (Kd.R_drew HEV.out)
                  have HWd := Aside0.mk (show Below w1.heap.size w1 wr.drew from below_drew HEW.out)
                  have HGd := Aside0.mk (show g < wr.drew.heap.size from HEG.out)
                  have x3d : wr.drew.cell? ⟨(ad.add (i2 * 16)).block, (ad.add (i2 * 16)).off + 3, none⟩ = some (.int .u8 kd) := x3
                  have e1d : wr.drew.cell? ⟨w1.heap.size, 1, none⟩ = some (.slice (some ⟨g, 0, none⟩) j cap) := HE1.out
                  have cvd : wr.drew.cell? ⟨g, i2, none⟩ = some (.int .i64 fv) := hcv
                  have HX3 := Aside0.mk x3d
                  have HE1d := Aside0.mk e1d
                  have HCVd := Aside0.mk cvd
                  have HBL : Aside0 ((ad.add (i2 * 16)).block < w1.heap.size) := ⟨by
                    obtain ⟨ad', x', sv', e', _, _, _, h0', _⟩ := kU_at HC.out i2 hlt
                    injection e' with e'
                    subst e'
                    exact World.block_lt_of_cell? w1 _ h0'⟩
                  have HBS : Aside0 (w1.heap.size < wr.drew.heap.size) := ⟨World.block_lt_of_cell? wr.drew (⟨w1.heap.size, 1, none⟩ : Addr) e1d⟩
                  have HLT : Aside0 ((((B.outs (B.varsU k) F).map unt).take i2).length ≤ 10) := ⟨by rw [List.length_take, outs_len]; have := varsU_len k; omega⟩
                  have HAL := Aside0.mk (show ∀ o, ((wr.alloc o).drew).cell? ⟨(ad.add (i2 * 16)).block, (ad.add (i2 * 16)).off + 3, none⟩ = some (.int .u8 kd) ∧ ((wr.alloc o).drew).cell? ⟨w1.heap.size, 1, none⟩ = some (.slice (some ⟨g, 0, none⟩) j cap) ∧ ((wr.alloc o).drew).cell? ⟨g, i2, none⟩ = some (.int .i64 fv) from fun o =>
                    ⟨(World.cell?_alloc_lt wr o ⟨(ad.add (i2 * 16)).block, (ad.add (i2 * 16)).off + 3, none⟩ (World.block_lt_of_cell? wr.drew (⟨(ad.add (i2 * 16)).block, (ad.add (i2 * 16)).off + 3, none⟩ : Addr) x3d)).trans x3d, (World.cell?_alloc_lt wr o ⟨w1.heap.size, 1, none⟩ HBS.out).trans e1d, (World.cell?_alloc_lt wr o ⟨g, i2, none⟩ HGd.out).trans cvd⟩)
                  clear x3 hcv HO HE1 HEV HEW HEG
                  go_upto_region 31 with (fail)
                  go_region_held_law (fun w' => w'.cell? ⟨(ad.add (i2 * 16)).block, (ad.add (i2 * 16)).off + 3, none⟩ = some (.int .u8 kd) ∧ w'.cell? ⟨w1.heap.size, 1, none⟩ = some (.slice (some ⟨g, 0, none⟩) j cap) ∧ w'.cell? ⟨g, i2, none⟩ = some (.int .i64 fv)) (first | exact HAL.out _ | (exact ⟨by assumption, by assumption, by assumption⟩))
                    ((refine Kd.R_append_step k34 (w0 := w1) (W := wr.drew) w1.heap.size (by simp [Region.wanted]) (.tmp 102) (.tmp 116) 30 34 _ 32 rfl Try.underlying30 info34 rfl (by decide) (by omega) u11 (((B.outs (B.varsU k) F).map unt).take i2) ⟨kd, IntKind.u64.wrap fv, ⟨#[]⟩⟩ [.int .u8 kd, .int .u64 (IntKind.u64.wrap fv), .string ⟨#[]⟩] (fun b => b ≠ w1.heap.size ∧ b ≠ g) (fun _ => False) rfl rfl (k34_mkM _ _ _ ⟨kd, IntKind.u64.wrap fv, ⟨#[]⟩⟩) (fun _ h => h.elim) (fun b hb => ⟨by have := HBS.out; omega, by have := HGd.out; omega⟩) HOd.out HWd.out HWd.out.size (by have := HLT.out; omega) ?_; intro v3 w3 ho hb hg hat; have HO3 := Aside0.mk ho; have HW3 := Aside0.mk hb; have k1 : w3.cell? ⟨(ad.add (i2 * 16)).block, (ad.add (i2 * 16)).off + 3, none⟩ = some (.int .u8 kd) := (hb.cell (p := ⟨(ad.add (i2 * 16)).block, (ad.add (i2 * 16)).off + 3, none⟩) HBL.out).trans ((HWd.out.cell (p := ⟨(ad.add (i2 * 16)).block, (ad.add (i2 * 16)).off + 3, none⟩) HBL.out).symm.trans HX3.out); have k2 : w3.cell? ⟨w1.heap.size, 1, none⟩ = some (.slice (some ⟨g, 0, none⟩) j cap) := (World.cell?_of_block (a := ⟨w1.heap.size, 1, none⟩) (hg.block _ HBS.out (fun e => (HOd.out.1 _ e.symm).1 rfl))).trans HE1d.out; have k3 : w3.cell? ⟨g, i2, none⟩ = some (.int .i64 fv) := (World.cell?_of_block (a := ⟨g, i2, none⟩) (hg.block _ HGd.out (fun e => (HOd.out.1 _ e.symm).2 rfl))).trans HCVd.out; have HV3 := Aside0.mk (Kd.R_over HEVd.out HOd.out (by intro q hq; simp [kI, Kd.int, Kd.scalar] at hq; subst hq; decide) hg); have HG3 := Aside0.mk (Nat.lt_of_lt_of_le HGd.out hg.size); have HE3 := Aside0.mk k2; clear ho hb hg hat))
                  go_wp2
                  go_roundw
                  case rel => exact ⟨i2 + 1, by omega, by go_num, ⟨by rw [HSTEP.out]; exact HO3.out⟩, HE3, HV3, HW3, HG3⟩
                  case measure => simp [intOf]; omega
                · obtain rfl : i2 = j := by omega
                  go_wp2
                  go_ret2
                  have hfull : ((B.outs (B.varsU k) F).map unt).take i2 = (B.outs (B.varsU k) F).map unt := List.take_of_length_le (by rw [outs_len, ← HM.out]; exact Nat.le_refl _)
                  rw [hfull] at HO
                  rw [HRE2.out]
                  exact ⟨u11, rfl, Kd.R_lower (Kd.R_mono HO.out (fun _ _ => trivial)) HB.out.size, below_step HB.out HEW.out⟩

end Go.Proofs.Ytfadafgnahhmdaa.X
