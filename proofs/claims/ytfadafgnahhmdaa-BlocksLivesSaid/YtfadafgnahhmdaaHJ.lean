import Derived.Test.YtfadafgnahhmdaaHC
import Derived.Laws.Strings
import Derived.Deep.RegionHeldLaw
import Derived.Deep.DeepCutAuto
set_option linter.unusedVariables false
set_option linter.unusedSimpArgs false
namespace Go.Proofs.Ytfadafgnahhmdaa.X
open Go.RowKit Go.Proofs.YtfadafgnahhmdaaW.PrintWords Go.Proofs.YtfadafgnahhmdaaW.PrintLast Go.Proofs.YtfadafgnahhmdaaW.PrintMore Go.Proofs.Ytfadafgnahhmdaa.E
attribute [local go_sem] max2_int min2_int max_two min_two max_three min_three max_four min_four
set_option linter.unusedVariables false
set_option linter.unusedSimpArgs false

open B (b2i)
/-! ### The document's state: names and numbers -/
def atF : List ByteArray → ByteArray → Nat
  | [], _ => 0
  | x :: xs, s => if x = s then 0 else atF xs s + 1
/-- the place of a name (0 where there is none) -/
def atI (ns : List ByteArray) (s : ByteArray) : Nat := if atF ns s < ns.length then atF ns s else 0
theorem atF_found {ns : List ByteArray} {s : ByteArray} : ∀ {j : Nat}, j < ns.length → s ∉ ns.take j → ns.getD j ByteArray.empty = s → atF ns s = j := by
  induction ns with
  | nil => intro j h; simp at h
  | cons x xs ih =>
    intro j hj hn he
    cases j with
    | zero => unfold atF; rw [if_pos (by simpa using he)]
    | succ j =>
      rw [List.take_succ_cons, List.mem_cons, not_or] at hn
      unfold atF
      rw [if_neg (fun h => hn.1 h.symm), ih (by simpa using hj) hn.2 (by simpa using he)]
theorem atF_none {ns : List ByteArray} {s : ByteArray} : s ∉ ns → atF ns s = ns.length := by
  induction ns with
  | nil => intro _; rfl
  | cons x xs ih =>
    intro h
    rw [List.mem_cons, not_or] at h
    unfold atF
    rw [if_neg (fun e => h.1 e.symm), ih h.2, List.length_cons]
theorem atI_found {ns : List ByteArray} {s : ByteArray} {j : Nat} (hj : j < ns.length) (h : s ∉ ns.take j) (he : ns.getD j ByteArray.empty = s) : atI ns s = j := by
  unfold atI
  rw [atF_found hj h he, if_pos hj]
theorem atI_none {ns : List ByteArray} {s : ByteArray} (h : s ∉ ns) : atI ns s = 0 := by unfold atI; rw [atF_none h, if_neg (by omega)]
theorem notin_step {ns : List ByteArray} {s : ByteArray} {j : Nat} (hj : j < ns.length) (h : s ∉ ns.take j) (he : ns.getD j ByteArray.empty ≠ s) : s ∉ ns.take (j + 1) := by
  rw [List.getD_eq_getElem?_getD, List.getElem?_eq_getElem hj] at he
  have he' : ns[j] ≠ s := he
  rw [List.take_succ_eq_append_getElem hj, List.mem_append]
  rintro (hm | hm)
  · exact h hm
  · exact he' (List.mem_singleton.1 hm).symm
theorem ba_ne {x s : ByteArray} (h : x ≠ s) : (x.toList == s.toList) = false := beq_eq_false_iff_ne.mpr (fun e => h (WideShapes.bytes_inj (by rw [← ByteArray.toList_eq, ← ByteArray.toList_eq, e])))
set_option maxHeartbeats 1600000 in
set_option maxRecDepth 100000 in
theorem at_calls {w : World} {A : Option Addr} {n : Nat} {ns : List ByteArray} (hr : Kd.C Kd.string w A n ns) (hn : n ≤ 100) (cp : Nat) (B : Option Addr) (m d : Nat) (s : ByteArray) :
    Calls Try.prog 84 #[.agg #[.slice A n cp, .slice B m d], .string s] w fun e w' => e = .returned (.int .i64 (atI ns s)) ∧ Below w.heap.size w w' := by
  have hu81 := Try.underlying81
  have hu61 := Try.underlying61
  have hl : ns.length = n := hr.1
  have HR := Aside0.mk (Kd.C_alloc hr (.cells #[.slice A n cp, .slice B m d] 81))
  have HB := Aside0.mk (below_alloc (Below.refl w.heap.size w) (.cells #[.slice A n cp, .slice B m d] 81))
  have HL := Aside0.mk hl
  clear hl hr
  go_enter Try.func84, Try.ntmps84
  go_wp2
  go_loopw [5] (fun i wr => ∃ j : Nat, j ≤ n ∧ i = .int .i64 j ∧ Aside0 (s ∉ ns.take j) ∧ w.alloc (.cells #[.slice A n cp, .slice B m d] 81) = wr) (fun i _ => n - (intOf i).toNat)
  case atStart => exact ⟨0, Nat.zero_le _, rfl, ⟨by simp⟩, rfl⟩
  case round =>
    obtain ⟨j, hj, rfl, HN, rfl⟩ := hrel
    by_cases hlt : j < n
    · obtain ⟨ad, rfl, hc0⟩ := Kd.at_string HR.out (j : Int) (by omega) (by omega)
      rw [Int.toNat_natCast] at hc0
      have hrd : rdOf ByteArray.empty ns (j : Int) = ns.getD j ByteArray.empty := rfl
      rw [hrd] at hc0
      obtain ⟨nm, hnm⟩ : ∃ nm, nm = ns.getD j ByteArray.empty := ⟨_, rfl⟩
      rw [← hnm] at hc0
      have HNM := Aside0.mk hnm
      clear hnm hrd
      have hb1 : (0 ≤ (j : Int)) = True := eq_true (by omega)
      have hb2 : ((j : Int) < (n : Int)) = True := eq_true (by omega)
      by_cases he : nm = s
      · subst he
        go_wp2
        go_ret
        exact ⟨by rw [atI_found (by have := HL.out; omega) HN.out HNM.out.symm]; rfl, HB.out⟩
      · have hef := ba_ne he
        go_wp2
        go_roundw
        case rel => exact ⟨j + 1, by omega, by go_num, ⟨notin_step (by have := HL.out; omega) HN.out (by rw [← HNM.out]; exact he)⟩, trivial⟩
        case measure => simp [intOf]; omega
    · go_wp2
      go_ret
      exact ⟨by rw [atI_none (by have h := HN.out; rwa [List.take_of_length_le (by have := HL.out; omega)] at h)]; rfl, HB.out⟩

abbrev kI : Kd Int := Kd.int .i64
/-- The document's state in memory: the names, and the numbers in block g. -/
def S2 (w : World) (base : Nat) (A : Option Addr) (n c g m cap : Nat) (ns : List ByteArray) (V : List Int) : Prop :=
  Kd.R Kd.string 9 w base (fun k => k ≠ g) (.slice A n c) ns ∧ Kd.R kI 3 w base (fun _ => True) (.slice (some ⟨g, 0, none⟩) m cap) V ∧ n ≤ 100
section
variable {w w' : World} {base : Nat} {A : Option Addr} {n c g m cap : Nat} {ns : List ByteArray} {V : List Int}
theorem S2.below (h : S2 w base A n c g m cap ns V) (hb : Below w.heap.size w w') : S2 w' base A n c g m cap ns V := ⟨Kd.R_below h.1 hb, Kd.R_below h.2.1 hb, h.2.2⟩
theorem S2.len (h : S2 w base A n c g m cap ns V) : m = V.length := (Kd.R_reads' h.2.1).1
theorem S2.names (h : S2 w base A n c g m cap ns V) : Kd.C Kd.string w A n ns := by
  obtain ⟨h1, _, h3⟩ := Kd.R_reads' h.1
  rw [← h1] at h3
  exact h3
theorem S2.cell (h : S2 w base A n c g m cap ns V) (i : Nat) (hi : i < m) : w.cell? ⟨g, i, none⟩ = some (.int .i64 (V.getD i 0)) ∧ w.frozen? ⟨g, i, none⟩ = false := by
  have hm := h.len
  subst hm
  exact Kd.R_cell (0 : Int) h.2.1 (i : Int) (by omega) (by omega)
theorem S2.put (h : S2 w base A n c g m cap ns V) (i : Nat) (x : Int) : S2 (w.setCell ⟨g, i, none⟩ (.int .i64 x)) base A n c g m cap ns (V.set i x) ∧ w.grownBy (w.setCell ⟨g, i, none⟩ (.int .i64 x)) (some g) := by
  have hm := h.len
  subst hm
  obtain ⟨h1, h2⟩ := Kd.R_put h.2.1 (i : Int) x
  exact ⟨⟨Kd.R_far h.1 (p := ⟨g, i, none⟩) (fun _ hk => hk) _, h1, h.2.2⟩, h2⟩
end
theorem S2.box {w : World} {base : Nat} {A : Option Addr} {n c g m cap : Nat} {ns : List ByteArray} {V : List Int} (h : S2 w base A n c g m cap ns V) :
    ∃ wc, wc = w.alloc (.cells #[.slice A n c, .slice (some ⟨g, 0, none⟩) m cap] 81) ∧ Below w.heap.size w wc ∧ S2 wc base A n c g m cap ns V ∧ (∀ w', Below wc.heap.size wc w' → w'.cell? ⟨w.heap.size, 0, none⟩ = some (.slice A n c) ∧ w'.cell? ⟨w.heap.size, 1, none⟩ = some (.slice (some ⟨g, 0, none⟩) m cap)) := by
  have hbc : Below w.heap.size w (w.alloc (.cells #[.slice A n c, .slice (some ⟨g, 0, none⟩) m cap] 81)) := below_alloc (Below.refl _ _) _
  have e0 := cell_lit w #[.slice A n c, .slice (some ⟨g, 0, none⟩) m cap] 81 0 _ rfl
  have e1 := cell_lit w #[.slice A n c, .slice (some ⟨g, 0, none⟩) m cap] 81 1 _ rfl
  exact ⟨_, rfl, hbc, h.below hbc, fun w' hb => ⟨(hb.cell (World.block_lt_of_cell? _ _ e0)).trans e0, (hb.cell (World.block_lt_of_cell? _ _ e1)).trans e1⟩⟩
set_option maxHeartbeats 1600000 in
set_option maxRecDepth 100000 in
theorem get_calls {w : World} {base : Nat} {A : Option Addr} {n c g m cap : Nat} {ns : List ByteArray} {V : List Int} (h : S2 w base A n c g m cap ns V) (s : ByteArray) {i : Nat} {x : Int} (hat : atI ns s = i) (hi : i < m) (hx : V[i]? = some x) :
    Calls Try.prog 65 #[.agg #[.slice A n c, .slice (some ⟨g, 0, none⟩) m cap], .string s] w fun e w' => e = .returned (.int .i64 x) ∧ Below w.heap.size w w' := by
  have hu81 := Try.underlying81
  have hu79 := Try.underlying79
  obtain ⟨wc, hwc, hbc, hS, hF⟩ := h.box
  have hq := hS.cell i hi
  rw [List.getD_eq_getElem?_getD, hx] at hq
  replace hq : wc.cell? ⟨g, i, none⟩ = some (.int .i64 x) ∧ wc.frozen? ⟨g, i, none⟩ = false := hq
  have HFZ := Aside0.mk hq.2
  have HLT := Aside0.mk (World.block_lt_of_cell? wc _ hq.1)
  have F := Aside0.mk (show ∀ w', Below wc.heap.size wc w' → (w'.cell? ⟨w.heap.size, 0, none⟩ = some (.slice A n c) ∧ w'.cell? ⟨w.heap.size, 1, none⟩ = some (.slice (some ⟨g, 0, none⟩) m cap) ∧ w'.cell? ⟨g, i, none⟩ = some (.int .i64 x)) from fun w' hb => ⟨(hF w' hb).1, (hF w' hb).2, (hb.cell (World.block_lt_of_cell? wc _ hq.1)).trans hq.1⟩)
  have HS := Aside0.mk hS
  have HB := Aside0.mk hbc
  have HF := Aside0.mk hF
  have hb1 : (0 ≤ (i : Int)) = True := eq_true (by omega)
  have hb2 : ((i : Int) < (m : Int)) = True := eq_true (by omega)
  clear hq
  clear h hS hF hbc
  generalize hbk : w.heap.size = bk at *
  go_enter Try.func65, Try.ntmps65
  go_wp2
  (try rw [hbk])
  rw [← hwc]
  clear hwc
  go_region_held (fun w' => Below wc.heap.size wc w' ∧ w'.cell? ⟨bk, 0, none⟩ = some (.slice A n c) ∧ w'.cell? ⟨bk, 1, none⟩ = some (.slice (some ⟨g, 0, none⟩) m cap) ∧ w'.cell? ⟨g, i, none⟩ = some (.int .i64 x)) (first | exact ⟨below_drew (Below.refl _ _), F.out _ (below_drew (Below.refl _ _))⟩ | exact ⟨by assumption, F.out _ (by assumption)⟩) ((go_at_call 84; refine (at_calls (HS.out.below (And.left (by assumption))).names HS.out.2.2 c _ _ _ s).mono ?_; rw [hat]; rintro e wd ⟨rfl, hb⟩; have hk := below_step (And.left (by assumption)) hb; clear hb))
  all_goals (go_wp2; go_ret; exact ⟨rfl, by subst hbk; exact below_step HB.out (And.left (by assumption))⟩)
set_option maxHeartbeats 1600000 in
set_option maxRecDepth 100000 in
theorem is_calls {w : World} {base : Nat} {A : Option Addr} {n c g m cap : Nat} {ns : List ByteArray} {V : List Int} (h : S2 w base A n c g m cap ns V) (s : ByteArray) {i : Nat} {x : Int} (hat : atI ns s = i) (hi : i < m) (hx : V[i]? = some x) :
    Calls Try.prog 64 #[.agg #[.slice A n c, .slice (some ⟨g, 0, none⟩) m cap], .string s] w fun e w' => e = .returned (.bool (!(x == 0))) ∧ Below w.heap.size w w' := by
  have hu81 := Try.underlying81
  have hu79 := Try.underlying79
  obtain ⟨wc, hwc, hbc, hS, hF⟩ := h.box
  have hq := hS.cell i hi
  rw [List.getD_eq_getElem?_getD, hx] at hq
  replace hq : wc.cell? ⟨g, i, none⟩ = some (.int .i64 x) ∧ wc.frozen? ⟨g, i, none⟩ = false := hq
  have HFZ := Aside0.mk hq.2
  have HLT := Aside0.mk (World.block_lt_of_cell? wc _ hq.1)
  have F := Aside0.mk (show ∀ w', Below wc.heap.size wc w' → (w'.cell? ⟨w.heap.size, 0, none⟩ = some (.slice A n c) ∧ w'.cell? ⟨w.heap.size, 1, none⟩ = some (.slice (some ⟨g, 0, none⟩) m cap) ∧ w'.cell? ⟨g, i, none⟩ = some (.int .i64 x)) from fun w' hb => ⟨(hF w' hb).1, (hF w' hb).2, (hb.cell (World.block_lt_of_cell? wc _ hq.1)).trans hq.1⟩)
  have HS := Aside0.mk hS
  have HB := Aside0.mk hbc
  have HF := Aside0.mk hF
  have hb1 : (0 ≤ (i : Int)) = True := eq_true (by omega)
  have hb2 : ((i : Int) < (m : Int)) = True := eq_true (by omega)
  clear hq
  clear h hS hF hbc
  generalize hbk : w.heap.size = bk at *
  go_enter Try.func64, Try.ntmps64
  go_wp2
  (try rw [hbk])
  rw [← hwc]
  clear hwc
  go_region_held (fun w' => Below wc.heap.size wc w' ∧ w'.cell? ⟨bk, 0, none⟩ = some (.slice A n c) ∧ w'.cell? ⟨bk, 1, none⟩ = some (.slice (some ⟨g, 0, none⟩) m cap) ∧ w'.cell? ⟨g, i, none⟩ = some (.int .i64 x)) (first | exact ⟨below_drew (Below.refl _ _), F.out _ (below_drew (Below.refl _ _))⟩ | exact ⟨by assumption, F.out _ (by assumption)⟩) ((go_at_call 84; refine (at_calls (HS.out.below (And.left (by assumption))).names HS.out.2.2 c _ _ _ s).mono ?_; rw [hat]; rintro e wd ⟨rfl, hb⟩; have hk := below_step (And.left (by assumption)) hb; clear hb))
  all_goals (go_wp2; go_ret; exact ⟨rfl, by subst hbk; exact below_step HB.out (And.left (by assumption))⟩)
set_option maxHeartbeats 1600000 in
set_option maxRecDepth 100000 in
theorem put_calls {w : World} {base : Nat} {A : Option Addr} {n c g m cap : Nat} {ns : List ByteArray} {V : List Int} (h : S2 w base A n c g m cap ns V) (s : ByteArray) {i : Nat} {x : Int} (hat : atI ns s = i) (hi : i < m) (hx : V[i]? = some x) (v : Int) :
    Calls Try.prog 67 #[.agg #[.slice A n c, .slice (some ⟨g, 0, none⟩) m cap], .string s, .int .i64 v] w fun e w' => e = .returned (.tuple #[]) ∧ S2 w' base A n c g m cap ns (V.set i v) ∧ w.grownBy w' (some g) := by
  have hu81 := Try.underlying81
  have hu79 := Try.underlying79
  obtain ⟨wc, hwc, hbc, hS, hF⟩ := h.box
  have hq := hS.cell i hi
  rw [List.getD_eq_getElem?_getD, hx] at hq
  replace hq : wc.cell? ⟨g, i, none⟩ = some (.int .i64 x) ∧ wc.frozen? ⟨g, i, none⟩ = false := hq
  have HFZ := Aside0.mk hq.2
  have HLT := Aside0.mk (World.block_lt_of_cell? wc _ hq.1)
  have F := Aside0.mk (show ∀ w', Below wc.heap.size wc w' → (w'.cell? ⟨w.heap.size, 0, none⟩ = some (.slice A n c) ∧ w'.cell? ⟨w.heap.size, 1, none⟩ = some (.slice (some ⟨g, 0, none⟩) m cap) ∧ w'.cell? ⟨g, i, none⟩ = some (.int .i64 x)) from fun w' hb => ⟨(hF w' hb).1, (hF w' hb).2, (hb.cell (World.block_lt_of_cell? wc _ hq.1)).trans hq.1⟩)
  have HS := Aside0.mk hS
  have HB := Aside0.mk hbc
  have HF := Aside0.mk hF
  have hb1 : (0 ≤ (i : Int)) = True := eq_true (by omega)
  have hb2 : ((i : Int) < (m : Int)) = True := eq_true (by omega)
  clear hq
  clear h hS hF hbc
  generalize hbk : w.heap.size = bk at *
  go_enter Try.func67, Try.ntmps67
  go_wp2
  (try rw [hbk])
  rw [← hwc]
  clear hwc
  have hd : Below wc.heap.size wc wc.drew := below_drew (Below.refl _ _)
  obtain ⟨d0, d1, d2⟩ := F.out _ hd
  go_region_with (go_at_call 84; refine (at_calls (HS.out.below hd).names HS.out.2.2 c _ _ _ s).mono ?_; rw [hat]; rintro e wd ⟨rfl, hb⟩; have hk := below_step hd hb; have hz := (hk.frozen (p := ⟨g, i, none⟩) HLT.out).trans HFZ.out; have Q := F.out _ hk; have q0 := Q.1; have q1 := Q.2.1; have q2 := Q.2.2; clear Q hb)
  all_goals (go_end0; exact ⟨rfl, by have h := ((HS.out.below hk).put i v); exact ⟨h.1, World.grownBy.trans (grown_of_below (by subst hbk; exact below_step HB.out hk) (some g)) h.2⟩⟩)
set_option maxHeartbeats 1600000 in
set_option maxRecDepth 100000 in
theorem bit83_calls (b : Bool) (w : World) :
    Calls Try.prog 83 #[.bool b] w fun e w' => e = .returned (.int .i64 (b2i b)) ∧ w = w' := by
  cases b
  · go_enter Try.func83, Try.ntmps83
    go_wp2
    go_ret
    exact ⟨rfl, rfl⟩
  · go_enter Try.func83, Try.ntmps83
    go_wp2
    go_ret
    exact ⟨rfl, rfl⟩
set_option maxHeartbeats 1600000 in
set_option maxRecDepth 100000 in
theorem say_calls {w : World} {base : Nat} {A : Option Addr} {n c g m cap : Nat} {ns : List ByteArray} {V : List Int} (h : S2 w base A n c g m cap ns V) (s : ByteArray) {i : Nat} {x : Int} (hat : atI ns s = i) (hi : i < m) (hx : V[i]? = some x) (b : Bool) :
    Calls Try.prog 63 #[.agg #[.slice A n c, .slice (some ⟨g, 0, none⟩) m cap], .string s, .bool b] w fun e w' => e = .returned (.tuple #[]) ∧ S2 w' base A n c g m cap ns (V.set i (b2i b)) ∧ w.grownBy w' (some g) := by
  have hu81 := Try.underlying81
  have hu79 := Try.underlying79
  obtain ⟨wc, hwc, hbc, hS, hF⟩ := h.box
  have hq := hS.cell i hi
  rw [List.getD_eq_getElem?_getD, hx] at hq
  replace hq : wc.cell? ⟨g, i, none⟩ = some (.int .i64 x) ∧ wc.frozen? ⟨g, i, none⟩ = false := hq
  have HFZ := Aside0.mk hq.2
  have HLT := Aside0.mk (World.block_lt_of_cell? wc _ hq.1)
  have F := Aside0.mk (show ∀ w', Below wc.heap.size wc w' → (w'.cell? ⟨w.heap.size, 0, none⟩ = some (.slice A n c) ∧ w'.cell? ⟨w.heap.size, 1, none⟩ = some (.slice (some ⟨g, 0, none⟩) m cap) ∧ w'.cell? ⟨g, i, none⟩ = some (.int .i64 x)) from fun w' hb => ⟨(hF w' hb).1, (hF w' hb).2, (hb.cell (World.block_lt_of_cell? wc _ hq.1)).trans hq.1⟩)
  have HS := Aside0.mk hS
  have HB := Aside0.mk hbc
  have HF := Aside0.mk hF
  have hb1 : (0 ≤ (i : Int)) = True := eq_true (by omega)
  have hb2 : ((i : Int) < (m : Int)) = True := eq_true (by omega)
  clear hq
  clear h hS hF hbc
  generalize hbk : w.heap.size = bk at *
  go_enter Try.func63, Try.ntmps63
  go_wp2
  (try rw [hbk])
  rw [← hwc]
  clear hwc
  have hd : Below wc.heap.size wc wc.drew := below_drew (Below.refl _ _)
  obtain ⟨d0, d1, d2⟩ := F.out _ hd
  go_region_with (first | (go_at_call 83; refine (bit83_calls b _).mono ?_; rintro e wd ⟨rfl, rfl⟩) | (go_at_call 84; refine (at_calls (HS.out.below hd).names HS.out.2.2 c _ _ _ s).mono ?_; rw [hat]; rintro e wd ⟨rfl, hb⟩; have hk := below_step hd hb; have hz := (hk.frozen (p := ⟨g, i, none⟩) HLT.out).trans HFZ.out; have Q := F.out _ hk; have q0 := Q.1; have q1 := Q.2.1; have q2 := Q.2.2; clear Q hb))
  all_goals (go_end0; exact ⟨rfl, by have h := ((HS.out.below hk).put i (b2i b)); exact ⟨h.1, World.grownBy.trans (grown_of_below (by subst hbk; exact below_step HB.out hk) (some g)) h.2⟩⟩)

theorem set_self {V : List Int} {i : Nat} {x : Int} (h : V[i]? = some x) : V.set i x = V := by
  apply List.ext_getElem?
  intro j
  rw [List.getElem?_set]
  by_cases e : i = j
  · subst e
    rw [if_pos rfl, h]
    have := (List.getElem?_eq_some_iff.1 h).1
    simp [this]
  · rw [if_neg e]
theorem b2i_nz (b : Bool) : (!(b2i b == 0)) = b := by cases b <;> rfl
theorem getA {w0 w : World} {base : Nat} {A : Option Addr} {n c g m cap : Nat} {ns : List ByteArray} {V : List Int} (h : Aside0 (S2 w base A n c g m cap ns V)) (hg : Aside0 (w0.grownBy w (some g))) {x : Int} (s : ByteArray) {i : Nat} (hai : atI ns s = i) (hii : i < m) (hxi : V[i]? = some x) :
    Calls Try.prog 65 #[.agg #[.slice A n c, .slice (some ⟨g, 0, none⟩) m cap], .string s] w fun e w' => e = .returned (.int .i64 x) ∧ Aside0 (S2 w' base A n c g m cap ns V) ∧ Aside0 (w0.grownBy w' (some g)) := by
  refine (get_calls h.out s hai hii hxi).mono ?_
  rintro e w' ⟨rfl, hb⟩
  exact ⟨rfl, ⟨h.out.below hb⟩, ⟨World.grownBy.trans hg.out (grown_of_below hb _)⟩⟩
theorem isA {w0 w : World} {base : Nat} {A : Option Addr} {n c g m cap : Nat} {ns : List ByteArray} {V : List Int} (h : Aside0 (S2 w base A n c g m cap ns V)) (hg : Aside0 (w0.grownBy w (some g))) {b : Bool} (s : ByteArray) {i : Nat} (hai : atI ns s = i) (hii : i < m) (hxi : V[i]? = some (b2i b)) :
    Calls Try.prog 64 #[.agg #[.slice A n c, .slice (some ⟨g, 0, none⟩) m cap], .string s] w fun e w' => e = .returned (.bool b) ∧ Aside0 (S2 w' base A n c g m cap ns V) ∧ Aside0 (w0.grownBy w' (some g)) := by
  refine (is_calls h.out s hai hii hxi).mono ?_
  rintro e w' ⟨rfl, hb⟩
  exact ⟨by rw [b2i_nz], ⟨h.out.below hb⟩, ⟨World.grownBy.trans hg.out (grown_of_below hb _)⟩⟩
theorem putA {w0 w : World} {base : Nat} {A : Option Addr} {n c g m cap : Nat} {ns : List ByteArray} {V : List Int} (h : Aside0 (S2 w base A n c g m cap ns V)) (hg : Aside0 (w0.grownBy w (some g))) {x : Int} (s : ByteArray) {i : Nat} (hai : atI ns s = i) (hii : i < m) (hxi : V[i]? = some x) (v : Int) :
    Calls Try.prog 67 #[.agg #[.slice A n c, .slice (some ⟨g, 0, none⟩) m cap], .string s, .int .i64 v] w fun e w' => e = .returned (.tuple #[]) ∧ Aside0 (S2 w' base A n c g m cap ns (V.set i v)) ∧ Aside0 (w0.grownBy w' (some g)) := by
  refine (put_calls h.out s hai hii hxi v).mono ?_
  rintro e w' ⟨rfl, hs, hw⟩
  exact ⟨rfl, ⟨hs⟩, ⟨World.grownBy.trans hg.out hw⟩⟩
theorem sayA {w0 w : World} {base : Nat} {A : Option Addr} {n c g m cap : Nat} {ns : List ByteArray} {V : List Int} (h : Aside0 (S2 w base A n c g m cap ns V)) (hg : Aside0 (w0.grownBy w (some g))) {x : Int} (s : ByteArray) {i : Nat} (hai : atI ns s = i) (hii : i < m) (hxi : V[i]? = some x) (v : Bool) :
    Calls Try.prog 63 #[.agg #[.slice A n c, .slice (some ⟨g, 0, none⟩) m cap], .string s, .bool v] w fun e w' => e = .returned (.tuple #[]) ∧ Aside0 (S2 w' base A n c g m cap ns (V.set i (b2i v))) ∧ Aside0 (w0.grownBy w' (some g)) := by
  refine (say_calls h.out s hai hii hxi v).mono ?_
  rintro e w' ⟨rfl, hs, hw⟩
  exact ⟨rfl, ⟨hs⟩, ⟨World.grownBy.trans hg.out hw⟩⟩
theorem S2.drewA {w : World} {base : Nat} {A : Option Addr} {n c g m cap : Nat} {ns : List ByteArray} {V : List Int} (h : Aside0 (S2 w base A n c g m cap ns V)) : Aside0 (S2 w.drew base A n c g m cap ns V) := ⟨h.out.below (below_drew (Below.refl _ _))⟩
theorem S2.glt {w : World} {base : Nat} {A : Option Addr} {n c g m cap : Nat} {ns : List ByteArray} {V : List Int} (h : S2 w base A n c g m cap ns V) : g < w.heap.size := Kd.R_lt h.2.1 g rfl
/-- the box of a state: its cells stay, whatever the numbers become -/
theorem S2.boxA {w0 : World} {w : World} {base : Nat} {A : Option Addr} {n c g m cap : Nat} {ns : List ByteArray} {V : List Int} (h : Aside0 (S2 w base A n c g m cap ns V)) (hg : Aside0 (w0.grownBy w (some g))) :
    ∃ wb, wb = w.alloc (.cells #[.slice A n c, .slice (some ⟨g, 0, none⟩) m cap] 81) ∧ Aside0 (S2 wb base A n c g m cap ns V) ∧ Aside0 (w0.grownBy wb (some g)) ∧ Aside0 (wb.grownBy wb (some g)) ∧ Aside0 (∀ w', wb.grownBy w' (some g) → w'.cell? ⟨w.heap.size, 0, none⟩ = some (.slice A n c) ∧ w'.cell? ⟨w.heap.size, 1, none⟩ = some (.slice (some ⟨g, 0, none⟩) m cap)) := by
  have hbc : Below w.heap.size w (w.alloc (.cells #[.slice A n c, .slice (some ⟨g, 0, none⟩) m cap] 81)) := below_alloc (Below.refl _ _) _
  have e0 := cell_lit w #[.slice A n c, .slice (some ⟨g, 0, none⟩) m cap] 81 0 _ rfl
  have e1 := cell_lit w #[.slice A n c, .slice (some ⟨g, 0, none⟩) m cap] 81 1 _ rfl
  have hlt := h.out.glt
  have hne : w.heap.size ≠ g := by omega
  refine ⟨_, rfl, ⟨h.out.below hbc⟩, ⟨World.grownBy.trans hg.out (grown_of_below hbc _)⟩, ⟨World.grownBy.refl _ _⟩, ⟨fun w' hw => ⟨?_, ?_⟩⟩⟩
  · exact (World.cell?_of_block (hw.block _ (World.block_lt_of_cell? _ _ e0) (fun e => hne (by injection e)))).trans e0
  · exact (World.cell?_of_block (hw.block _ (World.block_lt_of_cell? _ _ e1) (fun e => hne (by injection e)))).trans e1
def sinceN (s now : Int) : Int := if s < 0 then 0 else if now < s then 0 else now - s
set_option maxHeartbeats 1600000 in
set_option maxRecDepth 100000 in
theorem risesA {w0 w : World} {base : Nat} {A : Option Addr} {n c g m cap : Nat} {ns : List ByteArray} {V : List Int} (h : Aside0 (S2 w base A n c g m cap ns V)) (hg : Aside0 (w0.grownBy w (some g))) (s t : ByteArray) {i j : Nat} {a b : Bool} (hai : atI ns s = i) (hii : i < m) (hxi : V[i]? = some (b2i a)) (haj : atI ns t = j) (hij : j < m) (hxj : V[j]? = some (b2i b)) :
    Calls Try.prog 66 #[.agg #[.slice A n c, .slice (some ⟨g, 0, none⟩) m cap], .string s, .string t] w fun e w' => e = .returned (.bool (a && !b)) ∧ Aside0 (S2 w' base A n c g m cap ns V) ∧ Aside0 (w0.grownBy w' (some g)) := by
  have hu81 := Try.underlying81
  obtain ⟨wb, hwb, HS, HG0, HG, HF⟩ := S2.boxA h hg
  clear h hg
  obtain ⟨c0, c1⟩ := HF.out wb HG.out
  have HX := Aside0.mk hxi
  have HY := Aside0.mk hxj
  clear hxi hxj
  cases a with
  | true =>
    go_enter Try.func66, Try.ntmps66
    go_wp2_with fail
    rw [← hwb]
    clear hwb
    refine (isA HS HG s hai hii HX.out).mono ?_
    rintro e wd ⟨rfl, hs, hg⟩
    clear c0 c1 HS HG
    obtain ⟨c0, c1⟩ := HF.out _ hg.out
    have HS := hs
    have HG := hg
    clear hs hg
    go_wp2_with fail
    refine (isA HS HG t haj hij HY.out).mono ?_
    rintro e wd ⟨rfl, hs, hg⟩
    clear c0 c1 HS HG
    obtain ⟨c0, c1⟩ := HF.out _ hg.out
    have HS := hs
    have HG := hg
    clear hs hg
    go_wp2
    go_ret
    exact ⟨rfl, HS, ⟨World.grownBy.trans HG0.out HG.out⟩⟩
  | false =>
    go_enter Try.func66, Try.ntmps66
    go_wp2_with fail
    rw [← hwb]
    clear hwb
    refine (isA HS HG s hai hii HX.out).mono ?_
    rintro e wd ⟨rfl, hs, hg⟩
    clear c0 c1 HS HG
    obtain ⟨c0, c1⟩ := HF.out _ hg.out
    have HS := hs
    have HG := hg
    clear hs hg
    go_wp2
    go_ret
    exact ⟨rfl, HS, ⟨World.grownBy.trans HG0.out HG.out⟩⟩
set_option maxHeartbeats 1600000 in
set_option maxRecDepth 100000 in
theorem sinceA {w0 w : World} {base : Nat} {A : Option Addr} {n c g m cap : Nat} {ns : List ByteArray} {V : List Int} (h : Aside0 (S2 w base A n c g m cap ns V)) (hg : Aside0 (w0.grownBy w (some g))) {i : Nat} {x : Int} (now : Int) (hai : atI ns ⟨#[83]⟩ = i) (hii : i < m) (hxi : V[i]? = some x) (h0 : 0 ≤ now) (h1 : now ≤ 4611686018427387904) :
    Calls Try.prog 69 #[.agg #[.slice A n c, .slice (some ⟨g, 0, none⟩) m cap], .int .i64 now] w fun e w' => e = .returned (.int .i64 (sinceN x now)) ∧ Aside0 (S2 w' base A n c g m cap ns V) ∧ Aside0 (w0.grownBy w' (some g)) := by
  have hu81 := Try.underlying81
  obtain ⟨wb, hwb, HS, HG0, HG, HF⟩ := S2.boxA h hg
  clear h hg
  obtain ⟨c0, c1⟩ := HF.out wb HG.out
  have HX := Aside0.mk hxi
  clear hxi
  by_cases a1 : x < 0
  · have hv : sinceN x now = 0 := by unfold sinceN; rw [if_pos a1]
    rw [hv]
    clear hv
    have hT : (x < 0) = True := eq_true a1
    go_enter Try.func69, Try.ntmps69
    go_wp2_with fail
    rw [← hwb]
    clear hwb
    refine (getA HS HG ⟨#[83]⟩ hai hii HX.out).mono ?_
    rintro e wd ⟨rfl, hs, hg⟩
    clear c0 c1 HS HG
    obtain ⟨c0, c1⟩ := HF.out _ hg.out
    have HS := hs
    have HG := hg
    clear hs hg
    go_wp2
    go_ret
    exact ⟨rfl, HS, ⟨World.grownBy.trans HG0.out HG.out⟩⟩
  · have hT : (x < 0) = False := eq_false a1
    by_cases a2 : now < x
    · have hv : sinceN x now = 0 := by unfold sinceN; rw [if_neg a1, if_pos a2]
      rw [hv]
      clear hv
      have hT2 : (now < x) = True := eq_true a2
      go_enter Try.func69, Try.ntmps69
      go_wp2_with fail
      rw [← hwb]
      clear hwb
      refine (getA HS HG ⟨#[83]⟩ hai hii HX.out).mono ?_
      rintro e wd ⟨rfl, hs, hg⟩
      clear c0 c1 HS HG
      obtain ⟨c0, c1⟩ := HF.out _ hg.out
      have HS := hs
      have HG := hg
      clear hs hg
      go_wp2_with fail
      refine (getA HS HG ⟨#[83]⟩ hai hii HX.out).mono ?_
      rintro e wd ⟨rfl, hs, hg⟩
      clear c0 c1 HS HG
      obtain ⟨c0, c1⟩ := HF.out _ hg.out
      have HS := hs
      have HG := hg
      clear hs hg
      go_wp2
      go_ret
      exact ⟨rfl, HS, ⟨World.grownBy.trans HG0.out HG.out⟩⟩
    · have hv : sinceN x now = now - x := by unfold sinceN; rw [if_neg a1, if_neg a2]
      rw [hv]
      clear hv
      have hT2 : (now < x) = False := eq_false a2
      have hw : wrap64 (now - x) = now - x := by unfold wrap64; omega
      go_enter Try.func69, Try.ntmps69
      go_wp2_with fail
      rw [← hwb]
      clear hwb
      refine (getA HS HG ⟨#[83]⟩ hai hii HX.out).mono ?_
      rintro e wd ⟨rfl, hs, hg⟩
      clear c0 c1 HS HG
      obtain ⟨c0, c1⟩ := HF.out _ hg.out
      have HS := hs
      have HG := hg
      clear hs hg
      go_wp2_with fail
      refine (getA HS HG ⟨#[83]⟩ hai hii HX.out).mono ?_
      rintro e wd ⟨rfl, hs, hg⟩
      clear c0 c1 HS HG
      obtain ⟨c0, c1⟩ := HF.out _ hg.out
      have HS := hs
      have HG := hg
      clear hs hg
      go_wp2_with fail
      refine (getA HS HG ⟨#[83]⟩ hai hii HX.out).mono ?_
      rintro e wd ⟨rfl, hs, hg⟩
      clear c0 c1 HS HG
      obtain ⟨c0, c1⟩ := HF.out _ hg.out
      have HS := hs
      have HG := hg
      clear hs hg
      go_wp2
      go_ret
      exact ⟨rfl, HS, ⟨World.grownBy.trans HG0.out HG.out⟩⟩
set_option maxHeartbeats 1600000 in
set_option maxRecDepth 100000 in
theorem spentA {w0 w : World} {base : Nat} {A : Option Addr} {n c g m cap : Nat} {ns : List ByteArray} {V : List Int} (h : Aside0 (S2 w base A n c g m cap ns V)) (hg : Aside0 (w0.grownBy w (some g))) {i j : Nat} {x y : Int} (si sp : Int) (hai : atI ns ⟨#[81]⟩ = i) (hii : i < m) (hxi : V[i]? = some x) (haj : atI ns ⟨#[69, 84]⟩ = j) (hij : j < m) (hxj : V[j]? = some y) (hne : i ≠ j) :
    Calls Try.prog 68 #[.agg #[.slice A n c, .slice (some ⟨g, 0, none⟩) m cap], .int .i64 si, .int .i64 sp] w fun e w' => e = .returned (.tuple #[]) ∧ Aside0 (S2 w' base A n c g m cap ns (if sp ≤ si then (V.set i (b2i false)).set j sp else V.set j si)) ∧ Aside0 (w0.grownBy w' (some g)) := by
  have hu81 := Try.underlying81
  obtain ⟨wb, hwb, HS, HG0, HG, HF⟩ := S2.boxA h hg
  clear h hg
  obtain ⟨c0, c1⟩ := HF.out wb HG.out
  have HX := Aside0.mk hxi
  have HY := Aside0.mk hxj
  have HZ : Aside0 ((V.set i (b2i false))[j]? = some y) := ⟨by rw [List.getElem?_set_ne hne]; exact hxj⟩
  clear hxi hxj
  by_cases a1 : sp ≤ si
  · have hT : (sp ≤ si) = True := eq_true a1
    rw [show (if sp ≤ si then (V.set i (b2i false)).set j sp else V.set j si) = (V.set i (b2i false)).set j sp from if_pos a1]
    go_enter Try.func68, Try.ntmps68
    go_wp2_with fail
    rw [← hwb]
    clear hwb
    refine (sayA HS HG ⟨#[81]⟩ hai hii HX.out false).mono ?_
    rintro e wd ⟨rfl, hs, hg⟩
    clear c0 c1 HS HG
    obtain ⟨c0, c1⟩ := HF.out _ hg.out
    have HS := hs
    have HG := hg
    clear hs hg
    go_wp2_with fail
    refine (putA HS HG ⟨#[69, 84]⟩ haj hij HZ.out sp).mono ?_
    rintro e wd ⟨rfl, hs, hg⟩
    clear c0 c1 HS HG
    obtain ⟨c0, c1⟩ := HF.out _ hg.out
    have HS := hs
    have HG := hg
    clear hs hg
    go_wp2
    go_end0
    exact ⟨rfl, HS, ⟨World.grownBy.trans HG0.out HG.out⟩⟩
  · have hT : (sp ≤ si) = False := eq_false a1
    rw [show (if sp ≤ si then (V.set i (b2i false)).set j sp else V.set j si) = V.set j si from if_neg a1]
    go_enter Try.func68, Try.ntmps68
    go_wp2_with fail
    rw [← hwb]
    clear hwb
    refine (putA HS HG ⟨#[69, 84]⟩ haj hij HY.out si).mono ?_
    rintro e wd ⟨rfl, hs, hg⟩
    clear c0 c1 HS HG
    obtain ⟨c0, c1⟩ := HF.out _ hg.out
    have HS := hs
    have HG := hg
    clear hs hg
    go_wp2
    go_end0
    exact ⟨rfl, HS, ⟨World.grownBy.trans HG0.out HG.out⟩⟩

end Go.Proofs.Ytfadafgnahhmdaa.X
