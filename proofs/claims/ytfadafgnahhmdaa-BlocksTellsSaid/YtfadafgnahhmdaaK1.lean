import Derived.Test.YtfadafgnahhmdaaUA
import Derived.Test.YtfadafgnahhmdaaV0
namespace Go.Proofs.Ytfadafgnahhmdaa.X
open Go.RowKit Go.Proofs.YtfadafgnahhmdaaW.PrintWords Go.Proofs.YtfadafgnahhmdaaW.PrintLast Go.Proofs.YtfadafgnahhmdaaW.PrintMore Go.Proofs.Ytfadafgnahhmdaa.E
attribute [local go_sem] max2_int min2_int max_two min_two max_three min_three max_four min_four
set_option linter.unusedVariables false
set_option linter.unusedSimpArgs false

/-! ### The blocks' names, of both sides -/
def NM : List ByteArray := [(⟨#[]⟩ : ByteArray), (⟨#[83, 82]⟩ : ByteArray), (⟨#[82, 83]⟩ : ByteArray), (⟨#[82, 95, 84, 82, 73, 71]⟩ : ByteArray), (⟨#[70, 95, 84, 82, 73, 71]⟩ : ByteArray), (⟨#[67, 84, 85]⟩ : ByteArray), (⟨#[67, 84, 68]⟩ : ByteArray), (⟨#[67, 84, 85, 68]⟩ : ByteArray), (⟨#[84, 80]⟩ : ByteArray), (⟨#[84, 79, 78]⟩ : ByteArray), (⟨#[84, 79, 70]⟩ : ByteArray)]
def nameF (k : Int) : ByteArray := if k < 1 then ⟨#[]⟩ else if 11 ≤ k then ⟨#[]⟩ else NM.getD k.toNat ByteArray.empty
def kindF (s : ByteArray) : Int × Bool := if 1 ≤ atF NM s ∧ atF NM s ≤ 10 then ((atF NM s : Int), true) else (0, false)
theorem NM_at (q : Nat) (h : q < 11) : atF NM (NM.getD q ByteArray.empty) = q := by
  have : q = 0 ∨ q = 1 ∨ q = 2 ∨ q = 3 ∨ q = 4 ∨ q = 5 ∨ q = 6 ∨ q = 7 ∨ q = 8 ∨ q = 9 ∨ q = 10 := by omega
  rcases this with rfl | rfl | rfl | rfl | rfl | rfl | rfl | rfl | rfl | rfl | rfl <;> decide
theorem NM_no (s : ByteArray) (h : ∀ q, 1 ≤ q → q < 11 → NM.getD q ByteArray.empty ≠ s) : kindF s = (0, false) := by
  have hf : ¬ (1 ≤ atF NM s ∧ atF NM s ≤ 10) := by
    rintro ⟨h1, h2⟩
    have : ∀ (l : List ByteArray), atF l s < l.length → l.getD (atF l s) ByteArray.empty = s := by
      intro l
      induction l with
      | nil => intro h; simp at h
      | cons x xs ih =>
        intro hl
        unfold atF at hl ⊢
        by_cases he : x = s
        · rw [if_pos he]; simpa using he
        · rw [if_neg he] at hl ⊢
          simpa using ih (by simpa using hl)
    exact h (atF NM s) h1 (by omega) (this NM (by show atF NM s < 11; omega))
  unfold kindF
  rw [if_neg hf]
set_option maxHeartbeats 1600000 in
set_option maxRecDepth 100000 in
theorem names_calls (w : World) : Calls Try.prog 35 #[] w fun e w' => e = .returned (.slice (some ⟨w.heap.size, 0, none⟩) 11 11) ∧ Kd.C Kd.string w' (some ⟨w.heap.size, 0, none⟩) 11 NM ∧ Below w.heap.size w w' := by
  go_enter Try.func35, Try.ntmps35
  go_wp2
  refine bodyPost_ret (v := .slice (some ⟨w.heap.size, 0, none⟩) 11 11) (by simp [results, Try.results35, go_sem]) rfl ⟨rfl, lit_strs w NM _ rfl (by decide), below_alloc (Below.refl _ _) _⟩
set_option maxHeartbeats 1600000 in
set_option maxRecDepth 100000 in
theorem index_calls {w : World} {A : Option Addr} {n : Nat} {ns : List ByteArray} (hr : Kd.C Kd.string w A n ns) (hn : n ≤ 100) (cp : Nat) (s : ByteArray) :
    Calls Try.prog 34 #[.slice A n cp, .string s] w fun e w' => e = .returned (.int .i64 (if atF ns s < n then (atF ns s : Int) else -1)) ∧ w = w' := by
  obtain ⟨r, hres⟩ : ∃ r, (if atF ns s < n then (atF ns s : Int) else -1) = r := ⟨_, rfl⟩
  rw [hres]
  have HRES := Aside0.mk hres
  clear hres
  have hl : ns.length = n := hr.1
  have HR := Aside0.mk hr
  have HL := Aside0.mk hl
  clear hl hr
  go_enter Try.func34, Try.ntmps34
  go_wp2
  go_loopw [8] (fun i wr => ∃ j : Nat, j ≤ n ∧ i = .int .i64 j ∧ Aside0 (s ∉ ns.take j) ∧ w = wr) (fun i _ => n - (intOf i).toNat)
  case atStart => exact ⟨0, Nat.zero_le _, rfl, ⟨by simp⟩, rfl⟩
  case round =>
    obtain ⟨j, hj, rfl, HN, rfl⟩ := hrel
    by_cases hlt : j < n
    · obtain ⟨ad, rfl, hc0⟩ := Kd.at_string HR.out (j : Int) (by omega) (by omega)
      rw [Int.toNat_natCast] at hc0
      have hrd : rdOf ByteArray.empty ns (j : Int) = ns.getD j ByteArray.empty := rfl
      rw [hrd] at hc0
      obtain ⟨nm, hnm⟩ : ∃ nm, nm = ns.getD j ByteArray.empty := ⟨_, rfl⟩
      rw [← hnm] at hc0
      have HNM := Aside0.mk hnm
      clear hnm hrd
      have hb1 : (0 ≤ (j : Int)) = True := eq_true (by omega)
      have hb2 : ((j : Int) < (n : Int)) = True := eq_true (by omega)
      by_cases he : s = nm
      · subst he
        go_wp2
        go_ret
        have hj2 : r = (j : Int) := by rw [← HRES.out, atF_found (by have := HL.out; omega) HN.out HNM.out.symm, if_pos hlt]
        rw [hj2]
        exact ⟨rfl, rfl⟩
      · have hef := ba_ne he
        go_wp2
        go_roundw
        case rel => exact ⟨j + 1, by omega, by go_num, ⟨notin_step (by have := HL.out; omega) HN.out (by rw [← HNM.out]; exact fun h => he h.symm)⟩, trivial⟩
        case measure => simp [intOf]; omega
    · go_wp2
      go_ret
      have hj2 : r = -1 := by rw [← HRES.out, atF_none (by have h := HN.out; rwa [List.take_of_length_le (by have := HL.out; omega)] at h), if_neg (by have := HL.out; omega)]
      rw [hj2]
      exact ⟨rfl, rfl⟩
set_option maxHeartbeats 1600000 in
set_option maxRecDepth 100000 in
theorem kind13_calls (s : ByteArray) (w : World) : Calls Try.prog 13 #[.string s] w fun e w' => e = .returned (.tuple #[.int .i64 (kindF s).1, .bool (kindF s).2]) ∧ Below w.heap.size w w' := by
  obtain ⟨v, hv⟩ : ∃ v, (if atF NM s < 11 then (atF NM s : Int) else -1) = v := ⟨_, rfl⟩
  have HV := Aside0.mk hv
  by_cases h : v < 1
  · have hk : kindF s = (0, false) := by
      unfold kindF
      rw [if_neg]
      rintro ⟨h1, h2⟩
      rw [if_pos (by omega)] at hv
      omega
    rw [hk]
    have hT : (v < 1) = True := eq_true h
    clear hk hv
    go_enter Try.func13, Try.ntmps13
    go_wp2_with fail
    refine (names_calls _).mono ?_
    rintro e w1 ⟨rfl, hC, hb⟩
    have HC := Aside0.mk hC
    have HB := Aside0.mk hb
    clear hC hb
    go_wp2_with fail
    refine (index_calls HC.out (by decide) _ s).mono ?_
    rintro e w2 ⟨rfl, rfl⟩
    rw [HV.out]
    go_wp2
    go_ret2
    exact ⟨rfl, HB.out⟩
  · have hk : kindF s = (v, true) := by
      have h11 : atF NM s < 11 := by
        rcases Nat.lt_or_ge (atF NM s) 11 with h' | h'
        · exact h'
        · rw [if_neg (by omega)] at hv; omega
      rw [if_pos h11] at hv
      unfold kindF
      rw [if_pos (by omega), hv]
    rw [hk]
    have hT : (v < 1) = False := eq_false h
    clear hk hv
    go_enter Try.func13, Try.ntmps13
    go_wp2_with fail
    refine (names_calls _).mono ?_
    rintro e w1 ⟨rfl, hC, hb⟩
    have HC := Aside0.mk hC
    have HB := Aside0.mk hb
    clear hC hb
    go_wp2_with fail
    refine (index_calls HC.out (by decide) _ s).mono ?_
    rintro e w2 ⟨rfl, rfl⟩
    rw [HV.out]
    go_wp2
    go_ret2
    exact ⟨rfl, HB.out⟩
set_option maxHeartbeats 1600000 in
set_option maxRecDepth 100000 in
theorem name15_calls (k : Int) (w : World) : Calls Try.prog 15 #[.int .i64 k] w fun e w' => e = .returned (.string (nameF k)) ∧ Below w.heap.size w w' := by
  by_cases h1 : k < 1
  · rw [show nameF k = ⟨#[]⟩ from by unfold nameF; rw [if_pos h1]]
    have hT : (k < 1) = True := eq_true h1
    go_enter Try.func15, Try.ntmps15
    go_wp2
    go_ret
    exact ⟨rfl, Below.refl _ _⟩
  · by_cases h2 : 11 ≤ k
    · rw [show nameF k = ⟨#[]⟩ from by unfold nameF; rw [if_neg h1, if_pos h2]]
      have hT : (k < 1) = False := eq_false h1
      have hT2 : (11 ≤ k) = True := eq_true h2
      go_enter Try.func15, Try.ntmps15
      go_wp2
      go_ret
      exact ⟨rfl, Below.refl _ _⟩
    · have hT : (k < 1) = False := eq_false h1
      have hT2 : (11 ≤ k) = False := eq_false h2
      have HN := Aside0.mk (show nameF k = NM.getD k.toNat ByteArray.empty from by unfold nameF; rw [if_neg h1, if_neg h2])
      have hb1 : (0 ≤ k) = True := eq_true (by omega)
      have hb2 : (k < 11) = True := eq_true (by omega)
      go_enter Try.func15, Try.ntmps15
      go_wp2_with fail
      refine (names_calls _).mono ?_
      rintro e w1 ⟨rfl, hC, hb⟩
      have HB := Aside0.mk hb
      obtain ⟨ad, e, hx⟩ := Kd.at_string hC k (by omega) (by omega)
      injection e with e
      subst e
      rw [show rdOf ByteArray.empty NM k = nameF k from HN.out.symm, add_plain] at hx
      clear hC hb
      go_wp2
      go_ret
      exact ⟨rfl, HB.out⟩
set_option maxHeartbeats 1600000 in
set_option maxRecDepth 100000 in
theorem name16_calls (k : Int) (w : World) : Calls Try.prog 16 #[.int .i64 k] w fun e w' => e = .returned (.string (nameF k)) ∧ Below w.heap.size w w' := by
  have HC := Aside0.mk (lit_strs w NM _ rfl (by decide))
  have HB := Aside0.mk (below_alloc (Below.refl w.heap.size w) (.cells (NM.map Value.string).toArray 9))
  by_cases h0 : k < 0
  · rw [show nameF k = ⟨#[]⟩ from by unfold nameF; rw [if_pos (by omega)]]
    have hT : (k < 0) = True := eq_true h0
    go_enter Try.func16, Try.ntmps16
    go_wp2
    go_ret
    exact ⟨rfl, below_alloc (Below.refl _ _) _⟩
  · by_cases h2 : 11 ≤ k
    · rw [show nameF k = ⟨#[]⟩ from by unfold nameF; rw [if_neg (by omega), if_pos h2]]
      have hT : (k < 0) = False := eq_false h0
      have hT2 : (11 ≤ k) = True := eq_true h2
      go_enter Try.func16, Try.ntmps16
      go_wp2
      go_ret
      exact ⟨rfl, below_alloc (Below.refl _ _) _⟩
    · have hT : (k < 0) = False := eq_false h0
      have hT2 : (11 ≤ k) = False := eq_false h2
      have hN : nameF k = NM.getD k.toNat ByteArray.empty := by
        unfold nameF
        by_cases h1 : k < 1
        · have : k = 0 := by omega
          subst this
          rfl
        · rw [if_neg h1, if_neg h2]
      have hb1 : (0 ≤ k) = True := eq_true (by omega)
      have hb2 : (k < 11) = True := eq_true (by omega)
      obtain ⟨ad, e, hx⟩ := Kd.at_string HC.out k (by omega) (by show k < ((11 : Nat) : Int); omega)
      injection e with e
      subst e
      rw [show rdOf ByteArray.empty NM k = nameF k from hN.symm, add_plain] at hx
      clear hN
      generalize nameF k = nf at *
      simp only [NM, List.map, List.toArray] at hx
      go_enter Try.func16, Try.ntmps16
      go_wp2
      go_ret
      exact ⟨rfl, below_alloc (Below.refl _ _) _⟩
set_option maxHeartbeats 1600000 in
set_option maxRecDepth 100000 in
theorem kind14_calls (s : ByteArray) (w : World) : Calls Try.prog 14 #[.string s] w fun e w' => e = .returned (.tuple #[.int .i64 (kindF s).1, .bool (kindF s).2]) ∧ Below w.heap.size w w' := by
  obtain ⟨r, hr⟩ : ∃ r, kindF s = r := ⟨_, rfl⟩
  have HR := Aside0.mk hr
  rw [hr]
  clear hr
  go_enter Try.func14, Try.ntmps14
  go_wp2
  go_loopw [4] (fun i wr => ∃ j : Nat, 1 ≤ j ∧ j ≤ 11 ∧ i = .int .i64 j ∧ Aside0 (∀ q, 1 ≤ q → q < j → NM.getD q ByteArray.empty ≠ s) ∧ Aside0 (Below w.heap.size w wr)) (fun i _ => 11 - (intOf i).toNat)
  case atStart => exact ⟨1, by omega, by omega, rfl, ⟨fun q h1 h2 => by omega⟩, ⟨Below.refl _ _⟩⟩
  case round =>
    obtain ⟨j, hj1, hj, rfl, HN, HW⟩ := hrel
    by_cases hlt : j ≤ 10
    · have hT : ((j : Int) ≤ 10) = True := eq_true (by omega)
      have HX := Aside0.mk (show nameF (j : Int) = NM.getD j ByteArray.empty from by unfold nameF; rw [if_neg (by omega), if_neg (by omega)]; rfl)
      by_cases he : nameF (j : Int) = s
      · go_wp2_with (go_at_call 16; refine (name16_calls _ _).mono ?_; rintro e w1 ⟨rfl, hb⟩; have HB := Aside0.mk hb; clear hb; rw [he])
        go_ret2
        have hk : r = ((j : Int), true) := by
          rw [← HR.out]
          unfold kindF
          have : atF NM s = j := by rw [← he, HX.out]; exact NM_at j (by omega)
          rw [this, if_pos ⟨hj1, hlt⟩]
        rw [hk]
        exact ⟨rfl, below_step HW.out HB.out⟩
      · have hef := ba_ne he
        go_wp2_with (go_at_call 16; refine (name16_calls _ _).mono ?_; rintro e w1 ⟨rfl, hb⟩; have HB := Aside0.mk hb; clear hb)
        go_roundw
        case rel => exact ⟨j + 1, by omega, by omega, by go_num, ⟨fun q h1 h2 => by
          by_cases hq : q < j
          · exact HN.out q h1 hq
          · obtain rfl : q = j := by omega
            rw [← HX.out]
            exact he⟩, ⟨below_step HW.out HB.out⟩⟩
        case measure => simp [intOf]; omega
    · have hT : ((j : Int) ≤ 10) = False := eq_false (by omega)
      go_wp2
      go_ret2
      have hk : r = (0, false) := by rw [← HR.out]; exact NM_no s (fun q h1 h2 => HN.out q h1 (by omega))
      rw [hk]
      exact ⟨rfl, HW.out⟩

end Go.Proofs.Ytfadafgnahhmdaa.X

