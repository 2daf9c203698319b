import Derived.Test.YtfadafgnahhmdaaM
namespace Go.Proofs.Ytfadafgnahhmdaa.X
open Go.RowKit Go.Proofs.YtfadafgnahhmdaaW.PrintWords Go.Proofs.YtfadafgnahhmdaaW.PrintLast Go.Proofs.YtfadafgnahhmdaaW.PrintMore Go.Proofs.Ytfadafgnahhmdaa.E
attribute [local go_sem] max2_int min2_int max_two min_two max_three min_three max_four min_four
set_option linter.unusedVariables false
set_option linter.unusedSimpArgs false

/-! ### The rows at hand, one behind the other -/
def Rows1 (W : World) (v : Value) (l : List (ByteArray × Int × Int)) : Prop := ∃ A c, v = .slice A l.length c ∧ l.length ≤ c ∧ Kd.C kV W A l.length l
inductive Rows (W : World) : List Value → List (List (ByteArray × Int × Int)) → Prop where
  | nil : Rows W [] []
  | cons {v : Value} {l : List (ByteArray × Int × Int)} {vs : List Value} {ll : List (List (ByteArray × Int × Int))} : Rows1 W v l → Rows W vs ll → Rows W (v :: vs) (l :: ll)
theorem Rows1.below {W W1 : World} {v : Value} {l : List (ByteArray × Int × Int)} (h : Rows1 W v l) (hb : Below W.heap.size W W1) : Rows1 W1 v l := by
  obtain ⟨A, c, h1, h2, h3⟩ := h
  exact ⟨A, c, h1, h2, Kd.C_below h3 hb⟩
theorem Rows.moved {W W1 : World} {vs : List Value} {ll : List (List (ByteArray × Int × Int))} (h : Rows W vs ll) (hb : Below W.heap.size W W1) : Rows W1 vs ll := by
  induction h with
  | nil => exact .nil
  | cons h1 _ ih => exact .cons (h1.below hb) ih
theorem Rows.snoc {W : World} {vs : List Value} {ll : List (List (ByteArray × Int × Int))} {v : Value} {l : List (ByteArray × Int × Int)} (h : Rows W vs ll) (h1 : Rows1 W v l) : Rows W (vs ++ [v]) (ll ++ [l]) := by
  induction h with
  | nil => exact .cons h1 .nil
  | cons h2 _ ih => exact .cons h2 ih
theorem Rows.len {W : World} {vs : List Value} {ll : List (List (ByteArray × Int × Int))} (h : Rows W vs ll) : vs.length = ll.length := by
  induction h with
  | nil => rfl
  | cons _ _ ih => simp [ih]
theorem Rows.at_ {W : World} {vs : List Value} {ll : List (List (ByteArray × Int × Int))} (h : Rows W vs ll) : ∀ (j : Nat) (l : List (ByteArray × Int × Int)), ll[j]? = some l → ∃ v, vs[j]? = some v ∧ Rows1 W v l := by
  induction h with
  | nil => intro j l hj; simp at hj
  | cons h1 _ ih =>
    intro j l hj
    cases j with
    | zero => simp at hj; subst hj; exact ⟨_, rfl, h1⟩
    | succ j => simp at hj ⊢; exact ih j l hj
theorem cell_lit (W : World) (vs : Array Value) (t : TypeId) (j : Nat) (v : Value) (h : vs[j]? = some v) : (W.alloc (.cells vs t)).cell? ⟨W.heap.size, j, none⟩ = some v := by
  have hb := heap_alloc_new W (.cells vs t)
  simp only [World.cell?, hb]
  exact h
/-- A literal of strings. -/
theorem lit_strs (W : World) (ns : List ByteArray) (vs : Array Value) (hv : vs = (ns.map Value.string).toArray) (hl : ns.length ≤ 100) : Kd.C Kd.string (W.alloc (.cells vs 9)) (some ⟨W.heap.size, 0, none⟩) ns.length ns := by
  refine ⟨rfl, by omega, fun _ => ⟨_, rfl, fun j p hj => ⟨[.string p], rfl, rfl, fun i u hu => ?_⟩⟩⟩
  match i, hu with
  | 0, hu =>
    simp at hu
    subst hu
    rw [show Kd.string.sz = 1 from rfl, Nat.mul_one, Nat.add_zero, add_plain]
    refine cell_lit W vs 9 j _ ?_
    rw [hv]
    simp [hj]
/-- A literal of rows. -/
theorem lit_rows (W : World) (vs : List Value) (va : Array Value) (ll : List (List (ByteArray × Int × Int))) (hv : va = vs.toArray) (h : Rows W vs ll) (hl : ll.length ≤ 100) : Kd.C (Kd.slice 66 kV) (W.alloc (.cells va 27)) (some ⟨W.heap.size, 0, none⟩) ll.length ll := by
  refine ⟨rfl, by omega, fun _ => ⟨_, rfl, fun j p hj => ?_⟩⟩
  obtain ⟨v, hvj, A, c, he, hle, hC⟩ := h.at_ j p hj
  refine ⟨[v], rfl, ⟨A, c, by rw [he], hle, Kd.C_below hC (below_alloc (Below.refl _ _) _)⟩, fun i u hu => ?_⟩
  match i, hu with
  | 0, hu =>
    simp at hu
    subst hu
    rw [show (Kd.slice 66 kV).sz = 1 from rfl, Nat.mul_one, Nat.add_zero, add_plain]
    refine cell_lit W va 27 j _ ?_
    rw [hv]
    simp [hvj]
/-- One more call of 'of'. -/
theorem of_next {w W : World} {vs : List Value} {ll : List (List (ByteArray × Int × Int))} (HR : Aside0 (Rows W vs ll)) (HB : Aside0 (Below w.heap.size w W)) (c k : Int) (ns : List ByteArray) (n : Nat) (va : Array Value) (hn : n = ns.length) (hv : va = (ns.map Value.string).toArray) (hl : ns.length ≤ 100) :
    Calls Try.prog 37 #[.int .i64 c, .int .u8 k, .slice (some ⟨W.heap.size, 0, none⟩) n n] (W.alloc (.cells va 9)) fun e w' => ∃ (A : Option Addr) (cc : Nat), e = .returned (.slice A n cc) ∧ Aside0 (Rows w' (vs ++ [.slice A n cc]) (ll ++ [ofL c k ns])) ∧ Aside0 (Below w.heap.size w w') := by
  subst hn
  refine (of_calls c k _ _ ns.length ns _ (lit_strs W ns va hv hl) hl).mono ?_
  rintro e w' ⟨v, rfl, ho, hb⟩
  have hb2 : Below W.heap.size W w' := below_step (below_alloc (Below.refl _ _) _) hb
  obtain ⟨A, cc, rfl, hle, hC⟩ := Kd.R_reads ho
  have hlen : (ofL c k ns).length = ns.length := by simp [ofL]
  rw [hlen] at hle hC ⊢
  exact ⟨A, cc, rfl, ⟨(HR.out.moved hb2).snoc ⟨A, cc, by rw [hlen], by rw [hlen]; exact hle, by rw [hlen]; exact hC⟩⟩, ⟨below_step HB.out hb2⟩⟩
/-- .. and of 'Concat'. -/
theorem concat_last {w W : World} {vs : List Value} {ll : List (List (ByteArray × Int × Int))} (HR : Aside0 (Rows W vs ll)) (HB : Aside0 (Below w.heap.size w W)) (n : Nat) (va : Array Value) (hn : n = ll.length) (hv : va = vs.toArray) (hl : ll.length ≤ 20) (hs : lens ll ≤ 100) (r : List (ByteArray × Int × Int)) (hr : ll.flatten = r) :
    Calls Try.prog 36 #[.slice (some ⟨W.heap.size, 0, none⟩) n n] (W.alloc (.cells va 27)) fun e w' => ∃ v : Value, e = .returned v ∧ Aside0 (Kd.R kV 66 w' w.heap.size (fun _ => True) v r) ∧ Aside0 (Below w.heap.size w w') := by
  subst hn
  subst hr
  refine (concat_calls _ _ ll.length ll _ (lit_rows W vs va ll hv HR.out (by omega)) hl hs).mono ?_
  rintro e w' ⟨v, rfl, ho, hb⟩
  have hb2 : Below W.heap.size W w' := below_step (below_alloc (Below.refl _ _) _) hb
  exact ⟨_, rfl, ⟨Kd.R_lower ho (Nat.le_trans (below_size HB.out) (by simp))⟩, ⟨below_step HB.out hb2⟩⟩

end Go.Proofs.Ytfadafgnahhmdaa.X

