import Derived.Test.YtfadafgnahhmdaaHA
import Derived.WalkSpells
set_option linter.unusedVariables false
set_option linter.unusedSimpArgs false
namespace Go.Proofs.Ytfadafgnahhmdaa.X
open Go.RowKit Go.Proofs.YtfadafgnahhmdaaW.PrintWords Go.Proofs.YtfadafgnahhmdaaW.PrintLast Go.Proofs.YtfadafgnahhmdaaW.PrintMore Go.Proofs.Ytfadafgnahhmdaa.E
attribute [local go_sem] max2_int min2_int max_two min_two max_three min_three max_four min_four
set_option linter.unusedVariables false
set_option linter.unusedSimpArgs false

/-! ### The rows at hand, one behind the other -/
def Rows1 (W : World) (v : Value) (l : List (ByteArray × Int × Int)) : Prop := ∃ A c, v = .slice A l.length c ∧ l.length ≤ c ∧ Kd.C kV W A l.length l
inductive Rows (W : World) : List Value → List (List (ByteArray × Int × Int)) → Prop where
  | nil : Rows W [] []
  | cons {v : Value} {l : List (ByteArray × Int × Int)} {vs : List Value} {ll : List (List (ByteArray × Int × Int))} : Rows1 W v l → Rows W vs ll → Rows W (v :: vs) (l :: ll)
theorem Rows1.below {W W1 : World} {v : Value} {l : List (ByteArray × Int × Int)} (h : Rows1 W v l) (hb : Below W.heap.size W W1) : Rows1 W1 v l := by
  obtain ⟨A, c, h1, h2, h3⟩ := h
  exact ⟨A, c, h1, h2, Kd.C_below h3 hb⟩
theorem Rows.moved {W W1 : World} {vs : List Value} {ll : List (List (ByteArray × Int × Int))} (h : Rows W vs ll) (hb : Below W.heap.size W W1) : Rows W1 vs ll := by
  induction h with
  | nil => exact .nil
  | cons h1 _ ih => exact .cons (h1.below hb) ih
theorem Rows.snoc {W : World} {vs : List Value} {ll : List (List (ByteArray × Int × Int))} {v : Value} {l : List (ByteArray × Int × Int)} (h : Rows W vs ll) (h1 : Rows1 W v l) : Rows W (vs ++ [v]) (ll ++ [l]) := by
  induction h with
  | nil => exact .cons h1 .nil
  | cons h2 _ ih => exact .cons h2 ih
theorem Rows.len {W : World} {vs : List Value} {ll : List (List (ByteArray × Int × Int))} (h : Rows W vs ll) : vs.length = ll.length := by
  induction h with
  | nil => rfl
  | cons _ _ ih => simp [ih]
theorem Rows.at_ {W : World} {vs : List Value} {ll : List (List (ByteArray × Int × Int))} (h : Rows W vs ll) : ∀ (j : Nat) (l : List (ByteArray × Int × Int)), ll[j]? = some l → ∃ v, vs[j]? = some v ∧ Rows1 W v l := by
  induction h with
  | nil => intro j l hj; simp at hj
  | cons h1 _ ih =>
    intro j l hj
    cases j with
    | zero => simp at hj; subst hj; exact ⟨_, rfl, h1⟩
    | succ j => simp at hj ⊢; exact ih j l hj
theorem cell_lit (W : World) (vs : Array Value) (t : TypeId) (j : Nat) (v : Value) (h : vs[j]? = some v) : (W.alloc (.cells vs t)).cell? ⟨W.heap.size, j, none⟩ = some v := by
  have hb := heap_alloc_new W (.cells vs t)
  simp only [World.cell?, hb]
  exact h
/-- A literal of strings. -/
theorem lit_strs (W : World) (ns : List ByteArray) (vs : Array Value) (hv : vs = (ns.map Value.string).toArray) (hl : ns.length ≤ 100) : Kd.C Kd.string (W.alloc (.cells vs 9)) (some ⟨W.heap.size, 0, none⟩) ns.length ns := by
  refine ⟨rfl, by omega, fun _ => ⟨_, rfl, fun j p hj => ⟨[.string p], rfl, rfl, fun i u hu => ?_⟩⟩⟩
  match i, hu with
  | 0, hu =>
    simp at hu
    subst hu
    rw [show Kd.string.sz = 1 from rfl, Nat.mul_one, Nat.add_zero, add_plain]
    refine cell_lit W vs 9 j _ ?_
    rw [hv]
    simp [hj]
/-- A literal of rows. -/
theorem lit_rows (W : World) (vs : List Value) (va : Array Value) (ll : List (List (ByteArray × Int × Int))) (hv : va = vs.toArray) (h : Rows W vs ll) (hl : ll.length ≤ 100) : Kd.C (Kd.slice 66 kV) (W.alloc (.cells va 27)) (some ⟨W.heap.size, 0, none⟩) ll.length ll := by
  refine ⟨rfl, by omega, fun _ => ⟨_, rfl, fun j p hj => ?_⟩⟩
  obtain ⟨v, hvj, A, c, he, hle, hC⟩ := h.at_ j p hj
  refine ⟨[v], rfl, ⟨A, c, by rw [he], hle, Kd.C_below hC (below_alloc (Below.refl _ _) _)⟩, fun i u hu => ?_⟩
  match i, hu with
  | 0, hu =>
    simp at hu
    subst hu
    rw [show (Kd.slice 66 kV).sz = 1 from rfl, Nat.mul_one, Nat.add_zero, add_plain]
    refine cell_lit W va 27 j _ ?_
    rw [hv]
    simp [hvj]
/-- One more call of 'of'. -/
theorem of_next {w W : World} {vs : List Value} {ll : List (List (ByteArray × Int × Int))} (HR : Aside0 (Rows W vs ll)) (HB : Aside0 (Below w.heap.size w W)) (c k : Int) (ns : List ByteArray) (n : Nat) (va : Array Value) (hn : n = ns.length) (hv : va = (ns.map Value.string).toArray) (hl : ns.length ≤ 100) :
    Calls Try.prog 37 #[.int .i64 c, .int .u8 k, .slice (some ⟨W.heap.size, 0, none⟩) n n] (W.alloc (.cells va 9)) fun e w' => ∃ (A : Option Addr) (cc : Nat), e = .returned (.slice A n cc) ∧ Aside0 (Rows w' (vs ++ [.slice A n cc]) (ll ++ [ofL c k ns])) ∧ Aside0 (Below w.heap.size w w') := by
  subst hn
  refine (of_calls c k _ _ ns.length ns _ (lit_strs W ns va hv hl) hl).mono ?_
  rintro e w' ⟨v, rfl, ho, hb⟩
  have hb2 : Below W.heap.size W w' := below_step (below_alloc (Below.refl _ _) _) hb
  obtain ⟨A, cc, rfl, hle, hC⟩ := Kd.R_reads ho
  have hlen : (ofL c k ns).length = ns.length := by simp [ofL]
  rw [hlen] at hle hC ⊢
  exact ⟨A, cc, rfl, ⟨(HR.out.moved hb2).snoc ⟨A, cc, by rw [hlen], by rw [hlen]; exact hle, by rw [hlen]; exact hC⟩⟩, ⟨below_step HB.out hb2⟩⟩
/-- .. and of 'Concat'. -/
theorem concat_last {w W : World} {vs : List Value} {ll : List (List (ByteArray × Int × Int))} (HR : Aside0 (Rows W vs ll)) (HB : Aside0 (Below w.heap.size w W)) (n : Nat) (va : Array Value) (hn : n = ll.length) (hv : va = vs.toArray) (hl : ll.length ≤ 20) (hs : lens ll ≤ 100) (r : List (ByteArray × Int × Int)) (hr : ll.flatten = r) :
    Calls Try.prog 36 #[.slice (some ⟨W.heap.size, 0, none⟩) n n] (W.alloc (.cells va 27)) fun e w' => ∃ v : Value, e = .returned v ∧ Aside0 (Kd.R kV 66 w' w.heap.size (fun _ => True) v r) ∧ Aside0 (Below w.heap.size w w') := by
  subst hn
  subst hr
  refine (concat_calls _ _ ll.length ll _ (lit_rows W vs va ll hv HR.out (by omega)) hl hs).mono ?_
  rintro e w' ⟨v, rfl, ho, hb⟩
  have hb2 : Below W.heap.size W w' := below_step (below_alloc (Below.refl _ _) _) hb
  exact ⟨_, rfl, ⟨Kd.R_lower ho (Nat.le_trans (below_size HB.out) (by simp))⟩, ⟨below_step HB.out hb2⟩⟩

end Go.Proofs.Ytfadafgnahhmdaa.X
namespace Go.Proofs.Ytfadafgnahhmdaa.X
open Go.RowKit Go.Proofs.YtfadafgnahhmdaaW.PrintWords Go.Proofs.YtfadafgnahhmdaaW.PrintLast Go.Proofs.YtfadafgnahhmdaaW.PrintMore Go.Proofs.Ytfadafgnahhmdaa.E
attribute [local go_sem] max2_int min2_int max_two min_two max_three min_three max_four min_four
set_option linter.unusedVariables false
set_option linter.unusedSimpArgs false

set_option maxHeartbeats 1600000 in
set_option maxRecDepth 100000 in
theorem vars1_calls (w : World) :
    Calls Try.prog 20 #[.int .i64 1] w fun e w' => ∃ v : Value, e = .returned v ∧ Aside0 (Kd.R kV 66 w' w.heap.size (fun _ => True) v (B.vars 1)) ∧ Aside0 (Below w.heap.size w w') := by
  have HR0 := Aside0.mk (Rows.nil (W := w))
  have HB0 := Aside0.mk (Below.refl w.heap.size w)
  go_enter Try.func20, Try.ntmps20
  go_wp2_with fail
  with_reducible refine (of_next HR0 HB0 1 1 [(⟨#[83, 49]⟩ : ByteArray), (⟨#[82]⟩ : ByteArray)] _ _ ?h1 ?h2 ?h3).mono ?_
  case h1 => rfl
  case h2 => rfl
  case h3 => decide
  rintro e w1 ⟨A1, c1, rfl, HR1, HB1⟩
  simp only [List.nil_append, List.cons_append] at HR1
  go_wp2_with fail
  with_reducible refine (of_next HR1 HB1 2 1 [(⟨#[81, 49]⟩ : ByteArray)] _ _ ?h1 ?h2 ?h3).mono ?_
  case h1 => rfl
  case h2 => rfl
  case h3 => decide
  rintro e w2 ⟨A2, c2, rfl, HR2, HB2⟩
  simp only [List.nil_append, List.cons_append] at HR2
  go_wp2_with fail
  with_reducible refine (concat_last HR2 HB2 _ _ ?h1 ?h2 ?h3 ?h4 (B.vars 1) ?h5).mono ?_
  case h1 => rfl
  case h2 => rfl
  case h3 => decide
  case h4 => decide
  case h5 => rfl
  rintro e w' ⟨v, rfl, HR, HB⟩
  go_wp2
  go_ret
  exact ⟨_, rfl, HR, HB⟩
set_option maxHeartbeats 1600000 in
set_option maxRecDepth 100000 in
theorem vars2_calls (w : World) :
    Calls Try.prog 20 #[.int .i64 2] w fun e w' => ∃ v : Value, e = .returned v ∧ Aside0 (Kd.R kV 66 w' w.heap.size (fun _ => True) v (B.vars 2)) ∧ Aside0 (Below w.heap.size w w') := by
  have HR0 := Aside0.mk (Rows.nil (W := w))
  have HB0 := Aside0.mk (Below.refl w.heap.size w)
  go_enter Try.func20, Try.ntmps20
  go_wp2_with fail
  with_reducible refine (of_next HR0 HB0 1 1 [(⟨#[83]⟩ : ByteArray), (⟨#[82, 49]⟩ : ByteArray)] _ _ ?h1 ?h2 ?h3).mono ?_
  case h1 => rfl
  case h2 => rfl
  case h3 => decide
  rintro e w1 ⟨A1, c1, rfl, HR1, HB1⟩
  simp only [List.nil_append, List.cons_append] at HR1
  go_wp2_with fail
  with_reducible refine (of_next HR1 HB1 2 1 [(⟨#[81, 49]⟩ : ByteArray)] _ _ ?h1 ?h2 ?h3).mono ?_
  case h1 => rfl
  case h2 => rfl
  case h3 => decide
  rintro e w2 ⟨A2, c2, rfl, HR2, HB2⟩
  simp only [List.nil_append, List.cons_append] at HR2
  go_wp2_with fail
  with_reducible refine (concat_last HR2 HB2 _ _ ?h1 ?h2 ?h3 ?h4 (B.vars 2) ?h5).mono ?_
  case h1 => rfl
  case h2 => rfl
  case h3 => decide
  case h4 => decide
  case h5 => rfl
  rintro e w' ⟨v, rfl, HR, HB⟩
  go_wp2
  go_ret
  exact ⟨_, rfl, HR, HB⟩
set_option maxHeartbeats 1600000 in
set_option maxRecDepth 100000 in
theorem vars3_calls (w : World) :
    Calls Try.prog 20 #[.int .i64 3] w fun e w' => ∃ v : Value, e = .returned v ∧ Aside0 (Kd.R kV 66 w' w.heap.size (fun _ => True) v (B.vars 3)) ∧ Aside0 (Below w.heap.size w w') := by
  have HR0 := Aside0.mk (Rows.nil (W := w))
  have HB0 := Aside0.mk (Below.refl w.heap.size w)
  go_enter Try.func20, Try.ntmps20
  go_wp2_with fail
  with_reducible refine (of_next HR0 HB0 1 1 [(⟨#[67, 76, 75]⟩ : ByteArray)] _ _ ?h1 ?h2 ?h3).mono ?_
  case h1 => rfl
  case h2 => rfl
  case h3 => decide
  rintro e w1 ⟨A1, c1, rfl, HR1, HB1⟩
  simp only [List.nil_append, List.cons_append] at HR1
  go_wp2_with fail
  with_reducible refine (of_next HR1 HB1 2 1 [(⟨#[81]⟩ : ByteArray)] _ _ ?h1 ?h2 ?h3).mono ?_
  case h1 => rfl
  case h2 => rfl
  case h3 => decide
  rintro e w2 ⟨A2, c2, rfl, HR2, HB2⟩
  simp only [List.nil_append, List.cons_append] at HR2
  go_wp2_with fail
  with_reducible refine (of_next HR2 HB2 4 1 [(⟨#[77]⟩ : ByteArray)] _ _ ?h1 ?h2 ?h3).mono ?_
  case h1 => rfl
  case h2 => rfl
  case h3 => decide
  rintro e w3 ⟨A3, c3, rfl, HR3, HB3⟩
  simp only [List.nil_append, List.cons_append] at HR3
  go_wp2_with fail
  with_reducible refine (concat_last HR3 HB3 _ _ ?h1 ?h2 ?h3 ?h4 (B.vars 3) ?h5).mono ?_
  case h1 => rfl
  case h2 => rfl
  case h3 => decide
  case h4 => decide
  case h5 => rfl
  rintro e w' ⟨v, rfl, HR, HB⟩
  go_wp2
  go_ret
  exact ⟨_, rfl, HR, HB⟩
set_option maxHeartbeats 1600000 in
set_option maxRecDepth 100000 in
theorem vars5_calls (w : World) :
    Calls Try.prog 20 #[.int .i64 5] w fun e w' => ∃ v : Value, e = .returned v ∧ Aside0 (Kd.R kV 66 w' w.heap.size (fun _ => True) v (B.vars 5)) ∧ Aside0 (Below w.heap.size w w') := by
  have HR0 := Aside0.mk (Rows.nil (W := w))
  have HB0 := Aside0.mk (Below.refl w.heap.size w)
  go_enter Try.func20, Try.ntmps20
  go_wp2_with fail
  with_reducible refine (of_next HR0 HB0 1 1 [(⟨#[67, 85]⟩ : ByteArray), (⟨#[82]⟩ : ByteArray)] _ _ ?h1 ?h2 ?h3).mono ?_
  case h1 => rfl
  case h2 => rfl
  case h3 => decide
  rintro e w1 ⟨A1, c1, rfl, HR1, HB1⟩
  simp only [List.nil_append, List.cons_append] at HR1
  go_wp2_with fail
  with_reducible refine (of_next HR1 HB1 1 3 [(⟨#[80, 86]⟩ : ByteArray)] _ _ ?h1 ?h2 ?h3).mono ?_
  case h1 => rfl
  case h2 => rfl
  case h3 => decide
  rintro e w2 ⟨A2, c2, rfl, HR2, HB2⟩
  simp only [List.nil_append, List.cons_append] at HR2
  go_wp2_with fail
  with_reducible refine (of_next HR2 HB2 2 1 [(⟨#[81]⟩ : ByteArray)] _ _ ?h1 ?h2 ?h3).mono ?_
  case h1 => rfl
  case h2 => rfl
  case h3 => decide
  rintro e w3 ⟨A3, c3, rfl, HR3, HB3⟩
  simp only [List.nil_append, List.cons_append] at HR3
  go_wp2_with fail
  with_reducible refine (of_next HR3 HB3 2 3 [(⟨#[67, 86]⟩ : ByteArray)] _ _ ?h1 ?h2 ?h3).mono ?_
  case h1 => rfl
  case h2 => rfl
  case h3 => decide
  rintro e w4 ⟨A4, c4, rfl, HR4, HB4⟩
  simp only [List.nil_append, List.cons_append] at HR4
  go_wp2_with fail
  with_reducible refine (of_next HR4 HB4 4 1 [(⟨#[77]⟩ : ByteArray)] _ _ ?h1 ?h2 ?h3).mono ?_
  case h1 => rfl
  case h2 => rfl
  case h3 => decide
  rintro e w5 ⟨A5, c5, rfl, HR5, HB5⟩
  simp only [List.nil_append, List.cons_append] at HR5
  go_wp2_with fail
  with_reducible refine (concat_last HR5 HB5 _ _ ?h1 ?h2 ?h3 ?h4 (B.vars 5) ?h5).mono ?_
  case h1 => rfl
  case h2 => rfl
  case h3 => decide
  case h4 => decide
  case h5 => rfl
  rintro e w' ⟨v, rfl, HR, HB⟩
  go_wp2
  go_ret
  exact ⟨_, rfl, HR, HB⟩
set_option maxHeartbeats 1600000 in
set_option maxRecDepth 100000 in
theorem vars6_calls (w : World) :
    Calls Try.prog 20 #[.int .i64 6] w fun e w' => ∃ v : Value, e = .returned v ∧ Aside0 (Kd.R kV 66 w' w.heap.size (fun _ => True) v (B.vars 6)) ∧ Aside0 (Below w.heap.size w w') := by
  have HR0 := Aside0.mk (Rows.nil (W := w))
  have HB0 := Aside0.mk (Below.refl w.heap.size w)
  go_enter Try.func20, Try.ntmps20
  go_wp2_with fail
  with_reducible refine (of_next HR0 HB0 1 1 [(⟨#[67, 68]⟩ : ByteArray), (⟨#[76, 68]⟩ : ByteArray)] _ _ ?h1 ?h2 ?h3).mono ?_
  case h1 => rfl
  case h2 => rfl
  case h3 => decide
  rintro e w1 ⟨A1, c1, rfl, HR1, HB1⟩
  simp only [List.nil_append, List.cons_append] at HR1
  go_wp2_with fail
  with_reducible refine (of_next HR1 HB1 1 3 [(⟨#[80, 86]⟩ : ByteArray)] _ _ ?h1 ?h2 ?h3).mono ?_
  case h1 => rfl
  case h2 => rfl
  case h3 => decide
  rintro e w2 ⟨A2, c2, rfl, HR2, HB2⟩
  simp only [List.nil_append, List.cons_append] at HR2
  go_wp2_with fail
  with_reducible refine (of_next HR2 HB2 2 1 [(⟨#[81]⟩ : ByteArray)] _ _ ?h1 ?h2 ?h3).mono ?_
  case h1 => rfl
  case h2 => rfl
  case h3 => decide
  rintro e w3 ⟨A3, c3, rfl, HR3, HB3⟩
  simp only [List.nil_append, List.cons_append] at HR3
  go_wp2_with fail
  with_reducible refine (of_next HR3 HB3 2 3 [(⟨#[67, 86]⟩ : ByteArray)] _ _ ?h1 ?h2 ?h3).mono ?_
  case h1 => rfl
  case h2 => rfl
  case h3 => decide
  rintro e w4 ⟨A4, c4, rfl, HR4, HB4⟩
  simp only [List.nil_append, List.cons_append] at HR4
  go_wp2_with fail
  with_reducible refine (of_next HR4 HB4 4 1 [(⟨#[77]⟩ : ByteArray)] _ _ ?h1 ?h2 ?h3).mono ?_
  case h1 => rfl
  case h2 => rfl
  case h3 => decide
  rintro e w5 ⟨A5, c5, rfl, HR5, HB5⟩
  simp only [List.nil_append, List.cons_append] at HR5
  go_wp2_with fail
  with_reducible refine (concat_last HR5 HB5 _ _ ?h1 ?h2 ?h3 ?h4 (B.vars 6) ?h5).mono ?_
  case h1 => rfl
  case h2 => rfl
  case h3 => decide
  case h4 => decide
  case h5 => rfl
  rintro e w' ⟨v, rfl, HR, HB⟩
  go_wp2
  go_ret
  exact ⟨_, rfl, HR, HB⟩
set_option maxHeartbeats 1600000 in
set_option maxRecDepth 100000 in
theorem vars7_calls (w : World) :
    Calls Try.prog 20 #[.int .i64 7] w fun e w' => ∃ v : Value, e = .returned v ∧ Aside0 (Kd.R kV 66 w' w.heap.size (fun _ => True) v (B.vars 7)) ∧ Aside0 (Below w.heap.size w w') := by
  have HR0 := Aside0.mk (Rows.nil (W := w))
  have HB0 := Aside0.mk (Below.refl w.heap.size w)
  go_enter Try.func20, Try.ntmps20
  go_wp2_with fail
  with_reducible refine (of_next HR0 HB0 1 1 [(⟨#[67, 85]⟩ : ByteArray), (⟨#[67, 68]⟩ : ByteArray), (⟨#[82]⟩ : ByteArray), (⟨#[76, 68]⟩ : ByteArray)] _ _ ?h1 ?h2 ?h3).mono ?_
  case h1 => rfl
  case h2 => rfl
  case h3 => decide
  rintro e w1 ⟨A1, c1, rfl, HR1, HB1⟩
  simp only [List.nil_append, List.cons_append] at HR1
  go_wp2_with fail
  with_reducible refine (of_next HR1 HB1 1 3 [(⟨#[80, 86]⟩ : ByteArray)] _ _ ?h1 ?h2 ?h3).mono ?_
  case h1 => rfl
  case h2 => rfl
  case h3 => decide
  rintro e w2 ⟨A2, c2, rfl, HR2, HB2⟩
  simp only [List.nil_append, List.cons_append] at HR2
  go_wp2_with fail
  with_reducible refine (of_next HR2 HB2 2 1 [(⟨#[81, 85]⟩ : ByteArray), (⟨#[81, 68]⟩ : ByteArray)] _ _ ?h1 ?h2 ?h3).mono ?_
  case h1 => rfl
  case h2 => rfl
  case h3 => decide
  rintro e w3 ⟨A3, c3, rfl, HR3, HB3⟩
  simp only [List.nil_append, List.cons_append] at HR3
  go_wp2_with fail
  with_reducible refine (of_next HR3 HB3 2 3 [(⟨#[67, 86]⟩ : ByteArray)] _ _ ?h1 ?h2 ?h3).mono ?_
  case h1 => rfl
  case h2 => rfl
  case h3 => decide
  rintro e w4 ⟨A4, c4, rfl, HR4, HB4⟩
  simp only [List.nil_append, List.cons_append] at HR4
  go_wp2_with fail
  with_reducible refine (of_next HR4 HB4 4 1 [(⟨#[77]⟩ : ByteArray), (⟨#[78]⟩ : ByteArray)] _ _ ?h1 ?h2 ?h3).mono ?_
  case h1 => rfl
  case h2 => rfl
  case h3 => decide
  rintro e w5 ⟨A5, c5, rfl, HR5, HB5⟩
  simp only [List.nil_append, List.cons_append] at HR5
  go_wp2_with fail
  with_reducible refine (concat_last HR5 HB5 _ _ ?h1 ?h2 ?h3 ?h4 (B.vars 7) ?h5).mono ?_
  case h1 => rfl
  case h2 => rfl
  case h3 => decide
  case h4 => decide
  case h5 => rfl
  rintro e w' ⟨v, rfl, HR, HB⟩
  go_wp2
  go_ret
  exact ⟨_, rfl, HR, HB⟩
set_option maxHeartbeats 1600000 in
set_option maxRecDepth 100000 in
theorem vars8_calls (w : World) :
    Calls Try.prog 20 #[.int .i64 8] w fun e w' => ∃ v : Value, e = .returned v ∧ Aside0 (Kd.R kV 66 w' w.heap.size (fun _ => True) v (B.vars 8)) ∧ Aside0 (Below w.heap.size w w') := by
  have HR0 := Aside0.mk (Rows.nil (W := w))
  have HB0 := Aside0.mk (Below.refl w.heap.size w)
  go_enter Try.func20, Try.ntmps20
  go_wp2_with fail
  with_reducible refine (of_next HR0 HB0 1 1 [(⟨#[73, 78]⟩ : ByteArray)] _ _ ?h1 ?h2 ?h3).mono ?_
  case h1 => rfl
  case h2 => rfl
  case h3 => decide
  rintro e w1 ⟨A1, c1, rfl, HR1, HB1⟩
  simp only [List.nil_append, List.cons_append] at HR1
  go_wp2_with fail
  with_reducible refine (of_next HR1 HB1 1 14 [(⟨#[80, 84]⟩ : ByteArray)] _ _ ?h1 ?h2 ?h3).mono ?_
  case h1 => rfl
  case h2 => rfl
  case h3 => decide
  rintro e w2 ⟨A2, c2, rfl, HR2, HB2⟩
  simp only [List.nil_append, List.cons_append] at HR2
  go_wp2_with fail
  with_reducible refine (of_next HR2 HB2 2 1 [(⟨#[81]⟩ : ByteArray)] _ _ ?h1 ?h2 ?h3).mono ?_
  case h1 => rfl
  case h2 => rfl
  case h3 => decide
  rintro e w3 ⟨A3, c3, rfl, HR3, HB3⟩
  simp only [List.nil_append, List.cons_append] at HR3
  go_wp2_with fail
  with_reducible refine (of_next HR3 HB3 2 14 [(⟨#[69, 84]⟩ : ByteArray)] _ _ ?h1 ?h2 ?h3).mono ?_
  case h1 => rfl
  case h2 => rfl
  case h3 => decide
  rintro e w4 ⟨A4, c4, rfl, HR4, HB4⟩
  simp only [List.nil_append, List.cons_append] at HR4
  go_wp2_with fail
  with_reducible refine (of_next HR4 HB4 4 1 [(⟨#[77]⟩ : ByteArray)] _ _ ?h1 ?h2 ?h3).mono ?_
  case h1 => rfl
  case h2 => rfl
  case h3 => decide
  rintro e w5 ⟨A5, c5, rfl, HR5, HB5⟩
  simp only [List.nil_append, List.cons_append] at HR5
  go_wp2_with fail
  with_reducible refine (of_next HR5 HB5 4 14 [(⟨#[83]⟩ : ByteArray)] _ _ ?h1 ?h2 ?h3).mono ?_
  case h1 => rfl
  case h2 => rfl
  case h3 => decide
  rintro e w6 ⟨A6, c6, rfl, HR6, HB6⟩
  simp only [List.nil_append, List.cons_append] at HR6
  go_wp2_with fail
  with_reducible refine (concat_last HR6 HB6 _ _ ?h1 ?h2 ?h3 ?h4 (B.vars 8) ?h5).mono ?_
  case h1 => rfl
  case h2 => rfl
  case h3 => decide
  case h4 => decide
  case h5 => rfl
  rintro e w' ⟨v, rfl, HR, HB⟩
  go_wp2
  go_ret
  exact ⟨_, rfl, HR, HB⟩
set_option maxHeartbeats 1600000 in
set_option maxRecDepth 100000 in
theorem vars9_calls (w : World) :
    Calls Try.prog 20 #[.int .i64 9] w fun e w' => ∃ v : Value, e = .returned v ∧ Aside0 (Kd.R kV 66 w' w.heap.size (fun _ => True) v (B.vars 9)) ∧ Aside0 (Below w.heap.size w w') := by
  have HR0 := Aside0.mk (Rows.nil (W := w))
  have HB0 := Aside0.mk (Below.refl w.heap.size w)
  go_enter Try.func20, Try.ntmps20
  go_wp2_with fail
  with_reducible refine (of_next HR0 HB0 1 1 [(⟨#[73, 78]⟩ : ByteArray)] _ _ ?h1 ?h2 ?h3).mono ?_
  case h1 => rfl
  case h2 => rfl
  case h3 => decide
  rintro e w1 ⟨A1, c1, rfl, HR1, HB1⟩
  simp only [List.nil_append, List.cons_append] at HR1
  go_wp2_with fail
  with_reducible refine (of_next HR1 HB1 1 14 [(⟨#[80, 84]⟩ : ByteArray)] _ _ ?h1 ?h2 ?h3).mono ?_
  case h1 => rfl
  case h2 => rfl
  case h3 => decide
  rintro e w2 ⟨A2, c2, rfl, HR2, HB2⟩
  simp only [List.nil_append, List.cons_append] at HR2
  go_wp2_with fail
  with_reducible refine (of_next HR2 HB2 2 1 [(⟨#[81]⟩ : ByteArray)] _ _ ?h1 ?h2 ?h3).mono ?_
  case h1 => rfl
  case h2 => rfl
  case h3 => decide
  rintro e w3 ⟨A3, c3, rfl, HR3, HB3⟩
  simp only [List.nil_append, List.cons_append] at HR3
  go_wp2_with fail
  with_reducible refine (of_next HR3 HB3 2 14 [(⟨#[69, 84]⟩ : ByteArray)] _ _ ?h1 ?h2 ?h3).mono ?_
  case h1 => rfl
  case h2 => rfl
  case h3 => decide
  rintro e w4 ⟨A4, c4, rfl, HR4, HB4⟩
  simp only [List.nil_append, List.cons_append] at HR4
  go_wp2_with fail
  with_reducible refine (of_next HR4 HB4 4 1 [(⟨#[77]⟩ : ByteArray)] _ _ ?h1 ?h2 ?h3).mono ?_
  case h1 => rfl
  case h2 => rfl
  case h3 => decide
  rintro e w5 ⟨A5, c5, rfl, HR5, HB5⟩
  simp only [List.nil_append, List.cons_append] at HR5
  go_wp2_with fail
  with_reducible refine (of_next HR5 HB5 4 14 [(⟨#[83]⟩ : ByteArray)] _ _ ?h1 ?h2 ?h3).mono ?_
  case h1 => rfl
  case h2 => rfl
  case h3 => decide
  rintro e w6 ⟨A6, c6, rfl, HR6, HB6⟩
  simp only [List.nil_append, List.cons_append] at HR6
  go_wp2_with fail
  with_reducible refine (concat_last HR6 HB6 _ _ ?h1 ?h2 ?h3 ?h4 (B.vars 9) ?h5).mono ?_
  case h1 => rfl
  case h2 => rfl
  case h3 => decide
  case h4 => decide
  case h5 => rfl
  rintro e w' ⟨v, rfl, HR, HB⟩
  go_wp2
  go_ret
  exact ⟨_, rfl, HR, HB⟩
set_option maxHeartbeats 1600000 in
set_option maxRecDepth 100000 in
theorem vars10_calls (w : World) :
    Calls Try.prog 20 #[.int .i64 10] w fun e w' => ∃ v : Value, e = .returned v ∧ Aside0 (Kd.R kV 66 w' w.heap.size (fun _ => True) v (B.vars 10)) ∧ Aside0 (Below w.heap.size w w') := by
  have HR0 := Aside0.mk (Rows.nil (W := w))
  have HB0 := Aside0.mk (Below.refl w.heap.size w)
  go_enter Try.func20, Try.ntmps20
  go_wp2_with fail
  with_reducible refine (of_next HR0 HB0 1 1 [(⟨#[73, 78]⟩ : ByteArray)] _ _ ?h1 ?h2 ?h3).mono ?_
  case h1 => rfl
  case h2 => rfl
  case h3 => decide
  rintro e w1 ⟨A1, c1, rfl, HR1, HB1⟩
  simp only [List.nil_append, List.cons_append] at HR1
  go_wp2_with fail
  with_reducible refine (of_next HR1 HB1 1 14 [(⟨#[80, 84]⟩ : ByteArray)] _ _ ?h1 ?h2 ?h3).mono ?_
  case h1 => rfl
  case h2 => rfl
  case h3 => decide
  rintro e w2 ⟨A2, c2, rfl, HR2, HB2⟩
  simp only [List.nil_append, List.cons_append] at HR2
  go_wp2_with fail
  with_reducible refine (of_next HR2 HB2 2 1 [(⟨#[81]⟩ : ByteArray)] _ _ ?h1 ?h2 ?h3).mono ?_
  case h1 => rfl
  case h2 => rfl
  case h3 => decide
  rintro e w3 ⟨A3, c3, rfl, HR3, HB3⟩
  simp only [List.nil_append, List.cons_append] at HR3
  go_wp2_with fail
  with_reducible refine (of_next HR3 HB3 2 14 [(⟨#[69, 84]⟩ : ByteArray)] _ _ ?h1 ?h2 ?h3).mono ?_
  case h1 => rfl
  case h2 => rfl
  case h3 => decide
  rintro e w4 ⟨A4, c4, rfl, HR4, HB4⟩
  simp only [List.nil_append, List.cons_append] at HR4
  go_wp2_with fail
  with_reducible refine (of_next HR4 HB4 4 1 [(⟨#[77]⟩ : ByteArray)] _ _ ?h1 ?h2 ?h3).mono ?_
  case h1 => rfl
  case h2 => rfl
  case h3 => decide
  rintro e w5 ⟨A5, c5, rfl, HR5, HB5⟩
  simp only [List.nil_append, List.cons_append] at HR5
  go_wp2_with fail
  with_reducible refine (of_next HR5 HB5 4 14 [(⟨#[83]⟩ : ByteArray)] _ _ ?h1 ?h2 ?h3).mono ?_
  case h1 => rfl
  case h2 => rfl
  case h3 => decide
  rintro e w6 ⟨A6, c6, rfl, HR6, HB6⟩
  simp only [List.nil_append, List.cons_append] at HR6
  go_wp2_with fail
  with_reducible refine (concat_last HR6 HB6 _ _ ?h1 ?h2 ?h3 ?h4 (B.vars 10) ?h5).mono ?_
  case h1 => rfl
  case h2 => rfl
  case h3 => decide
  case h4 => decide
  case h5 => rfl
  rintro e w' ⟨v, rfl, HR, HB⟩
  go_wp2
  go_ret
  exact ⟨_, rfl, HR, HB⟩

end Go.Proofs.Ytfadafgnahhmdaa.X
namespace Go.Proofs.Ytfadafgnahhmdaa.X
open Go.RowKit Go.Proofs.YtfadafgnahhmdaaW.PrintWords Go.Proofs.YtfadafgnahhmdaaW.PrintLast Go.Proofs.YtfadafgnahhmdaaW.PrintMore Go.Proofs.Ytfadafgnahhmdaa.E
attribute [local go_sem] max2_int min2_int max_two min_two max_three min_three max_four min_four
set_option linter.unusedVariables false
set_option linter.unusedSimpArgs false

set_option maxHeartbeats 800000 in
set_option maxRecDepth 100000 in
theorem bool_calls (w : World) :
    Calls Try.prog 38 #[.bool true] w fun e w' => e = .returned (.agg #[.int .u8 1, .int .u64 1, .string ⟨#[]⟩]) ∧ Below w.heap.size w w' := by
  have hu34 := Try.underlying34
  go_enter Try.func38, Try.ntmps38
  go_wp2
  exact bodyPost_ret (v := .agg #[.int .u8 1, .int .u64 1, .string ⟨#[]⟩]) (by simp [results, Try.results38, go_sem]) rfl ⟨rfl, below_alloc (below_alloc (Below.refl _ _) _) _⟩
set_option maxHeartbeats 800000 in
set_option maxRecDepth 100000 in
theorem whole_calls (n : Int) (w : World) :
    Calls Try.prog 30 #[.int .i64 n] w fun e w' => e = .returned (.agg #[.int .u8 3, .int .u64 (IntKind.u64.wrap n), .string ⟨#[]⟩]) ∧ Below w.heap.size w w' := by
  have hu34 := Try.underlying34
  go_enter Try.func30, Try.ntmps30
  go_wp2
  exact bodyPost_ret (v := .agg #[.int .u8 3, .int .u64 (IntKind.u64.wrap n), .string ⟨#[]⟩]) (by simp [results, Try.results30, go_sem]) rfl ⟨rfl, below_alloc (Below.refl _ _) _⟩
set_option maxHeartbeats 800000 in
set_option maxRecDepth 100000 in
theorem spanV_calls (n : Int) (w : World) :
    Calls Try.prog 31 #[.int .i64 n] w fun e w' => e = .returned (.agg #[.int .u8 14, .int .u64 (IntKind.u64.wrap n), .string ⟨#[]⟩]) ∧ Below w.heap.size w w' := by
  have hu34 := Try.underlying34
  go_enter Try.func31, Try.ntmps31
  go_wp2
  exact bodyPost_ret (v := .agg #[.int .u8 14, .int .u64 (IntKind.u64.wrap n), .string ⟨#[]⟩]) (by simp [results, Try.results31, go_sem]) rfl ⟨rfl, below_alloc (Below.refl _ _) _⟩
set_option maxHeartbeats 800000 in
set_option maxRecDepth 100000 in
theorem bit_calls (b : Bool) (w : World) :
    Calls Try.prog 25 #[.bool b] w fun e w' => e = .returned (.agg #[.int .u8 1, .int .u64 (if b then 1 else 0), .string ⟨#[]⟩]) ∧ Below w.heap.size w w' := by
  have hu34 := Try.underlying34
  cases b
  · go_enter Try.func25, Try.ntmps25
    go_wp2
    exact bodyPost_ret (v := .agg #[.int .u8 1, .int .u64 0, .string ⟨#[]⟩]) (by simp [results, Try.results25, go_sem]) rfl ⟨rfl, below_alloc (below_alloc (Below.refl _ _) _) _⟩
  · go_enter Try.func25, Try.ntmps25
    go_wp2
    exact bodyPost_ret (v := .agg #[.int .u8 1, .int .u64 1, .string ⟨#[]⟩]) (by simp [results, Try.results25, go_sem]) rfl ⟨rfl, below_alloc (below_alloc (Below.refl _ _) _) _⟩

end Go.Proofs.Ytfadafgnahhmdaa.X
namespace Go.Proofs.Ytfadafgnahhmdaa.X
open Go.RowKit Go.Proofs.YtfadafgnahhmdaaW.PrintWords Go.Proofs.YtfadafgnahhmdaaW.PrintLast Go.Proofs.YtfadafgnahhmdaaW.PrintMore Go.Proofs.Ytfadafgnahhmdaa.E
attribute [local go_sem] max2_int min2_int max_two min_two max_three min_three max_four min_four
set_option linter.unusedVariables false
set_option linter.unusedSimpArgs false

/-! ### What is told of the variables: name, class, kind, and whether one begins TRUE -/
def ucells (x : ByteArray × Int × Int × Bool) (sv : Value) : List Value :=
  [.string x.1, .int .i64 0, .int .i64 x.2.1, .int .u8 x.2.2.1, .bool false, .int .i64 0, .int .i64 0, .int .i64 0, .bool false, .int .i64 0, .int .i64 0, .string ⟨#[]⟩, sv, .bool false, .bool false, .string ⟨#[]⟩]
def KU (w : World) (x : ByteArray × Int × Int × Bool) (cs : List Value) : Prop :=
  ∃ sv, cs = ucells x sv ∧ ((x.2.2.2 = false ∧ sv = .slice none 0 0) ∨ (x.2.2.2 = true ∧ ∃ A c, sv = .slice A 1 c ∧ 1 ≤ c ∧ Kd.C k34 w A 1 [⟨1, 1, ⟨#[]⟩⟩]))
def kU : Kd (ByteArray × Int × Int × Bool) where
  sz := 16
  E := []
  K := KU
  M := fun _ _ _ _ _ => False
  K_len := by rintro w x cs ⟨sv, rfl, _⟩; rfl
  K_one := by
    rintro w x cs ⟨sv, rfl, h⟩ u hu
    have hs : sv.oneCell' = true := by
      rcases h with ⟨_, rfl⟩ | ⟨_, A, c, rfl, _⟩ <;> rfl
    simp only [ucells, List.mem_cons, List.not_mem_nil, or_false] at hu
    rcases hu with rfl | rfl | rfl | rfl | rfl | rfl | rfl | rfl | rfl | rfl | rfl | rfl | rfl | rfl | rfl | rfl <;> first | rfl | exact hs
  K_below := by
    rintro w w1 x cs hb ⟨sv, rfl, h⟩
    refine ⟨sv, rfl, ?_⟩
    rcases h with h | ⟨h, A, c, h1, h2, h3⟩
    · exact .inl h
    · exact .inr ⟨h, A, c, h1, h2, Kd.C_below h3 hb⟩
  K_of_M := fun h => h.elim
  M_mono := fun _ h => h
  M_bound := fun h => h.elim
  M_move := fun _ h => h
  M_lower := fun _ h => h
theorem kU_of_kV {w : World} {A : Option Addr} {n : Nat} {xs : List (ByteArray × Int × Int)} (h : Kd.C kV w A n xs) : Kd.C kU w A n (xs.map fun x => (x.1, x.2.1, x.2.2, false)) := by
  refine ⟨by simpa using h.1, h.2.1, fun hn => ?_⟩
  obtain ⟨ad, e, hc⟩ := h.2.2 hn
  refine ⟨ad, e, fun j p hj => ?_⟩
  rw [List.getElem?_map] at hj
  obtain ⟨q, hq, rfl⟩ := Option.map_eq_some_iff.1 hj
  obtain ⟨c, hl, hK, hcell⟩ := hc j q hq
  refine ⟨c, hl, ⟨.slice none 0 0, ?_, .inl ⟨rfl, rfl⟩⟩, hcell⟩
  exact hK
theorem own_len3 {w : World} {base : Nat} {v : Value} {xs : List (ByteArray × Int × Int)} (h : Kd.R kV 66 w base (fun _ => True) v xs) : ∃ A c, v = .slice A xs.length c ∧ xs.length ≤ c ∧ Kd.C kU w A xs.length (xs.map fun x => (x.1, x.2.1, x.2.2, false)) := by
  obtain ⟨A, c, h1, h2, h3⟩ := Kd.R_reads h
  exact ⟨A, c, h1, h2, kU_of_kV h3⟩
/-- A literal of one value. -/
theorem lit_one (W : World) (x : S34) : Kd.C k34 (W.alloc (.cells #[.int .u8 x.f0, .int .u64 x.f1, .string x.f2] 34)) (some ⟨W.heap.size, 0, none⟩) 1 [x] := by
  refine ⟨rfl, by omega, fun _ => ⟨_, rfl, fun j p hj => ?_⟩⟩
  have hj0 : j = 0 := by
    have := (List.getElem?_eq_some_iff.1 hj).1
    simp at this
    exact this
  subst hj0
  simp at hj
  subst hj
  refine ⟨_, rfl, k34_mk _ x, fun i u hu => ?_⟩
  rw [Nat.zero_mul, Nat.zero_add, add_plain]
  refine cell_lit W _ 34 i u ?_
  simpa using hu
/-- M of F_TRIG begins TRUE: behind the store. -/
theorem fall_row {w W : World} {g cap : Nat} (h : Kd.R kV 66 W w.heap.size (fun _ => True) (.slice (some ⟨g, 0, none⟩) 3 cap) (B.vars 4)) (hg : g < W.heap.size) (ad : Addr) (had : ad.block ≠ g) (hC : Kd.C k34 W (some ad) 1 [⟨1, 1, ⟨#[]⟩⟩]) :
    Kd.C kU (W.setCell ⟨g, 44, none⟩ (.slice (some ad) 1 1)) (some ⟨g, 0, none⟩) 3 [((⟨#[67, 76, 75]⟩ : ByteArray), 1, 1, false), ((⟨#[81]⟩ : ByteArray), 2, 1, false), ((⟨#[77]⟩ : ByteArray), 4, 1, true)] := by
  obtain ⟨_, _, hR⟩ := Kd.R_reads' h
  have hR3 : Kd.C kV W (some ⟨g, 0, none⟩) 3 (B.vars 4) := hR
  have hC2 : Kd.C k34 (W.setCell ⟨g, 44, none⟩ (.slice (some ad) 1 1)) (some ad) 1 [⟨1, 1, ⟨#[]⟩⟩] := by
    refine ⟨rfl, by omega, fun _ => ⟨ad, rfl, fun j p hj => ?_⟩⟩
    obtain ⟨ad', e, hc⟩ := hC.2.2 (by omega)
    injection e with e
    subst e
    obtain ⟨c, hl, hK, hcell⟩ := hc j p hj
    exact ⟨c, hl, k34_open hK ▸ k34_mk _ _, fun i u hu => (cell_far (p := ⟨g, 44, none⟩) (by rw [add_block]; exact had) _).trans (hcell i u hu)⟩
  obtain ⟨ad', e, hc⟩ := hR3.2.2 (by omega)
  injection e with e
  subst e
  have hcells : ∀ (j : Nat) (p : ByteArray × Int × Int), (B.vars 4)[j]? = some p → ∀ i u, (vcells p)[i]? = some u → W.cell? ⟨g, j * 16 + i, none⟩ = some u := by
    intro j p hj i u hu
    obtain ⟨c, hl, hK, hcell⟩ := hc j p hj
    have hK' : c = vcells p := hK
    subst hK'
    have := hcell i u hu
    rwa [add_plain] at this
  have hset : ∀ o u, o ≠ 44 → W.cell? ⟨g, o, none⟩ = some u → (W.setCell ⟨g, 44, none⟩ (.slice (some ad) 1 1)).cell? ⟨g, o, none⟩ = some u := by
    intro o u ho hu
    exact (World.cell?_setCell_other _ _ _ _ (by intro he; injection he with _ he; exact ho he.symm)).trans hu
  refine ⟨rfl, by omega, fun _ => ⟨_, rfl, fun j p hj => ?_⟩⟩
  have hj3 : j < 3 := by have := (List.getElem?_eq_some_iff.1 hj).1; simpa using this
  match j, hj3, hj with
  | 0, _, hj =>
    simp at hj
    subst hj
    refine ⟨_, rfl, ⟨.slice none 0 0, rfl, .inl ⟨rfl, rfl⟩⟩, fun i u hu => ?_⟩
    rw [add_plain]
    have hi : i < 16 := by have := (List.getElem?_eq_some_iff.1 hu).1; simpa [ucells] using this
    exact hset _ _ (show 0 * 16 + i ≠ 44 by omega) (hcells 0 _ rfl i u hu)
  | 1, _, hj =>
    simp at hj
    subst hj
    refine ⟨_, rfl, ⟨.slice none 0 0, rfl, .inl ⟨rfl, rfl⟩⟩, fun i u hu => ?_⟩
    rw [add_plain]
    have hi : i < 16 := by have := (List.getElem?_eq_some_iff.1 hu).1; simpa [ucells] using this
    exact hset _ _ (show 1 * 16 + i ≠ 44 by omega) (hcells 1 _ rfl i u hu)
  | 2, _, hj =>
    simp at hj
    subst hj
    refine ⟨_, rfl, ⟨.slice (some ad) 1 1, rfl, .inr ⟨rfl, some ad, 1, rfl, Nat.le_refl _, hC2⟩⟩, fun i u hu => ?_⟩
    rw [add_plain]
    have hi : i < 16 := by have := (List.getElem?_eq_some_iff.1 hu).1; simpa [ucells] using this
    by_cases h12 : i = 12
    · subst h12
      have hu' : u = .slice (some ad) 1 1 := by simpa [ucells] using hu.symm
      subst hu'
      exact World.cell?_setCell_same _ _ _ (hcells 2 _ rfl 12 (.slice none 0 0) rfl)
    · refine hset _ _ (show 2 * 16 + i ≠ 44 by omega) (hcells 2 _ rfl i u ?_)
      rw [← hu]
      have hlist : ∀ k, k < 16 → k ≠ 12 → (vcells ((⟨#[77]⟩ : ByteArray), 4, 1))[k]? = (ucells ((⟨#[77]⟩ : ByteArray), 4, 1, true) (.slice (some ad) 1 1))[k]? := by
        intro k hk hk12
        match k, hk, hk12 with
        | 0, _, _ | 1, _, _ | 2, _, _ | 3, _, _ | 4, _, _ | 5, _, _ | 6, _, _ | 7, _, _ | 8, _, _ | 9, _, _ | 10, _, _ | 11, _, _ | 13, _, _ | 14, _, _ | 15, _, _ => rfl
        | k + 16, hk, _ => omega
      exact hlist i hi h12

end Go.Proofs.Ytfadafgnahhmdaa.X
namespace Go.Proofs.Ytfadafgnahhmdaa.X
open Go.RowKit Go.Proofs.YtfadafgnahhmdaaW.PrintWords Go.Proofs.YtfadafgnahhmdaaW.PrintLast Go.Proofs.YtfadafgnahhmdaaW.PrintMore Go.Proofs.Ytfadafgnahhmdaa.E
attribute [local go_sem] max2_int min2_int max_two min_two max_three min_three max_four min_four
set_option linter.unusedVariables false
set_option linter.unusedSimpArgs false

set_option maxHeartbeats 1600000 in
set_option maxRecDepth 100000 in
theorem vars4_calls (w : World) :
    Calls Try.prog 20 #[.int .i64 4] w fun e w' => ∃ (A : Option Addr) (c : Nat), e = .returned (.slice A 3 c) ∧ 3 ≤ c ∧ Kd.C kU w' A 3 [((⟨#[67, 76, 75]⟩ : ByteArray), 1, 1, false), ((⟨#[81]⟩ : ByteArray), 2, 1, false), ((⟨#[77]⟩ : ByteArray), 4, 1, true)] ∧ Below w.heap.size w w' := by
  have HR0 := Aside0.mk (Rows.nil (W := w))
  have HB0 := Aside0.mk (Below.refl w.heap.size w)
  go_enter Try.func20, Try.ntmps20
  go_wp2_with fail
  with_reducible refine (of_next HR0 HB0 1 1 [(⟨#[67, 76, 75]⟩ : ByteArray)] _ _ ?h1 ?h2 ?h3).mono ?_
  case h1 => rfl
  case h2 => rfl
  case h3 => decide
  rintro e w1 ⟨A1, c1, rfl, HR1, HB1⟩
  simp only [List.nil_append, List.cons_append] at HR1
  go_wp2_with fail
  with_reducible refine (of_next HR1 HB1 2 1 [(⟨#[81]⟩ : ByteArray)] _ _ ?h1 ?h2 ?h3).mono ?_
  case h1 => rfl
  case h2 => rfl
  case h3 => decide
  rintro e w2 ⟨A2, c2, rfl, HR2, HB2⟩
  simp only [List.nil_append, List.cons_append] at HR2
  go_wp2_with fail
  with_reducible refine (of_next HR2 HB2 4 1 [(⟨#[77]⟩ : ByteArray)] _ _ ?h1 ?h2 ?h3).mono ?_
  case h1 => rfl
  case h2 => rfl
  case h3 => decide
  rintro e w3 ⟨A3, c3, rfl, HR3, HB3⟩
  simp only [List.nil_append, List.cons_append] at HR3
  go_wp2_with fail
  with_reducible refine (concat_last HR3 HB3 _ _ ?h1 ?h2 ?h3 ?h4 (B.vars 4) ?h5).mono ?_
  case h1 => rfl
  case h2 => rfl
  case h3 => decide
  case h4 => decide
  case h5 => rfl
  rintro e w' ⟨v, rfl, HR, HB⟩
  obtain ⟨g, cap, rfl, hbg, hgl, cells, hblk⟩ := Kd.R_form HR.out (by decide)
  clear hblk cells
  have HG := Aside0.mk hgl
  have hcap : 3 ≤ cap := (Kd.R_reads' HR.out).2.1
  have HBG := Aside0.mk hbg
  clear hgl hbg
  go_wp2_with fail
  refine (bool_calls _).mono ?_
  rintro e w4 ⟨rfl, hb⟩
  have HB4 := Aside0.mk (below_step HB.out hb)
  have HR4 := Aside0.mk (Kd.R_alloc (Kd.R_below HR.out hb) (.cells #[.int .u8 1, .int .u64 1, .string ⟨#[]⟩] 34))
  have HG4 := Aside0.mk (Nat.lt_of_lt_of_le HG.out hb.size)
  clear hb
  obtain ⟨cs, _, hM, hcell, hfr⟩ := Kd.R_elem HR4.out (⟨#[]⟩, 0, 0) 2 (by omega) (by decide)
  have hM' : cs = vcells ((⟨#[77]⟩ : ByteArray), 4, 1) := hM
  subst hM'
  have hx : (w4.alloc (.cells #[.int .u8 1, .int .u64 1, .string ⟨#[]⟩] 34)).cell? ⟨g, 44, none⟩ = some (.slice none 0 0) := hcell 12 _ rfl
  have hf : (w4.alloc (.cells #[.int .u8 1, .int .u64 1, .string ⟨#[]⟩] 34)).frozen? ⟨g, 44, none⟩ = false := hfr 12
  clear hcell hfr hM
  go_wp2
  go_ret
  refine ⟨_, _, rfl, hcap, fall_row (w := w) HR4.out (by have := HG4.out; simp; omega) ⟨w4.heap.size, 0, none⟩ (by have := HG4.out; show w4.heap.size ≠ g; omega) (lit_one w4 ⟨1, 1, ⟨#[]⟩⟩), ?_⟩
  exact (below_alloc HB4.out _).setCell HBG.out _
set_option maxHeartbeats 1600000 in
set_option maxRecDepth 100000 in
theorem varsN_calls (k : Int) (w : World) (h : ¬ (1 ≤ k ∧ k ≤ 10)) :
    Calls Try.prog 20 #[.int .i64 k] w fun e w' => e = .returned (.slice none 0 0) ∧ w = w' := by
  have h1 : (k == 1) = false := beq_eq_false_iff_ne.mpr (by omega)
  have h2 : (k == 2) = false := beq_eq_false_iff_ne.mpr (by omega)
  have h3 : (k == 3) = false := beq_eq_false_iff_ne.mpr (by omega)
  have h4 : (k == 4) = false := beq_eq_false_iff_ne.mpr (by omega)
  have h5 : (k == 5) = false := beq_eq_false_iff_ne.mpr (by omega)
  have h6 : (k == 6) = false := beq_eq_false_iff_ne.mpr (by omega)
  have h7 : (k == 7) = false := beq_eq_false_iff_ne.mpr (by omega)
  have h8 : (k == 8) = false := beq_eq_false_iff_ne.mpr (by omega)
  have h9 : (k == 9) = false := beq_eq_false_iff_ne.mpr (by omega)
  have h10 : (k == 10) = false := beq_eq_false_iff_ne.mpr (by omega)
  go_enter Try.func20, Try.ntmps20
  go_wp2
  go_ret
  exact ⟨rfl, rfl⟩
theorem vars_calls (k : Int) (w : World) :
    Calls Try.prog 20 #[.int .i64 k] w fun e w' => ∃ (A : Option Addr) (c : Nat), e = .returned (.slice A (B.varsU k).length c) ∧ (B.varsU k).length ≤ c ∧ Kd.C kU w' A (B.varsU k).length (B.varsU k) ∧ Below w.heap.size w w' := by
  have fin : ∀ (q : Int), Calls Try.prog 20 #[.int .i64 q] w (fun e w' => ∃ v : Value, e = .returned v ∧ Aside0 (Kd.R kV 66 w' w.heap.size (fun _ => True) v (B.vars q)) ∧ Aside0 (Below w.heap.size w w')) → (B.varsU q = (B.vars q).map fun x => (x.1, x.2.1, x.2.2, false)) →
      Calls Try.prog 20 #[.int .i64 q] w fun e w' => ∃ (A : Option Addr) (c : Nat), e = .returned (.slice A (B.varsU q).length c) ∧ (B.varsU q).length ≤ c ∧ Kd.C kU w' A (B.varsU q).length (B.varsU q) ∧ Below w.heap.size w w' := by
    intro q hc hq
    refine hc.mono ?_
    rintro e w' ⟨v, rfl, HR, HB⟩
    obtain ⟨A, c, rfl, hle, hC⟩ := own_len3 HR.out
    rw [hq, List.length_map]
    exact ⟨A, c, rfl, hle, hC, HB.out⟩
  by_cases hk : 1 ≤ k ∧ k ≤ 10
  · have h : k = 1 ∨ k = 2 ∨ k = 3 ∨ k = 4 ∨ k = 5 ∨ k = 6 ∨ k = 7 ∨ k = 8 ∨ k = 9 ∨ k = 10 := by omega
    rcases h with rfl | rfl | rfl | rfl | rfl | rfl | rfl | rfl | rfl | rfl
    · exact fin 1 (vars1_calls w) rfl
    · exact fin 2 (vars2_calls w) rfl
    · exact fin 3 (vars3_calls w) rfl
    · exact vars4_calls w
    · exact fin 5 (vars5_calls w) rfl
    · exact fin 6 (vars6_calls w) rfl
    · exact fin 7 (vars7_calls w) rfl
    · exact fin 8 (vars8_calls w) rfl
    · exact fin 9 (vars9_calls w) rfl
    · exact fin 10 (vars10_calls w) rfl
  · refine (varsN_calls k w hk).mono ?_
    rintro e w' ⟨rfl, rfl⟩
    have h0 : B.varsU k = [] := by
      unfold B.varsU B.vars
      simp only [show ¬ k = 1 by omega, show ¬ k = 2 by omega, show ¬ k = 3 by omega, show ¬ k = 4 by omega, show ¬ k = 5 by omega, show ¬ k = 6 by omega, show ¬ k = 7 by omega, show ¬ k = 8 by omega, show ¬ k = 9 by omega, show ¬ k = 10 by omega, if_false, List.map_nil]
    rw [h0]
    exact ⟨none, 0, rfl, Nat.le_refl _, Kd.C_nil _ _, Below.refl _ _⟩


end Go.Proofs.Ytfadafgnahhmdaa.X
namespace Go.Proofs.Ytfadafgnahhmdaa.X
open Go.RowKit Go.Proofs.YtfadafgnahhmdaaW.PrintWords Go.Proofs.YtfadafgnahhmdaaW.PrintLast Go.Proofs.YtfadafgnahhmdaaW.PrintMore Go.Proofs.Ytfadafgnahhmdaa.E
attribute [local go_sem] max2_int min2_int max_two min_two max_three min_three max_four min_four
set_option linter.unusedVariables false
set_option linter.unusedSimpArgs false

set_option maxHeartbeats 800000 in
set_option maxRecDepth 100000 in
theorem zero_calls (k : Int) (w : World) (h1 : 1 ≤ k) (h2 : k ≤ 19) :
    Calls Try.prog 40 #[.int .u8 k] w fun e w' => e = .returned (.agg #[.int .u8 k, .int .u64 0, .string ⟨#[]⟩]) ∧ Below w.heap.size w w' := by
  have hu34 := Try.underlying34
  have b1 : decide (1 ≤ k) = true := decide_eq_true h1
  have b2 : decide (k ≤ 19) = true := decide_eq_true h2
  go_enter Try.func40, Try.ntmps40
  go_wp2
  exact bodyPost_ret (v := .agg #[.int .u8 k, .int .u64 0, .string ⟨#[]⟩]) (by simp [results, Try.results40, go_sem]) rfl ⟨rfl, below_alloc (Below.refl _ _) _⟩
/-- the cells at the start -/
def startL (k : Int) : List S34 := (B.varsU k).map fun x => ⟨x.2.2.1, if x.2.2.2 then 1 else 0, ⟨#[]⟩⟩
theorem startL_len (k : Int) : (startL k).length = (B.varsU k).length := by simp [startL]
theorem startL_step (k : Int) (j : Nat) (x : ByteArray × Int × Int × Bool) (h : (B.varsU k)[j]? = some x) : (startL k).take (j + 1) = (startL k).take j ++ [⟨x.2.2.1, if x.2.2.2 then 1 else 0, ⟨#[]⟩⟩] := by
  have hj := (List.getElem?_eq_some_iff.1 h).1
  rw [List.take_succ_eq_append_getElem (by rw [startL_len]; exact hj)]
  congr 2
  have := (List.getElem?_eq_some_iff.1 h).2
  simp [startL, this]
theorem varsU_len (k : Int) : (B.varsU k).length ≤ 10 := by
  unfold B.varsU
  rw [List.length_map]
  refine B.vars_ind (P := fun l => l.length ≤ 10) k ?_ ?_ ?_ ?_ ?_ ?_ ?_ ?_ ?_ ?_ ?_ <;> decide
theorem vars_kind (k : Int) : ∀ x ∈ B.vars k, x.2.2 = 1 ∨ x.2.2 = 3 ∨ x.2.2 = 14 := by
  refine B.vars_ind (P := fun l => ∀ x ∈ l, x.2.2 = 1 ∨ x.2.2 = 3 ∨ x.2.2 = 14) k ?_ ?_ ?_ ?_ ?_ ?_ ?_ ?_ ?_ ?_ ?_ <;> decide
theorem vars4_own : ∀ x ∈ B.vars 4, x.2.2 = 1 := by decide
theorem varsU_kind (k : Int) (j : Nat) (x : ByteArray × Int × Int × Bool) (h : (B.varsU k)[j]? = some x) : (x.2.2.1 = 1 ∨ x.2.2.1 = 3 ∨ x.2.2.1 = 14) ∧ (x.2.2.2 = true → x.2.2.1 = 1) := by
  have hm := List.mem_of_getElem? h
  unfold B.varsU at hm
  obtain ⟨y, hy, rfl⟩ := List.mem_map.1 hm
  refine ⟨vars_kind k y hy, fun hi => ?_⟩
  simp at hi
  obtain ⟨rfl, _⟩ := hi
  exact vars4_own y hy
/-- The cells of a variable that is read. -/
theorem kU_at {w : World} {A : Option Addr} {n : Nat} {xs : List (ByteArray × Int × Int × Bool)} (h : Kd.C kU w A n xs) (j : Nat) (hj : j < n) : ∃ ad x sv, A = some ad ∧ xs[j]? = some x ∧ KU w x (ucells x sv) ∧ (x.2.2.2 = false → sv = .slice none 0 0) ∧
    w.cell? (ad.add (j * 16)) = some (.string x.1) ∧ (∀ i u, 0 < i → (ucells x sv)[i]? = some u → w.cell? ⟨(ad.add (j * 16)).block, (ad.add (j * 16)).off + i, none⟩ = some u) := by
  obtain ⟨ad, rfl, hc⟩ := h.2.2 (by omega)
  have hl := h.1
  obtain ⟨x, hx⟩ : ∃ x, xs[j]? = some x := ⟨_, List.getElem?_eq_getElem (by omega)⟩
  obtain ⟨c, _, hK, hcell⟩ := hc j x hx
  have hK2 : KU w x c := hK
  obtain ⟨sv, rfl, hsv⟩ := hK
  refine ⟨ad, x, sv, rfl, hx, hK2, fun hf => ?_, hcell 0 _ rfl, fun i u hi hu => ?_⟩
  · rcases hsv with ⟨_, h⟩ | ⟨ht, _⟩
    · exact h
    · rw [hf] at ht; cases ht
  · rw [← add_field _ _ i hi]
    exact hcell i u hu
theorem info34 : (Try.prog.info? 34).map (fun i => (i.zero, i.size, i.bytes)) = some (some (.agg #[(.int .u8 0), (.int .u64 0), (.string ⟨#[]⟩)]), 3, 32) := by kernel_rfl
set_option maxHeartbeats 1600000 in
set_option maxRecDepth 100000 in
theorem start_calls (k : Int) (w : World) :
    Calls Try.prog 23 #[.int .i64 k] w fun e w' => ∃ v : Value, e = .returned v ∧ Kd.R k34 34 w' w.heap.size (fun _ => True) v (startL k) ∧ Below w.heap.size w w' := by
  have hu34 := Try.underlying34
  have hu64 := Try.underlying64
  have hu66 := Try.underlying66
  obtain ⟨n, hn⟩ : ∃ n, n = (B.varsU k).length := ⟨_, rfl⟩
  have hn10 : n ≤ 10 := by have := varsU_len k; omega
  have HN := Aside0.mk hn
  clear hn
  go_enter Try.func23, Try.ntmps23
  go_wp2_with (go_at_call 20; refine (vars_calls _ _).mono ?_; rintro e w1 ⟨A, c, rfl, hle, hC, hb⟩; rw [← HN.out] at hle hC ⊢; have HC := Aside0.mk hC; have HB := Aside0.mk hb; clear hC hb hle)
  go_loopw [3, 10] (fun v i wr => ∃ j : Nat, j ≤ n ∧ i = .int .i64 j ∧ Aside0 (Kd.R k34 34 wr w1.heap.size (fun _ => True) v ((startL k).take j)) ∧ Aside0 (Below w1.heap.size w1 wr)) (fun _ i _ => n - (intOf i).toNat)
  case atStart => exact ⟨0, Nat.zero_le _, rfl, ⟨Kd.R_nil _ _ _ _ _⟩, ⟨Below.refl _ _⟩⟩
  case round =>
    obtain ⟨j, hj, rfl, HO, HW⟩ := hrel
    by_cases hlt : j < n
    · obtain ⟨ad, x, sv, rfl, hx, hK, hsv, hc0, hci⟩ := kU_at (Kd.C_below HC.out HW.out) j hlt
      have hst := startL_step k j x hx
      obtain ⟨hkd, hki⟩ := varsU_kind k j x hx
      obtain ⟨nm, cl, kd, ini⟩ := x
      simp only at hkd hki hsv hst hc0
      have HST := Aside0.mk hst
      clear hst hx
      have x1 := hci 1 _ (by omega) rfl
      have x2 := hci 2 _ (by omega) rfl
      have x3 := hci 3 _ (by omega) rfl
      have x4 := hci 4 _ (by omega) rfl
      have x5 := hci 5 _ (by omega) rfl
      have x6 := hci 6 _ (by omega) rfl
      have x7 := hci 7 _ (by omega) rfl
      have x8 := hci 8 _ (by omega) rfl
      have x9 := hci 9 _ (by omega) rfl
      have x10 := hci 10 _ (by omega) rfl
      have x11 := hci 11 _ (by omega) rfl
      have x12 := hci 12 _ (by omega) rfl
      have x13 := hci 13 _ (by omega) rfl
      have x14 := hci 14 _ (by omega) rfl
      have x15 := hci 15 _ (by omega) rfl
      clear hci
      have hb1 : (0 ≤ (j : Int)) = True := eq_true (by omega)
      have hb2 : ((j : Int) < (n : Int)) = True := eq_true (by omega)
      cases ini with
      | false =>
        obtain rfl := hsv rfl
        clear hsv hki
        go_wp2_with fail
        refine (zero_calls kd _ (by omega) (by omega)).mono ?_
        rintro e w2 ⟨rfl, hb2⟩
        have hw2 : Below wr.heap.size wr w2 := below_step (below_alloc (Below.refl _ _) _) hb2
        have HO2 := Aside0.mk (Kd.R_below HO.out hw2)
        have HW2 := Aside0.mk (below_step HW.out hw2)
        have hz2 : wr.heap.size < w2.heap.size := by have := hb2.size; simp at this; omega
        have hz : ∀ o, (w2.alloc o).cell? ⟨wr.heap.size, 12, none⟩ = some (.slice none 0 0) := fun o => (World.cell?_alloc_lt _ _ _ hz2).trans ((hb2.cell (by simp)).trans (by simp))
        clear hb2 hw2
        have hlst : ((startL k).take j).length ≤ 10 := by rw [List.length_take]; omega
        have HLT := Aside0.mk hlst
        clear hlst
        go_wp2_with (first | (at_builtin; refine R_append' k34 (w0 := w1) w1.heap.size rfl (.tmp 26) (.tmp 28) 30 34 _ 32 rfl Try.underlying30 info34 rfl (by decide) (by omega) u3 ((startL k).take j) ⟨kd, 0, ⟨#[]⟩⟩ [.int .u8 kd, .int .u64 0, .string ⟨#[]⟩] (fun _ => True) (fun _ => False) _ rfl rfl ?aG (k34_mkM _ _ _ ⟨kd, 0, ⟨#[]⟩⟩) (fun _ h => h.elim) (fun _ _ => trivial) (Kd.R_alloc HO2.out _) (below_alloc HW2.out _) (Nat.le_trans HW2.out.size (by simp)) ?aS ?_; (case aG => simp); (case aS => have := HLT.out; omega); intro v3 w3 ho hb hg hat; have HO3 := Aside0.mk ho; have HW3 := Aside0.mk hb; clear ho hb hg hat))
        go_roundw
        case rel => exact ⟨j + 1, by omega, by go_num, ⟨by rw [HST.out]; exact HO3.out⟩, HW3⟩
        case measure => simp [intOf]; omega
      | true =>
        obtain rfl := hki rfl
        clear hki hsv hkd
        obtain ⟨sv2, hse, hsv2⟩ := hK
        have hsv3 : sv = sv2 := by simpa [ucells] using hse
        subst hsv3
        obtain ⟨A2, c2, rfl, hc2, hC2⟩ : ∃ A c, sv = .slice A 1 c ∧ 1 ≤ c ∧ Kd.C k34 wr A 1 [⟨1, 1, ⟨#[]⟩⟩] := by
          rcases hsv2 with ⟨hf, _⟩ | ⟨_, h⟩
          · cases hf
          · exact h
        clear hse hsv2
        obtain ⟨ad2, rfl, hq⟩ := hC2.2.2 (by omega)
        obtain ⟨cs2, _, hK2, hcc⟩ := hq 0 _ rfl
        obtain rfl := k34_open hK2
        have y0 := hcc 0 _ rfl
        have y1 := hcc 1 _ rfl
        have y2 := hcc 2 _ rfl
        rw [Nat.zero_mul, Nat.zero_add] at y0 y1 y2
        have z0 : wr.cell? ad2 = some (.int .u8 1) := by rw [Addr.add_zero'] at y0; exact y0
        have z1 : wr.cell? ⟨ad2.block, ad2.off + 1, none⟩ = some (.int .u64 1) := by rw [← Addr.add_zero' ad2, ← add_field ad2 0 1 (by omega)]; exact y1
        have z2 : wr.cell? ⟨ad2.block, ad2.off + 2, none⟩ = some (.string ⟨#[]⟩) := by rw [← Addr.add_zero' ad2, ← add_field ad2 0 2 (by omega)]; exact y2
        have hlt2 : ad2.block < wr.heap.size := World.block_lt_of_cell? wr _ z0
        clear hcc hq y0 y1 y2 hK2 hC2
        go_wp2_with fail
        refine (zero_calls 1 _ (by omega) (by omega)).mono ?_
        rintro e w2 ⟨rfl, hb2⟩
        have hw2 : Below wr.heap.size wr w2 := below_step (below_alloc (Below.refl _ _) _) hb2
        have HO2 := Aside0.mk (Kd.R_below HO.out hw2)
        have HW2 := Aside0.mk (below_step HW.out hw2)
        have hz2 : wr.heap.size < w2.heap.size := by have := hb2.size; simp at this; omega
        have hz : ∀ o, (w2.alloc o).cell? ⟨wr.heap.size, 12, none⟩ = some (.slice (some ad2) 1 c2) := fun o => (World.cell?_alloc_lt _ _ _ hz2).trans ((hb2.cell (by simp)).trans (by simp))
        have hl3 : ad2.block < w2.heap.size := by omega
        have t0 : ∀ o, (w2.alloc o).cell? ad2 = some (.int .u8 1) := fun o => (World.cell?_alloc_lt _ _ _ hl3).trans ((hw2.cell hlt2).trans z0)
        have t1 : ∀ o, (w2.alloc o).cell? ⟨ad2.block, ad2.off + 1, none⟩ = some (.int .u64 1) := fun o => (World.cell?_alloc_lt w2 o ⟨ad2.block, ad2.off + 1, none⟩ hl3).trans ((hw2.cell (p := ⟨ad2.block, ad2.off + 1, none⟩) hlt2).trans z1)
        have t2 : ∀ o, (w2.alloc o).cell? ⟨ad2.block, ad2.off + 2, none⟩ = some (.string ⟨#[]⟩) := fun o => (World.cell?_alloc_lt w2 o ⟨ad2.block, ad2.off + 2, none⟩ hl3).trans ((hw2.cell (p := ⟨ad2.block, ad2.off + 2, none⟩) hlt2).trans z2)
        clear z0 z1 z2
        clear hb2 hw2
        have hlst : ((startL k).take j).length ≤ 10 := by rw [List.length_take]; omega
        have HLT := Aside0.mk hlst
        clear hlst
        go_wp2_with (first | (at_builtin; refine R_append' k34 (w0 := w1) w1.heap.size rfl (.tmp 26) (.tmp 28) 30 34 _ 32 rfl Try.underlying30 info34 rfl (by decide) (by omega) u3 ((startL k).take j) ⟨1, 1, ⟨#[]⟩⟩ [.int .u8 1, .int .u64 1, .string ⟨#[]⟩] (fun _ => True) (fun _ => False) _ rfl rfl ?aG (k34_mkM _ _ _ ⟨1, 1, ⟨#[]⟩⟩) (fun _ h => h.elim) (fun _ _ => trivial) (Kd.R_alloc HO2.out _) (below_alloc HW2.out _) (Nat.le_trans HW2.out.size (by simp)) ?aS ?_; (case aG => simp); (case aS => have := HLT.out; omega); intro v3 w3 ho hb hg hat; have HO3 := Aside0.mk ho; have HW3 := Aside0.mk hb; clear ho hb hg hat))
        go_roundw
        case rel => exact ⟨j + 1, by omega, by go_num, ⟨by rw [HST.out]; exact HO3.out⟩, HW3⟩
        case measure => simp [intOf]; omega
    · go_wp2
      go_ret
      refine ⟨_, rfl, ?_, below_step HB.out HW.out⟩
      rw [show startL k = (startL k).take j from (List.take_of_length_le (by rw [startL_len]; have := HN.out; omega)).symm]
      exact Kd.R_lower HO.out HB.out.size

end Go.Proofs.Ytfadafgnahhmdaa.X
namespace Go.Proofs.Ytfadafgnahhmdaa.X
open Go.RowKit Go.Proofs.YtfadafgnahhmdaaW.PrintWords Go.Proofs.YtfadafgnahhmdaaW.PrintLast Go.Proofs.YtfadafgnahhmdaaW.PrintMore Go.Proofs.Ytfadafgnahhmdaa.E
attribute [local go_sem] max2_int min2_int max_two min_two max_three min_three max_four min_four
set_option linter.unusedVariables false
set_option linter.unusedSimpArgs false

theorem R_lit0 (W : World) (base : Nat) (hb : base ≤ W.heap.size) : Kd.R k34 34 (W.alloc (.cells #[] 34)) base (fun _ => True) (.slice (some ⟨W.heap.size, 0, none⟩) 0 0) [] :=
  ⟨fun _ _ => trivial, OwnRow.lit (ps := ([] : List S34)) W base (inner := []) (Reps.none _ _) hb (by simp)⟩
set_option maxHeartbeats 800000 in
set_option maxRecDepth 100000 in
theorem clone_calls (A : Option Addr) (n cp : Nat) (l : List S34) (w : World) (hr : Kd.C k34 w A n l) (hl : n * 32 ≤ 140737488355328) :
    Calls Try.prog 27 #[.slice A n cp] w fun e w' => ∃ v : Value, e = .returned v ∧ Kd.R k34 34 w' w.heap.size (fun _ => True) v l ∧ Below w.heap.size w w' := by
  have q30 : ∀ (w : World) (a : Option Addr) (n c n' c' : Nat), (binOp .eql 30 (.slice a n c) (.slice none n' c')).run Try.prog w = .ok (.bool a.isNone) w := fun w a n c n' c' => Lib.run_eql_slice_nil w _ _ a n c n' c' Try.underlying30
  cases A with
  | none =>
    have hn : n = 0 := by
      rcases Nat.eq_zero_or_pos n with h | h
      · exact h
      · obtain ⟨_, h2, _⟩ := hr.2.2 h; cases h2
    have hl0 : l = [] := List.eq_nil_of_length_eq_zero (hr.1.trans hn)
    subst hl0
    clear hr hl
    go_enter Try.func27, Try.ntmps27
    go_wp2
    go_ret
    exact ⟨_, rfl, Kd.R_nil _ _ _ _ _, Below.refl _ _⟩
  | some ad =>
    have HR := Aside0.mk hr
    have HL := Aside0.mk hl
    clear hr hl
    have h0 : (Option.isNone (some ad)) = false := rfl
    go_enter Try.func27, Try.ntmps27
    go_wp2_with (first | (at_builtin; refine Kd.R_append_rows k34 (Rr := fun x cs => k34.M w w.heap.size (fun _ => False) x cs) (w0 := w) w.heap.size rfl (.tmp 5) (.tmp 6) 30 34 _ 32 rfl Try.underlying30 info34 rfl (by decide) (by omega) (.slice (some ⟨w.heap.size, 0, none⟩) 0 0) [] l (some ad) n cp (fun _ => True) (fun _ => False) rfl rfl (R_lit0 w w.heap.size (Nat.le_refl _)) ?aR ?aM (fun _ h => h.elim) (fun _ _ => trivial) (below_alloc (Below.refl _ _) _) ?aH ?aS ?_; (case aR => exact ReadsRow.imp_ HR.out (below_alloc (Below.refl _ _) _) (fun x cs h => k34_open h ▸ k34_mkM _ _ _ x)); (case aM => exact fun x cs h => k34_openM h ▸ k34_mkM _ _ _ x); (case aH => simp); (case aS => have := HL.out; simp; omega); intro v1 w1 ho hb hg hat; have HO1 := Aside0.mk ho; have HB1 := Aside0.mk hb; clear ho hb hg hat))
    go_ret
    exact ⟨_, rfl, by simpa using HO1.out, HB1.out⟩

end Go.Proofs.Ytfadafgnahhmdaa.X
namespace Go.Proofs.Ytfadafgnahhmdaa.X
open Go.RowKit Go.Proofs.YtfadafgnahhmdaaW.PrintWords Go.Proofs.YtfadafgnahhmdaaW.PrintLast Go.Proofs.YtfadafgnahhmdaaW.PrintMore Go.Proofs.Ytfadafgnahhmdaa.E
attribute [local go_sem] max2_int min2_int max_two min_two max_three min_three max_four min_four
set_option linter.unusedVariables false
set_option linter.unusedSimpArgs false

/-! ### The document's 'one' and 'Vars' -/
theorem C_grownS {w w1 : World} {b n : Nat} {ns : List ByteArray} {row : Option Nat} (h : Kd.C Kd.string w (some ⟨b, 0, none⟩) n ns) (hg : w.grownBy w1 row) (hne : some b ≠ row) (hlt : b < w.heap.size) : Kd.C Kd.string w1 (some ⟨b, 0, none⟩) n ns := by
  refine ⟨h.1, h.2.1, fun hn => ?_⟩
  obtain ⟨ad, e, hc⟩ := h.2.2 hn
  injection e with e
  subst e
  refine ⟨_, rfl, fun j p hj => ?_⟩
  obtain ⟨cs, hl, hK, hcell⟩ := hc j p hj
  exact ⟨cs, hl, hK, fun i u hu => (World.cell?_of_block (by rw [add_block]; exact hg.block b hlt hne)).trans (hcell i u hu)⟩
set_option maxHeartbeats 1600000 in
set_option maxRecDepth 100000 in
theorem one_calls (c k : Int) (b n cp : Nat) (ns : List ByteArray) (w0 w : World) (base : Nat) (L : Value) (xs : List (ByteArray × Int × Int)) (hL : Kd.R kV 66 w base (fun _ => True) L xs) (hB : Below base w0 w) (hbase : base ≤ w.heap.size) (hr : Kd.C Kd.string w (some ⟨b, 0, none⟩) n ns) (hne : some b ≠ L.ownBlock) (hlt : b < w.heap.size) (hn : xs.length + n ≤ 100) :
    Calls Try.prog 39 #[L, .int .i64 c, .int .u8 k, .slice (some ⟨b, 0, none⟩) n cp] w fun e w' => ∃ v : Value, e = .returned v ∧ Kd.R kV 66 w' base (fun _ => True) v (xs ++ ofL c k ns) ∧ Below base w0 w' := by
  have hu64 := Try.underlying64
  have hu66 := Try.underlying66
  have hl : ns.length = n := hr.1
  have HL := Aside0.mk hl
  have H0 := Aside0.mk hL
  have H1 := Aside0.mk hB
  have H2 := Aside0.mk hr
  have H3 := Aside0.mk (show some b ≠ L.ownBlock ∧ b < w.heap.size ∧ base ≤ w.heap.size from ⟨hne, hlt, hbase⟩)
  clear hl hL hB hr hne hlt hbase
  go_enter Try.func39, Try.ntmps39
  go_wp2
  go_loopw [0, 9] (fun v i wr => ∃ j : Nat, j ≤ n ∧ i = .int .i64 j ∧ Aside0 (Kd.R kV 66 wr base (fun _ => True) v (xs ++ ofL c k (ns.take j))) ∧ Aside0 (Below base w0 wr) ∧ Aside0 (Kd.C Kd.string wr (some ⟨b, 0, none⟩) n ns) ∧ Aside0 (some b ≠ v.ownBlock ∧ b < wr.heap.size ∧ base ≤ wr.heap.size)) (fun _ i _ => n - (intOf i).toNat)
  case atStart => exact ⟨0, Nat.zero_le _, rfl, ⟨by simpa [ofL] using H0.out⟩, H1, H2, H3⟩
  case round =>
    obtain ⟨j, hj, rfl, HO, HB, HR, HN⟩ := hrel
    clear H0 H1 H2 H3
    by_cases hlt : j < n
    · obtain ⟨ad, e, hx0⟩ := Kd.at_string HR.out (j : Int) (by omega) (by omega)
      injection e with e
      subst e
      rw [Int.toNat_natCast, add_plain] at hx0
      have hrd : rdOf ByteArray.empty ns (j : Int) = ns.getD j ByteArray.empty := rfl
      rw [hrd] at hx0
      obtain ⟨nm, hnm⟩ : ∃ nm, nm = ns.getD j ByteArray.empty := ⟨_, rfl⟩
      rw [← hnm] at hx0
      have HNM := Aside0.mk hnm
      clear hnm hrd
      have hb1 : (0 ≤ (j : Int)) = True := eq_true (by omega)
      have hb2 : ((j : Int) < (n : Int)) = True := eq_true (by omega)
      go_wp2_with (first | (at_builtin; refine Kd.R_append kV (w0 := w0) base rfl (.tmp 16) (.tmp 25) 27 66 _ 152 rfl Try.underlying27 info66 rfl (by decide) (by omega) u0 (xs ++ ofL c k (ns.take j)) (nm, c, k) (vcells (nm, c, k)) (fun _ => True) (fun _ => False) rfl rfl rfl (fun _ h => h.elim) (fun _ _ => trivial) HO.out HB.out HN.out.2.2 ?aS ?_; (case aS => unfold ofL; rw [List.length_append, List.length_map, List.length_take]; omega); intro v1 w1 ho hb hg hat; have HO1 := Aside0.mk ho; have HB1 := Aside0.mk hb; have HR1 := Aside0.mk (C_grownS HR.out hg HN.out.1 HN.out.2.1); have HN1 := Aside0.mk (show some b ≠ v1.ownBlock ∧ b < w1.heap.size ∧ base ≤ w1.heap.size from ⟨by rcases hat with h | ⟨q, h, hq⟩; (rw [h]; exact HN.out.1); (rw [h]; intro e; injection e with e; have := HN.out.2.1; omega), Nat.lt_of_lt_of_le HN.out.2.1 hg.size, Nat.le_trans HN.out.2.2 hg.size⟩); clear ho hb hg hat))
      go_roundw
      case rel => exact ⟨j + 1, by omega, by go_num, ⟨by rw [ofL_step _ _ _ _ (by have := HL.out; omega), ← HNM.out, ← List.append_assoc]; exact HO1.out⟩, HB1, HR1, HN1⟩
      case measure => simp [intOf]; omega
    · go_wp2
      go_ret
      exact ⟨_, rfl, by rw [show ns = ns.take j from (List.take_of_length_le (by have := HL.out; omega)).symm]; exact HO.out, HB.out⟩
/-- One more call of 'one'. -/
theorem one_next {w W : World} {L : Value} {xs : List (ByteArray × Int × Int)} (HR : Aside0 (Kd.R kV 66 W w.heap.size (fun _ => True) L xs)) (HB : Aside0 (Below w.heap.size w W)) (c k : Int) (ns : List ByteArray) (n : Nat) (va : Array Value) (r : List (ByteArray × Int × Int)) (hn : n = ns.length) (hv : va = (ns.map Value.string).toArray) (hl : xs.length + ns.length ≤ 100) (hr : xs ++ ofL c k ns = r) :
    Calls Try.prog 39 #[L, .int .i64 c, .int .u8 k, .slice (some ⟨W.heap.size, 0, none⟩) n n] (W.alloc (.cells va 9)) fun e w' => ∃ v : Value, e = .returned v ∧ Aside0 (Kd.R kV 66 w' w.heap.size (fun _ => True) v r) ∧ Aside0 (Below w.heap.size w w') := by
  subst hn
  subst hr
  have hw : w.heap.size ≤ W.heap.size := below_size HB.out
  refine (one_calls c k W.heap.size ns.length ns.length ns w _ w.heap.size L xs (Kd.R_alloc HR.out _) (below_step HB.out (below_alloc (Below.refl _ _) _)) (Nat.le_trans hw (by simp)) (lit_strs W ns va hv (by omega)) (fun e => by have := Kd.R_lt HR.out _ e.symm; omega) (by simp) hl).mono ?_
  rintro e w' ⟨v, rfl, ho, hb⟩
  exact ⟨_, rfl, ⟨ho⟩, ⟨hb⟩⟩
set_option maxHeartbeats 1600000 in
set_option maxRecDepth 100000 in
theorem rvars1_calls (w : World) :
    Calls Try.prog 21 #[.int .i64 1] w fun e w' => ∃ v : Value, e = .returned v ∧ Aside0 (Kd.R kV 66 w' w.heap.size (fun _ => True) v (B.vars 1)) ∧ Aside0 (Below w.heap.size w w') := by
  have HR0 := Aside0.mk (Kd.R_nil kV 66 w w.heap.size (fun _ => True))
  have HB0 := Aside0.mk (Below.refl w.heap.size w)
  go_enter Try.func21, Try.ntmps21
  go_wp2_with fail
  with_reducible refine (one_next HR0 HB0 1 1 [(⟨#[83, 49]⟩ : ByteArray), (⟨#[82]⟩ : ByteArray)] _ _ [((⟨#[83, 49]⟩ : ByteArray), 1, 1), ((⟨#[82]⟩ : ByteArray), 1, 1)] ?h1 ?h2 ?h3 ?h4).mono ?_
  case h1 => rfl
  case h2 => rfl
  case h3 => decide
  case h4 => rfl
  rintro e w1 ⟨v1, rfl, HR1, HB1⟩
  go_wp2_with fail
  with_reducible refine (one_next HR1 HB1 2 1 [(⟨#[81, 49]⟩ : ByteArray)] _ _ (B.vars 1) ?h1 ?h2 ?h3 ?h4).mono ?_
  case h1 => rfl
  case h2 => rfl
  case h3 => decide
  case h4 => rfl
  rintro e w2 ⟨v2, rfl, HR2, HB2⟩
  go_wp2
  go_ret
  exact ⟨_, rfl, HR2, HB2⟩
set_option maxHeartbeats 1600000 in
set_option maxRecDepth 100000 in
theorem rvars2_calls (w : World) :
    Calls Try.prog 21 #[.int .i64 2] w fun e w' => ∃ v : Value, e = .returned v ∧ Aside0 (Kd.R kV 66 w' w.heap.size (fun _ => True) v (B.vars 2)) ∧ Aside0 (Below w.heap.size w w') := by
  have HR0 := Aside0.mk (Kd.R_nil kV 66 w w.heap.size (fun _ => True))
  have HB0 := Aside0.mk (Below.refl w.heap.size w)
  go_enter Try.func21, Try.ntmps21
  go_wp2_with fail
  with_reducible refine (one_next HR0 HB0 1 1 [(⟨#[83]⟩ : ByteArray), (⟨#[82, 49]⟩ : ByteArray)] _ _ [((⟨#[83]⟩ : ByteArray), 1, 1), ((⟨#[82, 49]⟩ : ByteArray), 1, 1)] ?h1 ?h2 ?h3 ?h4).mono ?_
  case h1 => rfl
  case h2 => rfl
  case h3 => decide
  case h4 => rfl
  rintro e w1 ⟨v1, rfl, HR1, HB1⟩
  go_wp2_with fail
  with_reducible refine (one_next HR1 HB1 2 1 [(⟨#[81, 49]⟩ : ByteArray)] _ _ (B.vars 2) ?h1 ?h2 ?h3 ?h4).mono ?_
  case h1 => rfl
  case h2 => rfl
  case h3 => decide
  case h4 => rfl
  rintro e w2 ⟨v2, rfl, HR2, HB2⟩
  go_wp2
  go_ret
  exact ⟨_, rfl, HR2, HB2⟩
set_option maxHeartbeats 1600000 in
set_option maxRecDepth 100000 in
theorem rvars3_calls (w : World) :
    Calls Try.prog 21 #[.int .i64 3] w fun e w' => ∃ v : Value, e = .returned v ∧ Aside0 (Kd.R kV 66 w' w.heap.size (fun _ => True) v (B.vars 3)) ∧ Aside0 (Below w.heap.size w w') := by
  have HR0 := Aside0.mk (Kd.R_nil kV 66 w w.heap.size (fun _ => True))
  have HB0 := Aside0.mk (Below.refl w.heap.size w)
  go_enter Try.func21, Try.ntmps21
  go_wp2_with fail
  with_reducible refine (one_next HR0 HB0 1 1 [(⟨#[67, 76, 75]⟩ : ByteArray)] _ _ [((⟨#[67, 76, 75]⟩ : ByteArray), 1, 1)] ?h1 ?h2 ?h3 ?h4).mono ?_
  case h1 => rfl
  case h2 => rfl
  case h3 => decide
  case h4 => rfl
  rintro e w1 ⟨v1, rfl, HR1, HB1⟩
  go_wp2_with fail
  with_reducible refine (one_next HR1 HB1 2 1 [(⟨#[81]⟩ : ByteArray)] _ _ [((⟨#[67, 76, 75]⟩ : ByteArray), 1, 1), ((⟨#[81]⟩ : ByteArray), 2, 1)] ?h1 ?h2 ?h3 ?h4).mono ?_
  case h1 => rfl
  case h2 => rfl
  case h3 => decide
  case h4 => rfl
  rintro e w2 ⟨v2, rfl, HR2, HB2⟩
  go_wp2_with fail
  with_reducible refine (one_next HR2 HB2 4 1 [(⟨#[77]⟩ : ByteArray)] _ _ (B.vars 3) ?h1 ?h2 ?h3 ?h4).mono ?_
  case h1 => rfl
  case h2 => rfl
  case h3 => decide
  case h4 => rfl
  rintro e w3 ⟨v3, rfl, HR3, HB3⟩
  go_wp2
  go_ret
  exact ⟨_, rfl, HR3, HB3⟩
set_option maxHeartbeats 1600000 in
set_option maxRecDepth 100000 in
theorem rvars4_calls (w : World) :
    Calls Try.prog 21 #[.int .i64 4] w fun e w' => ∃ (A : Option Addr) (c : Nat), e = .returned (.slice A 3 c) ∧ 3 ≤ c ∧ Kd.C kU w' A 3 [((⟨#[67, 76, 75]⟩ : ByteArray), 1, 1, false), ((⟨#[81]⟩ : ByteArray), 2, 1, false), ((⟨#[77]⟩ : ByteArray), 4, 1, true)] ∧ Below w.heap.size w w' := by
  have HR0 := Aside0.mk (Kd.R_nil kV 66 w w.heap.size (fun _ => True))
  have HB0 := Aside0.mk (Below.refl w.heap.size w)
  go_enter Try.func21, Try.ntmps21
  go_wp2_with fail
  with_reducible refine (one_next HR0 HB0 1 1 [(⟨#[67, 76, 75]⟩ : ByteArray)] _ _ [((⟨#[67, 76, 75]⟩ : ByteArray), 1, 1)] ?h1 ?h2 ?h3 ?h4).mono ?_
  case h1 => rfl
  case h2 => rfl
  case h3 => decide
  case h4 => rfl
  rintro e w1 ⟨v1, rfl, HR1, HB1⟩
  go_wp2_with fail
  with_reducible refine (one_next HR1 HB1 2 1 [(⟨#[81]⟩ : ByteArray)] _ _ [((⟨#[67, 76, 75]⟩ : ByteArray), 1, 1), ((⟨#[81]⟩ : ByteArray), 2, 1)] ?h1 ?h2 ?h3 ?h4).mono ?_
  case h1 => rfl
  case h2 => rfl
  case h3 => decide
  case h4 => rfl
  rintro e w2 ⟨v2, rfl, HR2, HB2⟩
  go_wp2_with fail
  with_reducible refine (one_next HR2 HB2 4 1 [(⟨#[77]⟩ : ByteArray)] _ _ (B.vars 4) ?h1 ?h2 ?h3 ?h4).mono ?_
  case h1 => rfl
  case h2 => rfl
  case h3 => decide
  case h4 => rfl
  rintro e w3 ⟨v3, rfl, HR3, HB3⟩
  obtain ⟨g, cap, rfl, hbg, hgl, cells, hblk⟩ := Kd.R_form HR3.out (by decide)
  clear hblk cells
  have HG := Aside0.mk hgl
  have hcap : 3 ≤ cap := (Kd.R_reads' HR3.out).2.1
  have HBG := Aside0.mk hbg
  clear hgl hbg
  have HR4 := Aside0.mk (Kd.R_alloc HR3.out (.cells #[.int .u8 1, .int .u64 1, .string ⟨#[]⟩] 34))
  have hu34 := Try.underlying34
  have hu66 := Try.underlying66
  obtain ⟨cs, _, hM, hcell, hfr⟩ := Kd.R_elem HR4.out (⟨#[]⟩, 0, 0) 2 (by omega) (by decide)
  have hM' : cs = vcells ((⟨#[77]⟩ : ByteArray), 4, 1) := hM
  subst hM'
  have hx : (w3.alloc (.cells #[.int .u8 1, .int .u64 1, .string ⟨#[]⟩] 34)).cell? ⟨g, 44, none⟩ = some (.slice none 0 0) := hcell 12 _ rfl
  have hf : (w3.alloc (.cells #[.int .u8 1, .int .u64 1, .string ⟨#[]⟩] 34)).frozen? ⟨g, 44, none⟩ = false := hfr 12
  clear hcell hfr hM
  go_wp2
  go_ret
  refine ⟨_, _, rfl, hcap, fall_row (w := w) HR4.out (by have := HG.out; simp; omega) ⟨w3.heap.size, 0, none⟩ (by have := HG.out; show w3.heap.size ≠ g; omega) (lit_one w3 ⟨1, 1, ⟨#[]⟩⟩), ?_⟩
  exact (below_alloc HB3.out _).setCell HBG.out _
set_option maxHeartbeats 1600000 in
set_option maxRecDepth 100000 in
theorem rvars5_calls (w : World) :
    Calls Try.prog 21 #[.int .i64 5] w fun e w' => ∃ v : Value, e = .returned v ∧ Aside0 (Kd.R kV 66 w' w.heap.size (fun _ => True) v (B.vars 5)) ∧ Aside0 (Below w.heap.size w w') := by
  have HR0 := Aside0.mk (Kd.R_nil kV 66 w w.heap.size (fun _ => True))
  have HB0 := Aside0.mk (Below.refl w.heap.size w)
  go_enter Try.func21, Try.ntmps21
  go_wp2_with fail
  with_reducible refine (one_next HR0 HB0 1 1 [(⟨#[67, 85]⟩ : ByteArray), (⟨#[82]⟩ : ByteArray)] _ _ [((⟨#[67, 85]⟩ : ByteArray), 1, 1), ((⟨#[82]⟩ : ByteArray), 1, 1)] ?h1 ?h2 ?h3 ?h4).mono ?_
  case h1 => rfl
  case h2 => rfl
  case h3 => decide
  case h4 => rfl
  rintro e w1 ⟨v1, rfl, HR1, HB1⟩
  go_wp2_with fail
  with_reducible refine (one_next HR1 HB1 1 3 [(⟨#[80, 86]⟩ : ByteArray)] _ _ [((⟨#[67, 85]⟩ : ByteArray), 1, 1), ((⟨#[82]⟩ : ByteArray), 1, 1), ((⟨#[80, 86]⟩ : ByteArray), 1, 3)] ?h1 ?h2 ?h3 ?h4).mono ?_
  case h1 => rfl
  case h2 => rfl
  case h3 => decide
  case h4 => rfl
  rintro e w2 ⟨v2, rfl, HR2, HB2⟩
  go_wp2_with fail
  with_reducible refine (one_next HR2 HB2 2 1 [(⟨#[81]⟩ : ByteArray)] _ _ [((⟨#[67, 85]⟩ : ByteArray), 1, 1), ((⟨#[82]⟩ : ByteArray), 1, 1), ((⟨#[80, 86]⟩ : ByteArray), 1, 3), ((⟨#[81]⟩ : ByteArray), 2, 1)] ?h1 ?h2 ?h3 ?h4).mono ?_
  case h1 => rfl
  case h2 => rfl
  case h3 => decide
  case h4 => rfl
  rintro e w3 ⟨v3, rfl, HR3, HB3⟩
  go_wp2_with fail
  with_reducible refine (one_next HR3 HB3 2 3 [(⟨#[67, 86]⟩ : ByteArray)] _ _ [((⟨#[67, 85]⟩ : ByteArray), 1, 1), ((⟨#[82]⟩ : ByteArray), 1, 1), ((⟨#[80, 86]⟩ : ByteArray), 1, 3), ((⟨#[81]⟩ : ByteArray), 2, 1), ((⟨#[67, 86]⟩ : ByteArray), 2, 3)] ?h1 ?h2 ?h3 ?h4).mono ?_
  case h1 => rfl
  case h2 => rfl
  case h3 => decide
  case h4 => rfl
  rintro e w4 ⟨v4, rfl, HR4, HB4⟩
  go_wp2_with fail
  with_reducible refine (one_next HR4 HB4 4 1 [(⟨#[77]⟩ : ByteArray)] _ _ (B.vars 5) ?h1 ?h2 ?h3 ?h4).mono ?_
  case h1 => rfl
  case h2 => rfl
  case h3 => decide
  case h4 => rfl
  rintro e w5 ⟨v5, rfl, HR5, HB5⟩
  go_wp2
  go_ret
  exact ⟨_, rfl, HR5, HB5⟩
set_option maxHeartbeats 1600000 in
set_option maxRecDepth 100000 in
theorem rvars6_calls (w : World) :
    Calls Try.prog 21 #[.int .i64 6] w fun e w' => ∃ v : Value, e = .returned v ∧ Aside0 (Kd.R kV 66 w' w.heap.size (fun _ => True) v (B.vars 6)) ∧ Aside0 (Below w.heap.size w w') := by
  have HR0 := Aside0.mk (Kd.R_nil kV 66 w w.heap.size (fun _ => True))
  have HB0 := Aside0.mk (Below.refl w.heap.size w)
  go_enter Try.func21, Try.ntmps21
  go_wp2_with fail
  with_reducible refine (one_next HR0 HB0 1 1 [(⟨#[67, 68]⟩ : ByteArray), (⟨#[76, 68]⟩ : ByteArray)] _ _ [((⟨#[67, 68]⟩ : ByteArray), 1, 1), ((⟨#[76, 68]⟩ : ByteArray), 1, 1)] ?h1 ?h2 ?h3 ?h4).mono ?_
  case h1 => rfl
  case h2 => rfl
  case h3 => decide
  case h4 => rfl
  rintro e w1 ⟨v1, rfl, HR1, HB1⟩
  go_wp2_with fail
  with_reducible refine (one_next HR1 HB1 1 3 [(⟨#[80, 86]⟩ : ByteArray)] _ _ [((⟨#[67, 68]⟩ : ByteArray), 1, 1), ((⟨#[76, 68]⟩ : ByteArray), 1, 1), ((⟨#[80, 86]⟩ : ByteArray), 1, 3)] ?h1 ?h2 ?h3 ?h4).mono ?_
  case h1 => rfl
  case h2 => rfl
  case h3 => decide
  case h4 => rfl
  rintro e w2 ⟨v2, rfl, HR2, HB2⟩
  go_wp2_with fail
  with_reducible refine (one_next HR2 HB2 2 1 [(⟨#[81]⟩ : ByteArray)] _ _ [((⟨#[67, 68]⟩ : ByteArray), 1, 1), ((⟨#[76, 68]⟩ : ByteArray), 1, 1), ((⟨#[80, 86]⟩ : ByteArray), 1, 3), ((⟨#[81]⟩ : ByteArray), 2, 1)] ?h1 ?h2 ?h3 ?h4).mono ?_
  case h1 => rfl
  case h2 => rfl
  case h3 => decide
  case h4 => rfl
  rintro e w3 ⟨v3, rfl, HR3, HB3⟩
  go_wp2_with fail
  with_reducible refine (one_next HR3 HB3 2 3 [(⟨#[67, 86]⟩ : ByteArray)] _ _ [((⟨#[67, 68]⟩ : ByteArray), 1, 1), ((⟨#[76, 68]⟩ : ByteArray), 1, 1), ((⟨#[80, 86]⟩ : ByteArray), 1, 3), ((⟨#[81]⟩ : ByteArray), 2, 1), ((⟨#[67, 86]⟩ : ByteArray), 2, 3)] ?h1 ?h2 ?h3 ?h4).mono ?_
  case h1 => rfl
  case h2 => rfl
  case h3 => decide
  case h4 => rfl
  rintro e w4 ⟨v4, rfl, HR4, HB4⟩
  go_wp2_with fail
  with_reducible refine (one_next HR4 HB4 4 1 [(⟨#[77]⟩ : ByteArray)] _ _ (B.vars 6) ?h1 ?h2 ?h3 ?h4).mono ?_
  case h1 => rfl
  case h2 => rfl
  case h3 => decide
  case h4 => rfl
  rintro e w5 ⟨v5, rfl, HR5, HB5⟩
  go_wp2
  go_ret
  exact ⟨_, rfl, HR5, HB5⟩
set_option maxHeartbeats 1600000 in
set_option maxRecDepth 100000 in
theorem rvars7_calls (w : World) :
    Calls Try.prog 21 #[.int .i64 7] w fun e w' => ∃ v : Value, e = .returned v ∧ Aside0 (Kd.R kV 66 w' w.heap.size (fun _ => True) v (B.vars 7)) ∧ Aside0 (Below w.heap.size w w') := by
  have HR0 := Aside0.mk (Kd.R_nil kV 66 w w.heap.size (fun _ => True))
  have HB0 := Aside0.mk (Below.refl w.heap.size w)
  go_enter Try.func21, Try.ntmps21
  go_wp2_with fail
  with_reducible refine (one_next HR0 HB0 1 1 [(⟨#[67, 85]⟩ : ByteArray), (⟨#[67, 68]⟩ : ByteArray), (⟨#[82]⟩ : ByteArray), (⟨#[76, 68]⟩ : ByteArray)] _ _ [((⟨#[67, 85]⟩ : ByteArray), 1, 1), ((⟨#[67, 68]⟩ : ByteArray), 1, 1), ((⟨#[82]⟩ : ByteArray), 1, 1), ((⟨#[76, 68]⟩ : ByteArray), 1, 1)] ?h1 ?h2 ?h3 ?h4).mono ?_
  case h1 => rfl
  case h2 => rfl
  case h3 => decide
  case h4 => rfl
  rintro e w1 ⟨v1, rfl, HR1, HB1⟩
  go_wp2_with fail
  with_reducible refine (one_next HR1 HB1 1 3 [(⟨#[80, 86]⟩ : ByteArray)] _ _ [((⟨#[67, 85]⟩ : ByteArray), 1, 1), ((⟨#[67, 68]⟩ : ByteArray), 1, 1), ((⟨#[82]⟩ : ByteArray), 1, 1), ((⟨#[76, 68]⟩ : ByteArray), 1, 1), ((⟨#[80, 86]⟩ : ByteArray), 1, 3)] ?h1 ?h2 ?h3 ?h4).mono ?_
  case h1 => rfl
  case h2 => rfl
  case h3 => decide
  case h4 => rfl
  rintro e w2 ⟨v2, rfl, HR2, HB2⟩
  go_wp2_with fail
  with_reducible refine (one_next HR2 HB2 2 1 [(⟨#[81, 85]⟩ : ByteArray), (⟨#[81, 68]⟩ : ByteArray)] _ _ [((⟨#[67, 85]⟩ : ByteArray), 1, 1), ((⟨#[67, 68]⟩ : ByteArray), 1, 1), ((⟨#[82]⟩ : ByteArray), 1, 1), ((⟨#[76, 68]⟩ : ByteArray), 1, 1), ((⟨#[80, 86]⟩ : ByteArray), 1, 3), ((⟨#[81, 85]⟩ : ByteArray), 2, 1), ((⟨#[81, 68]⟩ : ByteArray), 2, 1)] ?h1 ?h2 ?h3 ?h4).mono ?_
  case h1 => rfl
  case h2 => rfl
  case h3 => decide
  case h4 => rfl
  rintro e w3 ⟨v3, rfl, HR3, HB3⟩
  go_wp2_with fail
  with_reducible refine (one_next HR3 HB3 2 3 [(⟨#[67, 86]⟩ : ByteArray)] _ _ [((⟨#[67, 85]⟩ : ByteArray), 1, 1), ((⟨#[67, 68]⟩ : ByteArray), 1, 1), ((⟨#[82]⟩ : ByteArray), 1, 1), ((⟨#[76, 68]⟩ : ByteArray), 1, 1), ((⟨#[80, 86]⟩ : ByteArray), 1, 3), ((⟨#[81, 85]⟩ : ByteArray), 2, 1), ((⟨#[81, 68]⟩ : ByteArray), 2, 1), ((⟨#[67, 86]⟩ : ByteArray), 2, 3)] ?h1 ?h2 ?h3 ?h4).mono ?_
  case h1 => rfl
  case h2 => rfl
  case h3 => decide
  case h4 => rfl
  rintro e w4 ⟨v4, rfl, HR4, HB4⟩
  go_wp2_with fail
  with_reducible refine (one_next HR4 HB4 4 1 [(⟨#[77]⟩ : ByteArray), (⟨#[78]⟩ : ByteArray)] _ _ (B.vars 7) ?h1 ?h2 ?h3 ?h4).mono ?_
  case h1 => rfl
  case h2 => rfl
  case h3 => decide
  case h4 => rfl
  rintro e w5 ⟨v5, rfl, HR5, HB5⟩
  go_wp2
  go_ret
  exact ⟨_, rfl, HR5, HB5⟩
set_option maxHeartbeats 1600000 in
set_option maxRecDepth 100000 in
theorem rvars8_calls (w : World) :
    Calls Try.prog 21 #[.int .i64 8] w fun e w' => ∃ v : Value, e = .returned v ∧ Aside0 (Kd.R kV 66 w' w.heap.size (fun _ => True) v (B.vars 8)) ∧ Aside0 (Below w.heap.size w w') := by
  have HR0 := Aside0.mk (Kd.R_nil kV 66 w w.heap.size (fun _ => True))
  have HB0 := Aside0.mk (Below.refl w.heap.size w)
  go_enter Try.func21, Try.ntmps21
  go_wp2_with fail
  with_reducible refine (one_next HR0 HB0 1 1 [(⟨#[73, 78]⟩ : ByteArray)] _ _ [((⟨#[73, 78]⟩ : ByteArray), 1, 1)] ?h1 ?h2 ?h3 ?h4).mono ?_
  case h1 => rfl
  case h2 => rfl
  case h3 => decide
  case h4 => rfl
  rintro e w1 ⟨v1, rfl, HR1, HB1⟩
  go_wp2_with fail
  with_reducible refine (one_next HR1 HB1 1 14 [(⟨#[80, 84]⟩ : ByteArray)] _ _ [((⟨#[73, 78]⟩ : ByteArray), 1, 1), ((⟨#[80, 84]⟩ : ByteArray), 1, 14)] ?h1 ?h2 ?h3 ?h4).mono ?_
  case h1 => rfl
  case h2 => rfl
  case h3 => decide
  case h4 => rfl
  rintro e w2 ⟨v2, rfl, HR2, HB2⟩
  go_wp2_with fail
  with_reducible refine (one_next HR2 HB2 2 1 [(⟨#[81]⟩ : ByteArray)] _ _ [((⟨#[73, 78]⟩ : ByteArray), 1, 1), ((⟨#[80, 84]⟩ : ByteArray), 1, 14), ((⟨#[81]⟩ : ByteArray), 2, 1)] ?h1 ?h2 ?h3 ?h4).mono ?_
  case h1 => rfl
  case h2 => rfl
  case h3 => decide
  case h4 => rfl
  rintro e w3 ⟨v3, rfl, HR3, HB3⟩
  go_wp2_with fail
  with_reducible refine (one_next HR3 HB3 2 14 [(⟨#[69, 84]⟩ : ByteArray)] _ _ [((⟨#[73, 78]⟩ : ByteArray), 1, 1), ((⟨#[80, 84]⟩ : ByteArray), 1, 14), ((⟨#[81]⟩ : ByteArray), 2, 1), ((⟨#[69, 84]⟩ : ByteArray), 2, 14)] ?h1 ?h2 ?h3 ?h4).mono ?_
  case h1 => rfl
  case h2 => rfl
  case h3 => decide
  case h4 => rfl
  rintro e w4 ⟨v4, rfl, HR4, HB4⟩
  go_wp2_with fail
  with_reducible refine (one_next HR4 HB4 4 1 [(⟨#[77]⟩ : ByteArray)] _ _ [((⟨#[73, 78]⟩ : ByteArray), 1, 1), ((⟨#[80, 84]⟩ : ByteArray), 1, 14), ((⟨#[81]⟩ : ByteArray), 2, 1), ((⟨#[69, 84]⟩ : ByteArray), 2, 14), ((⟨#[77]⟩ : ByteArray), 4, 1)] ?h1 ?h2 ?h3 ?h4).mono ?_
  case h1 => rfl
  case h2 => rfl
  case h3 => decide
  case h4 => rfl
  rintro e w5 ⟨v5, rfl, HR5, HB5⟩
  go_wp2_with fail
  with_reducible refine (one_next HR5 HB5 4 14 [(⟨#[83]⟩ : ByteArray)] _ _ (B.vars 8) ?h1 ?h2 ?h3 ?h4).mono ?_
  case h1 => rfl
  case h2 => rfl
  case h3 => decide
  case h4 => rfl
  rintro e w6 ⟨v6, rfl, HR6, HB6⟩
  go_wp2
  go_ret
  exact ⟨_, rfl, HR6, HB6⟩
set_option maxHeartbeats 1600000 in
set_option maxRecDepth 100000 in
theorem rvars9_calls (w : World) :
    Calls Try.prog 21 #[.int .i64 9] w fun e w' => ∃ v : Value, e = .returned v ∧ Aside0 (Kd.R kV 66 w' w.heap.size (fun _ => True) v (B.vars 9)) ∧ Aside0 (Below w.heap.size w w') := by
  have HR0 := Aside0.mk (Kd.R_nil kV 66 w w.heap.size (fun _ => True))
  have HB0 := Aside0.mk (Below.refl w.heap.size w)
  go_enter Try.func21, Try.ntmps21
  go_wp2_with fail
  with_reducible refine (one_next HR0 HB0 1 1 [(⟨#[73, 78]⟩ : ByteArray)] _ _ [((⟨#[73, 78]⟩ : ByteArray), 1, 1)] ?h1 ?h2 ?h3 ?h4).mono ?_
  case h1 => rfl
  case h2 => rfl
  case h3 => decide
  case h4 => rfl
  rintro e w1 ⟨v1, rfl, HR1, HB1⟩
  go_wp2_with fail
  with_reducible refine (one_next HR1 HB1 1 14 [(⟨#[80, 84]⟩ : ByteArray)] _ _ [((⟨#[73, 78]⟩ : ByteArray), 1, 1), ((⟨#[80, 84]⟩ : ByteArray), 1, 14)] ?h1 ?h2 ?h3 ?h4).mono ?_
  case h1 => rfl
  case h2 => rfl
  case h3 => decide
  case h4 => rfl
  rintro e w2 ⟨v2, rfl, HR2, HB2⟩
  go_wp2_with fail
  with_reducible refine (one_next HR2 HB2 2 1 [(⟨#[81]⟩ : ByteArray)] _ _ [((⟨#[73, 78]⟩ : ByteArray), 1, 1), ((⟨#[80, 84]⟩ : ByteArray), 1, 14), ((⟨#[81]⟩ : ByteArray), 2, 1)] ?h1 ?h2 ?h3 ?h4).mono ?_
  case h1 => rfl
  case h2 => rfl
  case h3 => decide
  case h4 => rfl
  rintro e w3 ⟨v3, rfl, HR3, HB3⟩
  go_wp2_with fail
  with_reducible refine (one_next HR3 HB3 2 14 [(⟨#[69, 84]⟩ : ByteArray)] _ _ [((⟨#[73, 78]⟩ : ByteArray), 1, 1), ((⟨#[80, 84]⟩ : ByteArray), 1, 14), ((⟨#[81]⟩ : ByteArray), 2, 1), ((⟨#[69, 84]⟩ : ByteArray), 2, 14)] ?h1 ?h2 ?h3 ?h4).mono ?_
  case h1 => rfl
  case h2 => rfl
  case h3 => decide
  case h4 => rfl
  rintro e w4 ⟨v4, rfl, HR4, HB4⟩
  go_wp2_with fail
  with_reducible refine (one_next HR4 HB4 4 1 [(⟨#[77]⟩ : ByteArray)] _ _ [((⟨#[73, 78]⟩ : ByteArray), 1, 1), ((⟨#[80, 84]⟩ : ByteArray), 1, 14), ((⟨#[81]⟩ : ByteArray), 2, 1), ((⟨#[69, 84]⟩ : ByteArray), 2, 14), ((⟨#[77]⟩ : ByteArray), 4, 1)] ?h1 ?h2 ?h3 ?h4).mono ?_
  case h1 => rfl
  case h2 => rfl
  case h3 => decide
  case h4 => rfl
  rintro e w5 ⟨v5, rfl, HR5, HB5⟩
  go_wp2_with fail
  with_reducible refine (one_next HR5 HB5 4 14 [(⟨#[83]⟩ : ByteArray)] _ _ (B.vars 9) ?h1 ?h2 ?h3 ?h4).mono ?_
  case h1 => rfl
  case h2 => rfl
  case h3 => decide
  case h4 => rfl
  rintro e w6 ⟨v6, rfl, HR6, HB6⟩
  go_wp2
  go_ret
  exact ⟨_, rfl, HR6, HB6⟩
set_option maxHeartbeats 1600000 in
set_option maxRecDepth 100000 in
theorem rvars10_calls (w : World) :
    Calls Try.prog 21 #[.int .i64 10] w fun e w' => ∃ v : Value, e = .returned v ∧ Aside0 (Kd.R kV 66 w' w.heap.size (fun _ => True) v (B.vars 10)) ∧ Aside0 (Below w.heap.size w w') := by
  have HR0 := Aside0.mk (Kd.R_nil kV 66 w w.heap.size (fun _ => True))
  have HB0 := Aside0.mk (Below.refl w.heap.size w)
  go_enter Try.func21, Try.ntmps21
  go_wp2_with fail
  with_reducible refine (one_next HR0 HB0 1 1 [(⟨#[73, 78]⟩ : ByteArray)] _ _ [((⟨#[73, 78]⟩ : ByteArray), 1, 1)] ?h1 ?h2 ?h3 ?h4).mono ?_
  case h1 => rfl
  case h2 => rfl
  case h3 => decide
  case h4 => rfl
  rintro e w1 ⟨v1, rfl, HR1, HB1⟩
  go_wp2_with fail
  with_reducible refine (one_next HR1 HB1 1 14 [(⟨#[80, 84]⟩ : ByteArray)] _ _ [((⟨#[73, 78]⟩ : ByteArray), 1, 1), ((⟨#[80, 84]⟩ : ByteArray), 1, 14)] ?h1 ?h2 ?h3 ?h4).mono ?_
  case h1 => rfl
  case h2 => rfl
  case h3 => decide
  case h4 => rfl
  rintro e w2 ⟨v2, rfl, HR2, HB2⟩
  go_wp2_with fail
  with_reducible refine (one_next HR2 HB2 2 1 [(⟨#[81]⟩ : ByteArray)] _ _ [((⟨#[73, 78]⟩ : ByteArray), 1, 1), ((⟨#[80, 84]⟩ : ByteArray), 1, 14), ((⟨#[81]⟩ : ByteArray), 2, 1)] ?h1 ?h2 ?h3 ?h4).mono ?_
  case h1 => rfl
  case h2 => rfl
  case h3 => decide
  case h4 => rfl
  rintro e w3 ⟨v3, rfl, HR3, HB3⟩
  go_wp2_with fail
  with_reducible refine (one_next HR3 HB3 2 14 [(⟨#[69, 84]⟩ : ByteArray)] _ _ [((⟨#[73, 78]⟩ : ByteArray), 1, 1), ((⟨#[80, 84]⟩ : ByteArray), 1, 14), ((⟨#[81]⟩ : ByteArray), 2, 1), ((⟨#[69, 84]⟩ : ByteArray), 2, 14)] ?h1 ?h2 ?h3 ?h4).mono ?_
  case h1 => rfl
  case h2 => rfl
  case h3 => decide
  case h4 => rfl
  rintro e w4 ⟨v4, rfl, HR4, HB4⟩
  go_wp2_with fail
  with_reducible refine (one_next HR4 HB4 4 1 [(⟨#[77]⟩ : ByteArray)] _ _ [((⟨#[73, 78]⟩ : ByteArray), 1, 1), ((⟨#[80, 84]⟩ : ByteArray), 1, 14), ((⟨#[81]⟩ : ByteArray), 2, 1), ((⟨#[69, 84]⟩ : ByteArray), 2, 14), ((⟨#[77]⟩ : ByteArray), 4, 1)] ?h1 ?h2 ?h3 ?h4).mono ?_
  case h1 => rfl
  case h2 => rfl
  case h3 => decide
  case h4 => rfl
  rintro e w5 ⟨v5, rfl, HR5, HB5⟩
  go_wp2_with fail
  with_reducible refine (one_next HR5 HB5 4 14 [(⟨#[83]⟩ : ByteArray)] _ _ (B.vars 10) ?h1 ?h2 ?h3 ?h4).mono ?_
  case h1 => rfl
  case h2 => rfl
  case h3 => decide
  case h4 => rfl
  rintro e w6 ⟨v6, rfl, HR6, HB6⟩
  go_wp2
  go_ret
  exact ⟨_, rfl, HR6, HB6⟩
set_option maxHeartbeats 1600000 in
set_option maxRecDepth 100000 in
theorem rvarsN_calls (k : Int) (w : World) (h : ¬ (1 ≤ k ∧ k ≤ 10)) :
    Calls Try.prog 21 #[.int .i64 k] w fun e w' => e = .returned (.slice none 0 0) ∧ w = w' := by
  have h1 : (k == 1) = false := beq_eq_false_iff_ne.mpr (by omega)
  have h2 : (k == 2) = false := beq_eq_false_iff_ne.mpr (by omega)
  have h3 : (k == 3) = false := beq_eq_false_iff_ne.mpr (by omega)
  have h4 : (k == 4) = false := beq_eq_false_iff_ne.mpr (by omega)
  have h5 : (k == 5) = false := beq_eq_false_iff_ne.mpr (by omega)
  have h6 : (k == 6) = false := beq_eq_false_iff_ne.mpr (by omega)
  have h7 : (k == 7) = false := beq_eq_false_iff_ne.mpr (by omega)
  have h8 : (k == 8) = false := beq_eq_false_iff_ne.mpr (by omega)
  have h9 : (k == 9) = false := beq_eq_false_iff_ne.mpr (by omega)
  have h10 : (k == 10) = false := beq_eq_false_iff_ne.mpr (by omega)
  go_enter Try.func21, Try.ntmps21
  go_wp2
  go_ret
  exact ⟨rfl, rfl⟩
theorem rvars_calls (k : Int) (w : World) :
    Calls Try.prog 21 #[.int .i64 k] w fun e w' => ∃ (A : Option Addr) (c : Nat), e = .returned (.slice A (B.varsU k).length c) ∧ (B.varsU k).length ≤ c ∧ Kd.C kU w' A (B.varsU k).length (B.varsU k) ∧ Below w.heap.size w w' := by
  have fin : ∀ (q : Int), Calls Try.prog 21 #[.int .i64 q] w (fun e w' => ∃ v : Value, e = .returned v ∧ Aside0 (Kd.R kV 66 w' w.heap.size (fun _ => True) v (B.vars q)) ∧ Aside0 (Below w.heap.size w w')) → (B.varsU q = (B.vars q).map fun x => (x.1, x.2.1, x.2.2, false)) →
      Calls Try.prog 21 #[.int .i64 q] w fun e w' => ∃ (A : Option Addr) (c : Nat), e = .returned (.slice A (B.varsU q).length c) ∧ (B.varsU q).length ≤ c ∧ Kd.C kU w' A (B.varsU q).length (B.varsU q) ∧ Below w.heap.size w w' := by
    intro q hc hq
    refine hc.mono ?_
    rintro e w' ⟨v, rfl, HR, HB⟩
    obtain ⟨A, c, rfl, hle, hC⟩ := own_len3 HR.out
    rw [hq, List.length_map]
    exact ⟨A, c, rfl, hle, hC, HB.out⟩
  by_cases hk : 1 ≤ k ∧ k ≤ 10
  · have h : k = 1 ∨ k = 2 ∨ k = 3 ∨ k = 4 ∨ k = 5 ∨ k = 6 ∨ k = 7 ∨ k = 8 ∨ k = 9 ∨ k = 10 := by omega
    rcases h with rfl | rfl | rfl | rfl | rfl | rfl | rfl | rfl | rfl | rfl
    · exact fin 1 (rvars1_calls w) rfl
    · exact fin 2 (rvars2_calls w) rfl
    · exact fin 3 (rvars3_calls w) rfl
    · exact rvars4_calls w
    · exact fin 5 (rvars5_calls w) rfl
    · exact fin 6 (rvars6_calls w) rfl
    · exact fin 7 (rvars7_calls w) rfl
    · exact fin 8 (rvars8_calls w) rfl
    · exact fin 9 (rvars9_calls w) rfl
    · exact fin 10 (rvars10_calls w) rfl
  · refine (rvarsN_calls k w hk).mono ?_
    rintro e w' ⟨rfl, rfl⟩
    have h0 : B.varsU k = [] := by
      unfold B.varsU B.vars
      simp only [show ¬ k = 1 by omega, show ¬ k = 2 by omega, show ¬ k = 3 by omega, show ¬ k = 4 by omega, show ¬ k = 5 by omega, show ¬ k = 6 by omega, show ¬ k = 7 by omega, show ¬ k = 8 by omega, show ¬ k = 9 by omega, show ¬ k = 10 by omega, if_false, List.map_nil]
    rw [h0]
    exact ⟨none, 0, rfl, Nat.le_refl _, Kd.C_nil _ _, Below.refl _ _⟩



end Go.Proofs.Ytfadafgnahhmdaa.X
namespace Go.Proofs.Ytfadafgnahhmdaa.X
open Go.RowKit Go.Proofs.YtfadafgnahhmdaaW.PrintWords Go.Proofs.YtfadafgnahhmdaaW.PrintLast Go.Proofs.YtfadafgnahhmdaaW.PrintMore Go.Proofs.Ytfadafgnahhmdaa.E
attribute [local go_sem] max2_int min2_int max_two min_two max_three min_three max_four min_four
set_option linter.unusedVariables false
set_option linter.unusedSimpArgs false

set_option maxHeartbeats 1600000 in
set_option maxRecDepth 100000 in
theorem size17_calls (k : Int) (w : World) :
    Calls Try.prog 17 #[.int .i64 k] w fun e w' => e = .returned (.int .i64 (B.varsU k).length) ∧ Below w.heap.size w w' := by
  go_enter Try.func17, Try.ntmps17
  go_wp2_with (go_at_call 20; refine (vars_calls _ _).mono ?_; rintro e w1 ⟨A, c, rfl, hle, hC, hb⟩; have HB := Aside0.mk hb; clear hC hb hle)
  go_ret
  exact ⟨rfl, HB.out⟩
set_option maxHeartbeats 1600000 in
set_option maxRecDepth 100000 in
theorem size18_calls (k : Int) (w : World) :
    Calls Try.prog 18 #[.int .i64 k] w fun e w' => e = .returned (.int .i64 (B.varsU k).length) ∧ Below w.heap.size w w' := by
  go_enter Try.func18, Try.ntmps18
  go_wp2_with (go_at_call 21; refine (rvars_calls _ _).mono ?_; rintro e w1 ⟨A, c, rfl, hle, hC, hb⟩; have HB := Aside0.mk hb; clear hC hb hle)
  go_ret
  exact ⟨rfl, HB.out⟩
set_option maxHeartbeats 1600000 in
set_option maxRecDepth 100000 in
theorem rstart_calls (k : Int) (w : World) :
    Calls Try.prog 24 #[.int .i64 k] w fun e w' => ∃ v : Value, e = .returned v ∧ Kd.R k34 34 w' w.heap.size (fun _ => True) v (startL k) ∧ Below w.heap.size w w' := by
  have hu34 := Try.underlying34
  have hu64 := Try.underlying64
  have hu66 := Try.underlying66
  obtain ⟨n, hn⟩ : ∃ n, n = (B.varsU k).length := ⟨_, rfl⟩
  have hn10 : n ≤ 10 := by have := varsU_len k; omega
  have HN := Aside0.mk hn
  clear hn
  go_enter Try.func24, Try.ntmps24
  go_wp2_with (go_at_call 21; refine (rvars_calls _ _).mono ?_; rintro e w1 ⟨A, c, rfl, hle, hC, hb⟩; rw [← HN.out] at hle hC ⊢; have HC := Aside0.mk hC; have HB := Aside0.mk hb; clear hC hb hle)
  go_loopw [4, 5] (fun v i wr => ∃ j : Nat, j ≤ n ∧ i = .int .i64 j ∧ Aside0 (Kd.R k34 34 wr w1.heap.size (fun _ => True) v ((startL k).take j)) ∧ Aside0 (Below w1.heap.size w1 wr)) (fun _ i _ => n - (intOf i).toNat)
  case atStart => exact ⟨0, Nat.zero_le _, rfl, ⟨Kd.R_nil _ _ _ _ _⟩, ⟨Below.refl _ _⟩⟩
  case round =>
    obtain ⟨j, hj, rfl, HO, HW⟩ := hrel
    by_cases hlt : j < n
    · obtain ⟨ad, x, sv, rfl, hx, hK, hsv, hc0, hci⟩ := kU_at (Kd.C_below HC.out HW.out) j hlt
      have hst := startL_step k j x hx
      obtain ⟨hkd, hki⟩ := varsU_kind k j x hx
      obtain ⟨nm, cl, kd, ini⟩ := x
      simp only at hkd hki hsv hst hc0
      have HST := Aside0.mk hst
      clear hst hx hc0
      have x3 := hci 3 _ (by omega) rfl
      have x12 := hci 12 _ (by omega) rfl
      clear hci
      have hb1 : (0 ≤ (j : Int)) = True := eq_true (by omega)
      have hb2 : ((j : Int) < (n : Int)) = True := eq_true (by omega)
      cases ini with
      | false =>
        obtain rfl := hsv rfl
        clear hsv hki
        have z12 : ∀ o, (wr.alloc o).cell? ⟨(ad.add (j * 16)).block, (ad.add (j * 16)).off + 12, none⟩ = some (.slice none 0 0) := fun o => (World.cell?_alloc_lt wr o ⟨(ad.add (j * 16)).block, (ad.add (j * 16)).off + 12, none⟩ (World.block_lt_of_cell? wr _ x12)).trans x12
        have hw2 : Below wr.heap.size wr (wr.alloc (.cells #[.int .u8 kd, .int .u64 0, .string ⟨#[]⟩] 34)) := below_alloc (Below.refl _ _) _
        have HO2 := Aside0.mk (Kd.R_below HO.out hw2)
        have HW2 := Aside0.mk (below_step HW.out hw2)
        clear hw2 hK
        have hlst : ((startL k).take j).length ≤ 10 := by rw [List.length_take]; omega
        have HLT := Aside0.mk hlst
        clear hlst
        go_wp2_with (first | (at_builtin; refine R_append' k34 (w0 := w1) w1.heap.size rfl (.tmp 36) (.tmp 38) 30 34 _ 32 rfl Try.underlying30 info34 rfl (by decide) (by omega) u4 ((startL k).take j) ⟨kd, 0, ⟨#[]⟩⟩ [.int .u8 kd, .int .u64 0, .string ⟨#[]⟩] (fun _ => True) (fun _ => False) _ rfl rfl ?aG (k34_mkM _ _ _ ⟨kd, 0, ⟨#[]⟩⟩) (fun _ h => h.elim) (fun _ _ => trivial) HO2.out HW2.out HW2.out.size ?aS ?_; (case aG => simp); (case aS => have := HLT.out; omega); intro v3 w3 ho hb hg hat; have HO3 := Aside0.mk ho; have HW3 := Aside0.mk hb; clear ho hb hg hat))
        go_roundw
        case rel => exact ⟨j + 1, by omega, by go_num, ⟨by rw [HST.out]; exact HO3.out⟩, HW3⟩
        case measure => simp [intOf]; omega
      | true =>
        obtain rfl := hki rfl
        clear hki hsv hkd
        obtain ⟨sv2, hse, hsv2⟩ := hK
        have hsv3 : sv = sv2 := by simpa [ucells] using hse
        subst hsv3
        obtain ⟨A2, c2, rfl, hc2, hC2⟩ : ∃ A c, sv = .slice A 1 c ∧ 1 ≤ c ∧ Kd.C k34 wr A 1 [⟨1, 1, ⟨#[]⟩⟩] := by
          rcases hsv2 with ⟨hf, _⟩ | ⟨_, h⟩
          · cases hf
          · exact h
        clear hse hsv2
        obtain ⟨ad2, rfl, hq⟩ := hC2.2.2 (by omega)
        obtain ⟨cs2, _, hK2, hcc⟩ := hq 0 _ rfl
        obtain rfl := k34_open hK2
        have y0 := hcc 0 _ rfl
        have y1 := hcc 1 _ rfl
        have y2 := hcc 2 _ rfl
        rw [Nat.zero_mul, Nat.zero_add] at y0 y1 y2
        have z0 : wr.cell? ad2 = some (.int .u8 1) := by rw [Addr.add_zero'] at y0; exact y0
        have z1 : wr.cell? ⟨ad2.block, ad2.off + 1, none⟩ = some (.int .u64 1) := by rw [← Addr.add_zero' ad2, ← add_field ad2 0 1 (by omega)]; exact y1
        have z2 : wr.cell? ⟨ad2.block, ad2.off + 2, none⟩ = some (.string ⟨#[]⟩) := by rw [← Addr.add_zero' ad2, ← add_field ad2 0 2 (by omega)]; exact y2
        have hlt2 : ad2.block < wr.heap.size := World.block_lt_of_cell? wr _ z0
        clear hcc hq y0 y1 y2 hK2 hC2
        have z12 : ∀ o, (wr.alloc o).cell? ⟨(ad.add (j * 16)).block, (ad.add (j * 16)).off + 12, none⟩ = some (.slice (some ad2) 1 c2) := fun o => (World.cell?_alloc_lt wr o ⟨(ad.add (j * 16)).block, (ad.add (j * 16)).off + 12, none⟩ (World.block_lt_of_cell? wr _ x12)).trans x12
        have t0 : ∀ o, (wr.alloc o).cell? ad2 = some (.int .u8 1) := fun o => (World.cell?_alloc_lt _ _ _ hlt2).trans z0
        have t1 : ∀ o, (wr.alloc o).cell? ⟨ad2.block, ad2.off + 1, none⟩ = some (.int .u64 1) := fun o => (World.cell?_alloc_lt wr o ⟨ad2.block, ad2.off + 1, none⟩ hlt2).trans z1
        have t2 : ∀ o, (wr.alloc o).cell? ⟨ad2.block, ad2.off + 2, none⟩ = some (.string ⟨#[]⟩) := fun o => (World.cell?_alloc_lt wr o ⟨ad2.block, ad2.off + 2, none⟩ hlt2).trans z2
        have hw2 : Below wr.heap.size wr (wr.alloc (.cells #[.int .u8 1, .int .u64 1, .string ⟨#[]⟩] 34)) := below_alloc (Below.refl _ _) _
        have HO2 := Aside0.mk (Kd.R_below HO.out hw2)
        have HW2 := Aside0.mk (below_step HW.out hw2)
        clear hw2 z0 z1 z2
        have hlst : ((startL k).take j).length ≤ 10 := by rw [List.length_take]; omega
        have HLT := Aside0.mk hlst
        clear hlst
        go_wp2_with (first | (at_builtin; refine R_append' k34 (w0 := w1) w1.heap.size rfl (.tmp 36) (.tmp 38) 30 34 _ 32 rfl Try.underlying30 info34 rfl (by decide) (by omega) u4 ((startL k).take j) ⟨1, 1, ⟨#[]⟩⟩ [.int .u8 1, .int .u64 1, .string ⟨#[]⟩] (fun _ => True) (fun _ => False) _ rfl rfl ?aG (k34_mkM _ _ _ ⟨1, 1, ⟨#[]⟩⟩) (fun _ h => h.elim) (fun _ _ => trivial) HO2.out HW2.out HW2.out.size ?aS ?_; (case aG => simp); (case aS => have := HLT.out; omega); intro v3 w3 ho hb hg hat; have HO3 := Aside0.mk ho; have HW3 := Aside0.mk hb; clear ho hb hg hat))
        go_roundw
        case rel => exact ⟨j + 1, by omega, by go_num, ⟨by rw [HST.out]; exact HO3.out⟩, HW3⟩
        case measure => simp [intOf]; omega
    · go_wp2
      go_ret
      refine ⟨_, rfl, ?_, below_step HB.out HW.out⟩
      rw [show startL k = (startL k).take j from (List.take_of_length_le (by rw [startL_len]; have := HN.out; omega)).symm]
      exact Kd.R_lower HO.out HB.out.size

end Go.Proofs.Ytfadafgnahhmdaa.X
