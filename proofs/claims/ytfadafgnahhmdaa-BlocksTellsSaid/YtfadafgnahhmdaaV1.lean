import Derived.Test.YtfadafgnahhmdaaV0
namespace Go.Proofs.Ytfadafgnahhmdaa.X
open Go.RowKit Go.Proofs.YtfadafgnahhmdaaW.PrintWords Go.Proofs.YtfadafgnahhmdaaW.PrintLast Go.Proofs.YtfadafgnahhmdaaW.PrintMore Go.Proofs.Ytfadafgnahhmdaa.E
attribute [local go_sem] max2_int min2_int max_two min_two max_three min_three max_four min_four
set_option linter.unusedVariables false
set_option linter.unusedSimpArgs false

set_option maxHeartbeats 1600000 in
set_option maxRecDepth 100000 in
theorem vars1_calls (w : World) :
    Calls Try.prog 20 #[.int .i64 1] w fun e w' => ∃ v : Value, e = .returned v ∧ Aside0 (Kd.R kV 66 w' w.heap.size (fun _ => True) v (B.vars 1)) ∧ Aside0 (Below w.heap.size w w') := by
  have HR0 := Aside0.mk (Rows.nil (W := w))
  have HB0 := Aside0.mk (Below.refl w.heap.size w)
  go_enter Try.func20, Try.ntmps20
  go_wp2_with fail
  with_reducible refine (of_next HR0 HB0 1 1 [(⟨#[83, 49]⟩ : ByteArray), (⟨#[82]⟩ : ByteArray)] _ _ ?h1 ?h2 ?h3).mono ?_
  case h1 => rfl
  case h2 => rfl
  case h3 => decide
  rintro e w1 ⟨A1, c1, rfl, HR1, HB1⟩
  simp only [List.nil_append, List.cons_append] at HR1
  go_wp2_with fail
  with_reducible refine (of_next HR1 HB1 2 1 [(⟨#[81, 49]⟩ : ByteArray)] _ _ ?h1 ?h2 ?h3).mono ?_
  case h1 => rfl
  case h2 => rfl
  case h3 => decide
  rintro e w2 ⟨A2, c2, rfl, HR2, HB2⟩
  simp only [List.nil_append, List.cons_append] at HR2
  go_wp2_with fail
  with_reducible refine (concat_last HR2 HB2 _ _ ?h1 ?h2 ?h3 ?h4 (B.vars 1) ?h5).mono ?_
  case h1 => rfl
  case h2 => rfl
  case h3 => decide
  case h4 => decide
  case h5 => rfl
  rintro e w' ⟨v, rfl, HR, HB⟩
  go_wp2
  go_ret
  exact ⟨_, rfl, HR, HB⟩
set_option maxHeartbeats 1600000 in
set_option maxRecDepth 100000 in
theorem vars2_calls (w : World) :
    Calls Try.prog 20 #[.int .i64 2] w fun e w' => ∃ v : Value, e = .returned v ∧ Aside0 (Kd.R kV 66 w' w.heap.size (fun _ => True) v (B.vars 2)) ∧ Aside0 (Below w.heap.size w w') := by
  have HR0 := Aside0.mk (Rows.nil (W := w))
  have HB0 := Aside0.mk (Below.refl w.heap.size w)
  go_enter Try.func20, Try.ntmps20
  go_wp2_with fail
  with_reducible refine (of_next HR0 HB0 1 1 [(⟨#[83]⟩ : ByteArray), (⟨#[82, 49]⟩ : ByteArray)] _ _ ?h1 ?h2 ?h3).mono ?_
  case h1 => rfl
  case h2 => rfl
  case h3 => decide
  rintro e w1 ⟨A1, c1, rfl, HR1, HB1⟩
  simp only [List.nil_append, List.cons_append] at HR1
  go_wp2_with fail
  with_reducible refine (of_next HR1 HB1 2 1 [(⟨#[81, 49]⟩ : ByteArray)] _ _ ?h1 ?h2 ?h3).mono ?_
  case h1 => rfl
  case h2 => rfl
  case h3 => decide
  rintro e w2 ⟨A2, c2, rfl, HR2, HB2⟩
  simp only [List.nil_append, List.cons_append] at HR2
  go_wp2_with fail
  with_reducible refine (concat_last HR2 HB2 _ _ ?h1 ?h2 ?h3 ?h4 (B.vars 2) ?h5).mono ?_
  case h1 => rfl
  case h2 => rfl
  case h3 => decide
  case h4 => decide
  case h5 => rfl
  rintro e w' ⟨v, rfl, HR, HB⟩
  go_wp2
  go_ret
  exact ⟨_, rfl, HR, HB⟩
set_option maxHeartbeats 1600000 in
set_option maxRecDepth 100000 in
theorem vars3_calls (w : World) :
    Calls Try.prog 20 #[.int .i64 3] w fun e w' => ∃ v : Value, e = .returned v ∧ Aside0 (Kd.R kV 66 w' w.heap.size (fun _ => True) v (B.vars 3)) ∧ Aside0 (Below w.heap.size w w') := by
  have HR0 := Aside0.mk (Rows.nil (W := w))
  have HB0 := Aside0.mk (Below.refl w.heap.size w)
  go_enter Try.func20, Try.ntmps20
  go_wp2_with fail
  with_reducible refine (of_next HR0 HB0 1 1 [(⟨#[67, 76, 75]⟩ : ByteArray)] _ _ ?h1 ?h2 ?h3).mono ?_
  case h1 => rfl
  case h2 => rfl
  case h3 => decide
  rintro e w1 ⟨A1, c1, rfl, HR1, HB1⟩
  simp only [List.nil_append, List.cons_append] at HR1
  go_wp2_with fail
  with_reducible refine (of_next HR1 HB1 2 1 [(⟨#[81]⟩ : ByteArray)] _ _ ?h1 ?h2 ?h3).mono ?_
  case h1 => rfl
  case h2 => rfl
  case h3 => decide
  rintro e w2 ⟨A2, c2, rfl, HR2, HB2⟩
  simp only [List.nil_append, List.cons_append] at HR2
  go_wp2_with fail
  with_reducible refine (of_next HR2 HB2 4 1 [(⟨#[77]⟩ : ByteArray)] _ _ ?h1 ?h2 ?h3).mono ?_
  case h1 => rfl
  case h2 => rfl
  case h3 => decide
  rintro e w3 ⟨A3, c3, rfl, HR3, HB3⟩
  simp only [List.nil_append, List.cons_append] at HR3
  go_wp2_with fail
  with_reducible refine (concat_last HR3 HB3 _ _ ?h1 ?h2 ?h3 ?h4 (B.vars 3) ?h5).mono ?_
  case h1 => rfl
  case h2 => rfl
  case h3 => decide
  case h4 => decide
  case h5 => rfl
  rintro e w' ⟨v, rfl, HR, HB⟩
  go_wp2
  go_ret
  exact ⟨_, rfl, HR, HB⟩
set_option maxHeartbeats 1600000 in
set_option maxRecDepth 100000 in
theorem vars5_calls (w : World) :
    Calls Try.prog 20 #[.int .i64 5] w fun e w' => ∃ v : Value, e = .returned v ∧ Aside0 (Kd.R kV 66 w' w.heap.size (fun _ => True) v (B.vars 5)) ∧ Aside0 (Below w.heap.size w w') := by
  have HR0 := Aside0.mk (Rows.nil (W := w))
  have HB0 := Aside0.mk (Below.refl w.heap.size w)
  go_enter Try.func20, Try.ntmps20
  go_wp2_with fail
  with_reducible refine (of_next HR0 HB0 1 1 [(⟨#[67, 85]⟩ : ByteArray), (⟨#[82]⟩ : ByteArray)] _ _ ?h1 ?h2 ?h3).mono ?_
  case h1 => rfl
  case h2 => rfl
  case h3 => decide
  rintro e w1 ⟨A1, c1, rfl, HR1, HB1⟩
  simp only [List.nil_append, List.cons_append] at HR1
  go_wp2_with fail
  with_reducible refine (of_next HR1 HB1 1 3 [(⟨#[80, 86]⟩ : ByteArray)] _ _ ?h1 ?h2 ?h3).mono ?_
  case h1 => rfl
  case h2 => rfl
  case h3 => decide
  rintro e w2 ⟨A2, c2, rfl, HR2, HB2⟩
  simp only [List.nil_append, List.cons_append] at HR2
  go_wp2_with fail
  with_reducible refine (of_next HR2 HB2 2 1 [(⟨#[81]⟩ : ByteArray)] _ _ ?h1 ?h2 ?h3).mono ?_
  case h1 => rfl
  case h2 => rfl
  case h3 => decide
  rintro e w3 ⟨A3, c3, rfl, HR3, HB3⟩
  simp only [List.nil_append, List.cons_append] at HR3
  go_wp2_with fail
  with_reducible refine (of_next HR3 HB3 2 3 [(⟨#[67, 86]⟩ : ByteArray)] _ _ ?h1 ?h2 ?h3).mono ?_
  case h1 => rfl
  case h2 => rfl
  case h3 => decide
  rintro e w4 ⟨A4, c4, rfl, HR4, HB4⟩
  simp only [List.nil_append, List.cons_append] at HR4
  go_wp2_with fail
  with_reducible refine (of_next HR4 HB4 4 1 [(⟨#[77]⟩ : ByteArray)] _ _ ?h1 ?h2 ?h3).mono ?_
  case h1 => rfl
  case h2 => rfl
  case h3 => decide
  rintro e w5 ⟨A5, c5, rfl, HR5, HB5⟩
  simp only [List.nil_append, List.cons_append] at HR5
  go_wp2_with fail
  with_reducible refine (concat_last HR5 HB5 _ _ ?h1 ?h2 ?h3 ?h4 (B.vars 5) ?h5).mono ?_
  case h1 => rfl
  case h2 => rfl
  case h3 => decide
  case h4 => decide
  case h5 => rfl
  rintro e w' ⟨v, rfl, HR, HB⟩
  go_wp2
  go_ret
  exact ⟨_, rfl, HR, HB⟩
set_option maxHeartbeats 1600000 in
set_option maxRecDepth 100000 in
theorem vars6_calls (w : World) :
    Calls Try.prog 20 #[.int .i64 6] w fun e w' => ∃ v : Value, e = .returned v ∧ Aside0 (Kd.R kV 66 w' w.heap.size (fun _ => True) v (B.vars 6)) ∧ Aside0 (Below w.heap.size w w') := by
  have HR0 := Aside0.mk (Rows.nil (W := w))
  have HB0 := Aside0.mk (Below.refl w.heap.size w)
  go_enter Try.func20, Try.ntmps20
  go_wp2_with fail
  with_reducible refine (of_next HR0 HB0 1 1 [(⟨#[67, 68]⟩ : ByteArray), (⟨#[76, 68]⟩ : ByteArray)] _ _ ?h1 ?h2 ?h3).mono ?_
  case h1 => rfl
  case h2 => rfl
  case h3 => decide
  rintro e w1 ⟨A1, c1, rfl, HR1, HB1⟩
  simp only [List.nil_append, List.cons_append] at HR1
  go_wp2_with fail
  with_reducible refine (of_next HR1 HB1 1 3 [(⟨#[80, 86]⟩ : ByteArray)] _ _ ?h1 ?h2 ?h3).mono ?_
  case h1 => rfl
  case h2 => rfl
  case h3 => decide
  rintro e w2 ⟨A2, c2, rfl, HR2, HB2⟩
  simp only [List.nil_append, List.cons_append] at HR2
  go_wp2_with fail
  with_reducible refine (of_next HR2 HB2 2 1 [(⟨#[81]⟩ : ByteArray)] _ _ ?h1 ?h2 ?h3).mono ?_
  case h1 => rfl
  case h2 => rfl
  case h3 => decide
  rintro e w3 ⟨A3, c3, rfl, HR3, HB3⟩
  simp only [List.nil_append, List.cons_append] at HR3
  go_wp2_with fail
  with_reducible refine (of_next HR3 HB3 2 3 [(⟨#[67, 86]⟩ : ByteArray)] _ _ ?h1 ?h2 ?h3).mono ?_
  case h1 => rfl
  case h2 => rfl
  case h3 => decide
  rintro e w4 ⟨A4, c4, rfl, HR4, HB4⟩
  simp only [List.nil_append, List.cons_append] at HR4
  go_wp2_with fail
  with_reducible refine (of_next HR4 HB4 4 1 [(⟨#[77]⟩ : ByteArray)] _ _ ?h1 ?h2 ?h3).mono ?_
  case h1 => rfl
  case h2 => rfl
  case h3 => decide
  rintro e w5 ⟨A5, c5, rfl, HR5, HB5⟩
  simp only [List.nil_append, List.cons_append] at HR5
  go_wp2_with fail
  with_reducible refine (concat_last HR5 HB5 _ _ ?h1 ?h2 ?h3 ?h4 (B.vars 6) ?h5).mono ?_
  case h1 => rfl
  case h2 => rfl
  case h3 => decide
  case h4 => decide
  case h5 => rfl
  rintro e w' ⟨v, rfl, HR, HB⟩
  go_wp2
  go_ret
  exact ⟨_, rfl, HR, HB⟩
set_option maxHeartbeats 1600000 in
set_option maxRecDepth 100000 in
theorem vars7_calls (w : World) :
    Calls Try.prog 20 #[.int .i64 7] w fun e w' => ∃ v : Value, e = .returned v ∧ Aside0 (Kd.R kV 66 w' w.heap.size (fun _ => True) v (B.vars 7)) ∧ Aside0 (Below w.heap.size w w') := by
  have HR0 := Aside0.mk (Rows.nil (W := w))
  have HB0 := Aside0.mk (Below.refl w.heap.size w)
  go_enter Try.func20, Try.ntmps20
  go_wp2_with fail
  with_reducible refine (of_next HR0 HB0 1 1 [(⟨#[67, 85]⟩ : ByteArray), (⟨#[67, 68]⟩ : ByteArray), (⟨#[82]⟩ : ByteArray), (⟨#[76, 68]⟩ : ByteArray)] _ _ ?h1 ?h2 ?h3).mono ?_
  case h1 => rfl
  case h2 => rfl
  case h3 => decide
  rintro e w1 ⟨A1, c1, rfl, HR1, HB1⟩
  simp only [List.nil_append, List.cons_append] at HR1
  go_wp2_with fail
  with_reducible refine (of_next HR1 HB1 1 3 [(⟨#[80, 86]⟩ : ByteArray)] _ _ ?h1 ?h2 ?h3).mono ?_
  case h1 => rfl
  case h2 => rfl
  case h3 => decide
  rintro e w2 ⟨A2, c2, rfl, HR2, HB2⟩
  simp only [List.nil_append, List.cons_append] at HR2
  go_wp2_with fail
  with_reducible refine (of_next HR2 HB2 2 1 [(⟨#[81, 85]⟩ : ByteArray), (⟨#[81, 68]⟩ : ByteArray)] _ _ ?h1 ?h2 ?h3).mono ?_
  case h1 => rfl
  case h2 => rfl
  case h3 => decide
  rintro e w3 ⟨A3, c3, rfl, HR3, HB3⟩
  simp only [List.nil_append, List.cons_append] at HR3
  go_wp2_with fail
  with_reducible refine (of_next HR3 HB3 2 3 [(⟨#[67, 86]⟩ : ByteArray)] _ _ ?h1 ?h2 ?h3).mono ?_
  case h1 => rfl
  case h2 => rfl
  case h3 => decide
  rintro e w4 ⟨A4, c4, rfl, HR4, HB4⟩
  simp only [List.nil_append, List.cons_append] at HR4
  go_wp2_with fail
  with_reducible refine (of_next HR4 HB4 4 1 [(⟨#[77]⟩ : ByteArray), (⟨#[78]⟩ : ByteArray)] _ _ ?h1 ?h2 ?h3).mono ?_
  case h1 => rfl
  case h2 => rfl
  case h3 => decide
  rintro e w5 ⟨A5, c5, rfl, HR5, HB5⟩
  simp only [List.nil_append, List.cons_append] at HR5
  go_wp2_with fail
  with_reducible refine (concat_last HR5 HB5 _ _ ?h1 ?h2 ?h3 ?h4 (B.vars 7) ?h5).mono ?_
  case h1 => rfl
  case h2 => rfl
  case h3 => decide
  case h4 => decide
  case h5 => rfl
  rintro e w' ⟨v, rfl, HR, HB⟩
  go_wp2
  go_ret
  exact ⟨_, rfl, HR, HB⟩
set_option maxHeartbeats 1600000 in
set_option maxRecDepth 100000 in
theorem vars8_calls (w : World) :
    Calls Try.prog 20 #[.int .i64 8] w fun e w' => ∃ v : Value, e = .returned v ∧ Aside0 (Kd.R kV 66 w' w.heap.size (fun _ => True) v (B.vars 8)) ∧ Aside0 (Below w.heap.size w w') := by
  have HR0 := Aside0.mk (Rows.nil (W := w))
  have HB0 := Aside0.mk (Below.refl w.heap.size w)
  go_enter Try.func20, Try.ntmps20
  go_wp2_with fail
  with_reducible refine (of_next HR0 HB0 1 1 [(⟨#[73, 78]⟩ : ByteArray)] _ _ ?h1 ?h2 ?h3).mono ?_
  case h1 => rfl
  case h2 => rfl
  case h3 => decide
  rintro e w1 ⟨A1, c1, rfl, HR1, HB1⟩
  simp only [List.nil_append, List.cons_append] at HR1
  go_wp2_with fail
  with_reducible refine (of_next HR1 HB1 1 14 [(⟨#[80, 84]⟩ : ByteArray)] _ _ ?h1 ?h2 ?h3).mono ?_
  case h1 => rfl
  case h2 => rfl
  case h3 => decide
  rintro e w2 ⟨A2, c2, rfl, HR2, HB2⟩
  simp only [List.nil_append, List.cons_append] at HR2
  go_wp2_with fail
  with_reducible refine (of_next HR2 HB2 2 1 [(⟨#[81]⟩ : ByteArray)] _ _ ?h1 ?h2 ?h3).mono ?_
  case h1 => rfl
  case h2 => rfl
  case h3 => decide
  rintro e w3 ⟨A3, c3, rfl, HR3, HB3⟩
  simp only [List.nil_append, List.cons_append] at HR3
  go_wp2_with fail
  with_reducible refine (of_next HR3 HB3 2 14 [(⟨#[69, 84]⟩ : ByteArray)] _ _ ?h1 ?h2 ?h3).mono ?_
  case h1 => rfl
  case h2 => rfl
  case h3 => decide
  rintro e w4 ⟨A4, c4, rfl, HR4, HB4⟩
  simp only [List.nil_append, List.cons_append] at HR4
  go_wp2_with fail
  with_reducible refine (of_next HR4 HB4 4 1 [(⟨#[77]⟩ : ByteArray)] _ _ ?h1 ?h2 ?h3).mono ?_
  case h1 => rfl
  case h2 => rfl
  case h3 => decide
  rintro e w5 ⟨A5, c5, rfl, HR5, HB5⟩
  simp only [List.nil_append, List.cons_append] at HR5
  go_wp2_with fail
  with_reducible refine (of_next HR5 HB5 4 14 [(⟨#[83]⟩ : ByteArray)] _ _ ?h1 ?h2 ?h3).mono ?_
  case h1 => rfl
  case h2 => rfl
  case h3 => decide
  rintro e w6 ⟨A6, c6, rfl, HR6, HB6⟩
  simp only [List.nil_append, List.cons_append] at HR6
  go_wp2_with fail
  with_reducible refine (concat_last HR6 HB6 _ _ ?h1 ?h2 ?h3 ?h4 (B.vars 8) ?h5).mono ?_
  case h1 => rfl
  case h2 => rfl
  case h3 => decide
  case h4 => decide
  case h5 => rfl
  rintro e w' ⟨v, rfl, HR, HB⟩
  go_wp2
  go_ret
  exact ⟨_, rfl, HR, HB⟩
set_option maxHeartbeats 1600000 in
set_option maxRecDepth 100000 in
theorem vars9_calls (w : World) :
    Calls Try.prog 20 #[.int .i64 9] w fun e w' => ∃ v : Value, e = .returned v ∧ Aside0 (Kd.R kV 66 w' w.heap.size (fun _ => True) v (B.vars 9)) ∧ Aside0 (Below w.heap.size w w') := by
  have HR0 := Aside0.mk (Rows.nil (W := w))
  have HB0 := Aside0.mk (Below.refl w.heap.size w)
  go_enter Try.func20, Try.ntmps20
  go_wp2_with fail
  with_reducible refine (of_next HR0 HB0 1 1 [(⟨#[73, 78]⟩ : ByteArray)] _ _ ?h1 ?h2 ?h3).mono ?_
  case h1 => rfl
  case h2 => rfl
  case h3 => decide
  rintro e w1 ⟨A1, c1, rfl, HR1, HB1⟩
  simp only [List.nil_append, List.cons_append] at HR1
  go_wp2_with fail
  with_reducible refine (of_next HR1 HB1 1 14 [(⟨#[80, 84]⟩ : ByteArray)] _ _ ?h1 ?h2 ?h3).mono ?_
  case h1 => rfl
  case h2 => rfl
  case h3 => decide
  rintro e w2 ⟨A2, c2, rfl, HR2, HB2⟩
  simp only [List.nil_append, List.cons_append] at HR2
  go_wp2_with fail
  with_reducible refine (of_next HR2 HB2 2 1 [(⟨#[81]⟩ : ByteArray)] _ _ ?h1 ?h2 ?h3).mono ?_
  case h1 => rfl
  case h2 => rfl
  case h3 => decide
  rintro e w3 ⟨A3, c3, rfl, HR3, HB3⟩
  simp only [List.nil_append, List.cons_append] at HR3
  go_wp2_with fail
  with_reducible refine (of_next HR3 HB3 2 14 [(⟨#[69, 84]⟩ : ByteArray)] _ _ ?h1 ?h2 ?h3).mono ?_
  case h1 => rfl
  case h2 => rfl
  case h3 => decide
  rintro e w4 ⟨A4, c4, rfl, HR4, HB4⟩
  simp only [List.nil_append, List.cons_append] at HR4
  go_wp2_with fail
  with_reducible refine (of_next HR4 HB4 4 1 [(⟨#[77]⟩ : ByteArray)] _ _ ?h1 ?h2 ?h3).mono ?_
  case h1 => rfl
  case h2 => rfl
  case h3 => decide
  rintro e w5 ⟨A5, c5, rfl, HR5, HB5⟩
  simp only [List.nil_append, List.cons_append] at HR5
  go_wp2_with fail
  with_reducible refine (of_next HR5 HB5 4 14 [(⟨#[83]⟩ : ByteArray)] _ _ ?h1 ?h2 ?h3).mono ?_
  case h1 => rfl
  case h2 => rfl
  case h3 => decide
  rintro e w6 ⟨A6, c6, rfl, HR6, HB6⟩
  simp only [List.nil_append, List.cons_append] at HR6
  go_wp2_with fail
  with_reducible refine (concat_last HR6 HB6 _ _ ?h1 ?h2 ?h3 ?h4 (B.vars 9) ?h5).mono ?_
  case h1 => rfl
  case h2 => rfl
  case h3 => decide
  case h4 => decide
  case h5 => rfl
  rintro e w' ⟨v, rfl, HR, HB⟩
  go_wp2
  go_ret
  exact ⟨_, rfl, HR, HB⟩
set_option maxHeartbeats 1600000 in
set_option maxRecDepth 100000 in
theorem vars10_calls (w : World) :
    Calls Try.prog 20 #[.int .i64 10] w fun e w' => ∃ v : Value, e = .returned v ∧ Aside0 (Kd.R kV 66 w' w.heap.size (fun _ => True) v (B.vars 10)) ∧ Aside0 (Below w.heap.size w w') := by
  have HR0 := Aside0.mk (Rows.nil (W := w))
  have HB0 := Aside0.mk (Below.refl w.heap.size w)
  go_enter Try.func20, Try.ntmps20
  go_wp2_with fail
  with_reducible refine (of_next HR0 HB0 1 1 [(⟨#[73, 78]⟩ : ByteArray)] _ _ ?h1 ?h2 ?h3).mono ?_
  case h1 => rfl
  case h2 => rfl
  case h3 => decide
  rintro e w1 ⟨A1, c1, rfl, HR1, HB1⟩
  simp only [List.nil_append, List.cons_append] at HR1
  go_wp2_with fail
  with_reducible refine (of_next HR1 HB1 1 14 [(⟨#[80, 84]⟩ : ByteArray)] _ _ ?h1 ?h2 ?h3).mono ?_
  case h1 => rfl
  case h2 => rfl
  case h3 => decide
  rintro e w2 ⟨A2, c2, rfl, HR2, HB2⟩
  simp only [List.nil_append, List.cons_append] at HR2
  go_wp2_with fail
  with_reducible refine (of_next HR2 HB2 2 1 [(⟨#[81]⟩ : ByteArray)] _ _ ?h1 ?h2 ?h3).mono ?_
  case h1 => rfl
  case h2 => rfl
  case h3 => decide
  rintro e w3 ⟨A3, c3, rfl, HR3, HB3⟩
  simp only [List.nil_append, List.cons_append] at HR3
  go_wp2_with fail
  with_reducible refine (of_next HR3 HB3 2 14 [(⟨#[69, 84]⟩ : ByteArray)] _ _ ?h1 ?h2 ?h3).mono ?_
  case h1 => rfl
  case h2 => rfl
  case h3 => decide
  rintro e w4 ⟨A4, c4, rfl, HR4, HB4⟩
  simp only [List.nil_append, List.cons_append] at HR4
  go_wp2_with fail
  with_reducible refine (of_next HR4 HB4 4 1 [(⟨#[77]⟩ : ByteArray)] _ _ ?h1 ?h2 ?h3).mono ?_
  case h1 => rfl
  case h2 => rfl
  case h3 => decide
  rintro e w5 ⟨A5, c5, rfl, HR5, HB5⟩
  simp only [List.nil_append, List.cons_append] at HR5
  go_wp2_with fail
  with_reducible refine (of_next HR5 HB5 4 14 [(⟨#[83]⟩ : ByteArray)] _ _ ?h1 ?h2 ?h3).mono ?_
  case h1 => rfl
  case h2 => rfl
  case h3 => decide
  rintro e w6 ⟨A6, c6, rfl, HR6, HB6⟩
  simp only [List.nil_append, List.cons_append] at HR6
  go_wp2_with fail
  with_reducible refine (concat_last HR6 HB6 _ _ ?h1 ?h2 ?h3 ?h4 (B.vars 10) ?h5).mono ?_
  case h1 => rfl
  case h2 => rfl
  case h3 => decide
  case h4 => decide
  case h5 => rfl
  rintro e w' ⟨v, rfl, HR, HB⟩
  go_wp2
  go_ret
  exact ⟨_, rfl, HR, HB⟩

end Go.Proofs.Ytfadafgnahhmdaa.X

