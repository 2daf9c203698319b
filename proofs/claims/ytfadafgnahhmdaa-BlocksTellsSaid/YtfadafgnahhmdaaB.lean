import Derived.Test.YtfadafgnahhmdaaM
namespace Go.Proofs.Ytfadafgnahhmdaa.X
open Go.RowKit Go.Proofs.YtfadafgnahhmdaaW.PrintWords Go.Proofs.YtfadafgnahhmdaaW.PrintLast Go.Proofs.YtfadafgnahhmdaaW.PrintMore Go.Proofs.Ytfadafgnahhmdaa.E
attribute [local go_sem] max2_int min2_int max_two min_two max_three min_three max_four min_four
set_option linter.unusedVariables false
set_option linter.unusedSimpArgs false

set_option maxHeartbeats 800000 in
set_option maxRecDepth 100000 in
theorem bool_calls (w : World) :
    Calls Try.prog 38 #[.bool true] w fun e w' => e = .returned (.agg #[.int .u8 1, .int .u64 1, .string ⟨#[]⟩]) ∧ Below w.heap.size w w' := by
  have hu34 := Try.underlying34
  go_enter Try.func38, Try.ntmps38
  go_wp2
  exact bodyPost_ret (v := .agg #[.int .u8 1, .int .u64 1, .string ⟨#[]⟩]) (by simp [results, Try.results38, go_sem]) rfl ⟨rfl, below_alloc (below_alloc (Below.refl _ _) _) _⟩
set_option maxHeartbeats 800000 in
set_option maxRecDepth 100000 in
theorem whole_calls (n : Int) (w : World) :
    Calls Try.prog 30 #[.int .i64 n] w fun e w' => e = .returned (.agg #[.int .u8 3, .int .u64 (IntKind.u64.wrap n), .string ⟨#[]⟩]) ∧ Below w.heap.size w w' := by
  have hu34 := Try.underlying34
  go_enter Try.func30, Try.ntmps30
  go_wp2
  exact bodyPost_ret (v := .agg #[.int .u8 3, .int .u64 (IntKind.u64.wrap n), .string ⟨#[]⟩]) (by simp [results, Try.results30, go_sem]) rfl ⟨rfl, below_alloc (Below.refl _ _) _⟩
set_option maxHeartbeats 800000 in
set_option maxRecDepth 100000 in
theorem spanV_calls (n : Int) (w : World) :
    Calls Try.prog 31 #[.int .i64 n] w fun e w' => e = .returned (.agg #[.int .u8 14, .int .u64 (IntKind.u64.wrap n), .string ⟨#[]⟩]) ∧ Below w.heap.size w w' := by
  have hu34 := Try.underlying34
  go_enter Try.func31, Try.ntmps31
  go_wp2
  exact bodyPost_ret (v := .agg #[.int .u8 14, .int .u64 (IntKind.u64.wrap n), .string ⟨#[]⟩]) (by simp [results, Try.results31, go_sem]) rfl ⟨rfl, below_alloc (Below.refl _ _) _⟩
set_option maxHeartbeats 800000 in
set_option maxRecDepth 100000 in
theorem bit_calls (b : Bool) (w : World) :
    Calls Try.prog 25 #[.bool b] w fun e w' => e = .returned (.agg #[.int .u8 1, .int .u64 (if b then 1 else 0), .string ⟨#[]⟩]) ∧ Below w.heap.size w w' := by
  have hu34 := Try.underlying34
  cases b
  · go_enter Try.func25, Try.ntmps25
    go_wp2
    exact bodyPost_ret (v := .agg #[.int .u8 1, .int .u64 0, .string ⟨#[]⟩]) (by simp [results, Try.results25, go_sem]) rfl ⟨rfl, below_alloc (below_alloc (Below.refl _ _) _) _⟩
  · go_enter Try.func25, Try.ntmps25
    go_wp2
    exact bodyPost_ret (v := .agg #[.int .u8 1, .int .u64 1, .string ⟨#[]⟩]) (by simp [results, Try.results25, go_sem]) rfl ⟨rfl, below_alloc (below_alloc (Below.refl _ _) _) _⟩

end Go.Proofs.Ytfadafgnahhmdaa.X

