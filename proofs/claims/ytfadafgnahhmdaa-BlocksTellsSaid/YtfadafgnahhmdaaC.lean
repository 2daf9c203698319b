import Derived.Test.YtfadafgnahhmdaaS
import Derived.WalkSpells
namespace Go.Proofs.Ytfadafgnahhmdaa.X
open Go.RowKit Go.Proofs.YtfadafgnahhmdaaW.PrintWords Go.Proofs.YtfadafgnahhmdaaW.PrintLast Go.Proofs.YtfadafgnahhmdaaW.PrintMore Go.Proofs.Ytfadafgnahhmdaa.E
attribute [local go_sem] max2_int min2_int max_two min_two max_three min_three max_four min_four
set_option linter.unusedVariables false
set_option linter.unusedSimpArgs false

theorem R_lit0 (W : World) (base : Nat) (hb : base ≤ W.heap.size) : Kd.R k34 34 (W.alloc (.cells #[] 34)) base (fun _ => True) (.slice (some ⟨W.heap.size, 0, none⟩) 0 0) [] :=
  ⟨fun _ _ => trivial, OwnRow.lit (ps := ([] : List S34)) W base (inner := []) (Reps.none _ _) hb (by simp)⟩
set_option maxHeartbeats 800000 in
set_option maxRecDepth 100000 in
theorem clone_calls (A : Option Addr) (n cp : Nat) (l : List S34) (w : World) (hr : Kd.C k34 w A n l) (hl : n * 32 ≤ 140737488355328) :
    Calls Try.prog 27 #[.slice A n cp] w fun e w' => ∃ v : Value, e = .returned v ∧ Kd.R k34 34 w' w.heap.size (fun _ => True) v l ∧ Below w.heap.size w w' := by
  have q30 : ∀ (w : World) (a : Option Addr) (n c n' c' : Nat), (binOp .eql 30 (.slice a n c) (.slice none n' c')).run Try.prog w = .ok (.bool a.isNone) w := fun w a n c n' c' => Lib.run_eql_slice_nil w _ _ a n c n' c' Try.underlying30
  cases A with
  | none =>
    have hn : n = 0 := by
      rcases Nat.eq_zero_or_pos n with h | h
      · exact h
      · obtain ⟨_, h2, _⟩ := hr.2.2 h; cases h2
    have hl0 : l = [] := List.eq_nil_of_length_eq_zero (hr.1.trans hn)
    subst hl0
    clear hr hl
    go_enter Try.func27, Try.ntmps27
    go_wp2
    go_ret
    exact ⟨_, rfl, Kd.R_nil _ _ _ _ _, Below.refl _ _⟩
  | some ad =>
    have HR := Aside0.mk hr
    have HL := Aside0.mk hl
    clear hr hl
    have h0 : (Option.isNone (some ad)) = false := rfl
    go_enter Try.func27, Try.ntmps27
    go_wp2_with (first | (at_builtin; refine Kd.R_append_rows k34 (Rr := fun x cs => k34.M w w.heap.size (fun _ => False) x cs) (w0 := w) w.heap.size rfl (.tmp 5) (.tmp 6) 30 34 _ 32 rfl Try.underlying30 info34 rfl (by decide) (by omega) (.slice (some ⟨w.heap.size, 0, none⟩) 0 0) [] l (some ad) n cp (fun _ => True) (fun _ => False) rfl rfl (R_lit0 w w.heap.size (Nat.le_refl _)) ?aR ?aM (fun _ h => h.elim) (fun _ _ => trivial) (below_alloc (Below.refl _ _) _) ?aH ?aS ?_; (case aR => exact ReadsRow.imp_ HR.out (below_alloc (Below.refl _ _) _) (fun x cs h => k34_open h ▸ k34_mkM _ _ _ x)); (case aM => exact fun x cs h => k34_openM h ▸ k34_mkM _ _ _ x); (case aH => simp); (case aS => have := HL.out; simp; omega); intro v1 w1 ho hb hg hat; have HO1 := Aside0.mk ho; have HB1 := Aside0.mk hb; clear ho hb hg hat))
    go_ret
    exact ⟨_, rfl, by simpa using HO1.out, HB1.out⟩

end Go.Proofs.Ytfadafgnahhmdaa.X

