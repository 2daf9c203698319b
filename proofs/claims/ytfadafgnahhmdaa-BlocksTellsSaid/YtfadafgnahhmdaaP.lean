import Derived.Test.YtfadafgnahhmdaaC
import Derived.Maps.OwnOps
import Derived.Maps.Views
import Derived.StringKeys
namespace Go.Proofs.Ytfadafgnahhmdaa.X
open Go.RowKit Go.Proofs.YtfadafgnahhmdaaW.PrintWords Go.Proofs.YtfadafgnahhmdaaW.PrintLast Go.Proofs.YtfadafgnahhmdaaW.PrintMore Go.Proofs.Ytfadafgnahhmdaa.E
attribute [local go_sem] max2_int min2_int max_two min_two max_three min_three max_four min_four
set_option linter.unusedVariables false
set_option linter.unusedSimpArgs false

open Go.Maps (Keyed)
open B (upd)
theorem law9 : Keyed Try.prog 9 := Go.Maps.string_keyed Try.underlying9
theorem zero3 (w : World) : (zeroValue 3).run Try.prog w = .ok (.int .i64 0) w := by kernel_rfl
/-- Block b is a map of at most n entries that tells f's numbers by their names (0 where there is none). -/
def Mp (w : World) (b n : Nat) (f : ByteArray → Int) : Prop :=
  ∃ D : DataW Unit, w.ownsMap Try.prog 9 (plainElem Try.prog 3) b n D ∧ Maps.IsMap D ∧ (∀ s : ByteArray, D.atKey (.string s.data.toList) (.lit (.int .i64 0)) = .lit (.int .i64 (f s))) ∧ ∀ s : ByteArray, (Lit.int .i64 (f s)).wf = true
theorem Mp.mono {w : World} {b n m : Nat} {f : ByteArray → Int} (h : Mp w b n f) (hn : n ≤ m) : Mp w b m f := by
  obtain ⟨D, h1, h2, h3, h4⟩ := h
  exact ⟨D, h1.mono hn, h2, h3, h4⟩
theorem Mp.lt {w : World} {b n : Nat} {f : ByteArray → Int} (h : Mp w b n f) : b < w.heap.size := by
  obtain ⟨D, h1, _⟩ := h
  exact h1.lt
theorem Mp.kept {w w' : World} {b n : Nat} {f : ByteArray → Int} (h : Mp w b n f) {row : Option Nat} (hg : w.grownBy w' row) (hne : some b ≠ row) : Mp w' b n f := by
  obtain ⟨D, h1, h2⟩ := h
  exact ⟨D, h1.kept hg hne, h2⟩
theorem Mp.drewN {w : World} {b n : Nat} {f : ByteArray → Int} (h : Mp w b n f) (q : Nat) : Mp (w.drewN q) b n f := by
  obtain ⟨D, h1, h2⟩ := h
  exact ⟨D, h1, h2⟩
theorem Mp.wf {w : World} {b n : Nat} {f : ByteArray → Int} (h : Mp w b n f) (s : ByteArray) : (Lit.int .i64 (f s)).wf = true := by
  obtain ⟨D, _, _, _, h4⟩ := h
  exact h4 s
theorem Mp.lo {w : World} {b n : Nat} {f : ByteArray → Int} (h : Mp w b n f) (s : ByteArray) : -9223372036854775808 ≤ f s ∧ f s ≤ 9223372036854775807 := by
  have h := h.wf s
  have hmin : IntKind.i64.min = -9223372036854775808 := rfl
  have hmax : IntKind.i64.max = 9223372036854775807 := rfl
  simp only [Lit.wf, Bool.and_eq_true, decide_eq_true_eq] at h
  omega
theorem Mp.made (w : World) : Mp (w.alloc (.map #[] 0)) w.heap.size 0 (fun _ => 0) :=
  ⟨.map [], World.ownsMap_made _ _ _ _, ⟨[], rfl⟩, fun s => rfl, fun _ => (by decide : (Lit.int .i64 0).wf = true)⟩
theorem Mp.look {w : World} {b n : Nat} {f : ByteArray → Int} (h : Mp w b n f) (s : ByteArray) (hs : s.size ≤ maxLen) :
    (Instr.lookup 72 (.map (some b)) (.string s) false).run Try.prog w = .ok (.int .i64 (f s)) w := by
  obtain ⟨D, h1, _, h3, _⟩ := h
  obtain ⟨c, hrun, hat, _⟩ := h1.lookup_int law9 Try.underlying72 Try.underlying3 (zero3 w) (Go.WideMaps.keyOf_string_mk Try.underlying9 hs)
  rw [h3 s] at hat
  injection hat with hat
  injection hat with _ hat
  rw [hrun, hat]
theorem Mp.put {w : World} {b n : Nat} {f : ByteArray → Int} (h : Mp w b n f) (s : ByteArray) (hs : s.size ≤ maxLen) (hn : n < maxLen) (v : Int) (hv : (Lit.int .i64 v).wf = true) :
    ∃ w', (Instr.mapUpdate 72 (.map (some b)) (.string s) (.int .i64 v)).run Try.prog w = .ok () w' ∧ Mp w' b (n + 1) (upd f s v) ∧ w.grownBy w' (some b) := by
  obtain ⟨D, h1, h2, h3, h4⟩ := h
  obtain ⟨w', hrun, ho, hg⟩ := h1.update law9 Try.underlying72 hn (Go.WideMaps.keyOf_string_mk Try.underlying9 hs) (plainElem_int Try.underlying3 hv)
  refine ⟨w', hrun, ⟨_, ho, h2.put _ _, fun t => ?_, fun t => ?_⟩, hg⟩
  · unfold upd
    by_cases ht : t = s
    · subst ht
      rw [if_pos rfl]
      exact Maps.atKey_put_same (k := .string t.data.toList) h2 (by simp [WideAt.IsKeyLit]) _ _
    · rw [if_neg ht]
      rw [Maps.atKey_put_other (fun he => ht ?_)]
      · exact h3 t
      · have hd : t.data = s.data := Array.toList_inj.mp (Lit.string.inj he)
        cases t
        cases s
        exact congrArg ByteArray.mk hd
  · unfold upd
    split
    · exact hv
    · exact h4 t

end Go.Proofs.Ytfadafgnahhmdaa.X

