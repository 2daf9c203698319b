import Derived.Test.YtfadafgnahhmdaaP
namespace Go.Proofs.Ytfadafgnahhmdaa.X
open Go.RowKit Go.Proofs.YtfadafgnahhmdaaW.PrintWords Go.Proofs.YtfadafgnahhmdaaW.PrintLast Go.Proofs.YtfadafgnahhmdaaW.PrintMore Go.Proofs.Ytfadafgnahhmdaa.E
attribute [local go_sem] max2_int min2_int max_two min_two max_three min_three max_four min_four
set_option linter.unusedVariables false
set_option linter.unusedSimpArgs false

open B (upd)
/-- The block's state in memory: its map and the time. -/
def St (w : World) (sb mb n : Nat) (f : ByteArray → Int) (now : Int) : Prop := w.heap[sb]? = some (.cells #[.map (some mb), .int .i64 now] 74 (0, 0)) ∧ Mp w mb n f
theorem St.mono {w : World} {sb mb n m : Nat} {f : ByteArray → Int} {now : Int} (h : St w sb mb n f now) (hn : n ≤ m) : St w sb mb m f now := ⟨h.1, h.2.mono hn⟩
theorem St.c0 {w : World} {sb mb n : Nat} {f : ByteArray → Int} {now : Int} (h : St w sb mb n f now) : w.cell? ⟨sb, 0, none⟩ = some (.map (some mb)) := (blk_cell h.1 0).trans rfl
theorem St.c1 {w : World} {sb mb n : Nat} {f : ByteArray → Int} {now : Int} (h : St w sb mb n f now) : w.cell? ⟨sb, 1, none⟩ = some (.int .i64 now) := (blk_cell h.1 1).trans rfl
theorem St.ne {w : World} {sb mb n : Nat} {f : ByteArray → Int} {now : Int} (h : St w sb mb n f now) : sb ≠ mb := by
  rintro rfl
  obtain ⟨h1, D, ⟨es, cl, h2, _⟩, _⟩ := h
  rw [h1] at h2
  cases h2
theorem St.put {w : World} {sb mb n : Nat} {f : ByteArray → Int} {now : Int} (h : St w sb mb n f now) (hn : n ≤ 1000) (s : ByteArray) (hs : s.size ≤ maxLen) (v : Int) (hv : (Lit.int .i64 v).wf = true) :
    ∃ w', (Instr.mapUpdate 72 (.map (some mb)) (.string s) (.int .i64 v)).run Try.prog w = .ok () w' ∧ St w' sb mb (n + 1) (upd f s v) now ∧ w.grownBy w' (some mb) := by
  obtain ⟨w', hrun, hm, hg⟩ := h.2.put s hs (by unfold maxLen; omega) v hv
  refine ⟨w', hrun, ⟨(hg.block sb (blk_lt h.1) (fun e => h.ne (by injection e))).trans h.1, hm⟩, hg⟩
theorem St.drewN {w : World} {sb mb n : Nat} {f : ByteArray → Int} {now : Int} (h : St w sb mb n f now) (q : Nat) : St (w.drewN q) sb mb n f now := ⟨h.1, h.2.drewN q⟩
theorem St.look {w : World} {sb mb n : Nat} {f : ByteArray → Int} {now : Int} (h : St w sb mb n f now) (s : ByteArray) (hs : s.size ≤ maxLen) (q : Nat) :
    (Instr.lookup 72 (.map (some mb)) (.string s) false).run Try.prog (w.drewN q) = .ok (.int .i64 (f s)) (w.drewN q) := (h.2.drewN q).look s hs
theorem St.look0 {w : World} {sb mb n : Nat} {f : ByteArray → Int} {now : Int} (h : St w sb mb n f now) (s : ByteArray) (hs : s.size ≤ maxLen) :
    (Instr.lookup 72 (.map (some mb)) (.string s) false).run Try.prog w = .ok (.int .i64 (f s)) w := h.2.look s hs
theorem grown_trans {w w1 w2 : World} {row : Option Nat} (h : w.grownBy w1 row) (k : w1.grownBy w2 row) : w.grownBy w2 row := World.grownBy.trans h k
set_option maxHeartbeats 800000 in
set_option maxRecDepth 100000 in
theorem on_calls {w : World} {sb mb n : Nat} {f : ByteArray → Int} {now : Int} (h : St w sb mb n f now) (s : ByteArray) (hs : s.size ≤ maxLen) :
    Calls Try.prog 76 #[.pointer (some ⟨sb, 0, none⟩), .string s] w fun e w' => e = .returned (.bool (f s == 1)) ∧ w = w' := by
  have hu74 := Try.underlying74
  have c0 := h.c0
  have hl := h.look0 s hs
  clear h
  go_enter Try.func76, Try.ntmps76
  go_wp2
  go_ret
  exact ⟨rfl, rfl⟩
theorem upd_upd (f : ByteArray → Int) (s : ByteArray) (u v : Int) : upd (upd f s u) s v = upd f s v := by
  funext t
  unfold upd
  split <;> rfl
set_option maxHeartbeats 800000 in
set_option maxRecDepth 100000 in
theorem set_calls {w : World} {sb mb n : Nat} {f : ByteArray → Int} {now : Int} (h : St w sb mb n f now) (hn : n ≤ 900) (s : ByteArray) (hs : s.size ≤ maxLen) (b : Bool) :
    Calls Try.prog 75 #[.pointer (some ⟨sb, 0, none⟩), .string s, .bool b] w fun e w' => e = .returned (.tuple #[]) ∧ St w' sb mb (n + 2) (upd f s (if b then 1 else 0)) now ∧ w.grownBy w' (some mb) := by
  have hu74 := Try.underlying74
  obtain ⟨w1, r1, h1, g1⟩ := h.put (by omega) s hs 0 (by decide)
  obtain ⟨w2, r2, h2, g2⟩ := h1.put (by omega) s hs 1 (by decide)
  have c0 := h.c0
  have d0 := h1.c0
  rw [upd_upd] at h2
  cases b with
  | false =>
    have H1 := Aside0.mk (h1.mono (show n + 1 ≤ n + 2 by omega))
    have G1 := Aside0.mk g1
    clear h h1 h2 g1 g2 r2
    go_enter Try.func75, Try.ntmps75
    go_wp2
    go_end0
    exact ⟨rfl, H1.out, G1.out⟩
  | true =>
    have H2 := Aside0.mk h2
    have G2 := Aside0.mk (grown_trans g1 g2)
    clear h h1 h2 g1 g2
    go_enter Try.func75, Try.ntmps75
    go_wp2
    go_end0
    exact ⟨rfl, H2.out, G2.out⟩

end Go.Proofs.Ytfadafgnahhmdaa.X

