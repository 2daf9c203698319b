import Derived.Test.YtfadafgnahhmdaaHB
import Derived.Maps.OwnOps
import Derived.Maps.Views
import Derived.StringKeys
import Derived.StillTailTactics
import Derived.Deep.RegionWith
import Derived.BigRegion
import Derived.WideKeyEntry
set_option linter.unusedVariables false
set_option linter.unusedSimpArgs false
namespace Go.Proofs.Ytfadafgnahhmdaa.X
open Go.RowKit Go.Proofs.YtfadafgnahhmdaaW.PrintWords Go.Proofs.YtfadafgnahhmdaaW.PrintLast Go.Proofs.YtfadafgnahhmdaaW.PrintMore Go.Proofs.Ytfadafgnahhmdaa.E
attribute [local go_sem] max2_int min2_int max_two min_two max_three min_three max_four min_four
set_option linter.unusedVariables false
set_option linter.unusedSimpArgs false

open Go.Maps (Keyed)
open B (upd)
theorem law9 : Keyed Try.prog 9 := Go.Maps.string_keyed Try.underlying9
theorem zero3 (w : World) : (zeroValue 3).run Try.prog w = .ok (.int .i64 0) w := by kernel_rfl
/-- Block b is a map of at most n entries that tells f's numbers by their names (0 where there is none). -/
def Mp (w : World) (b n : Nat) (f : ByteArray → Int) : Prop :=
  ∃ D : DataW Unit, w.ownsMap Try.prog 9 (plainElem Try.prog 3) b n D ∧ Maps.IsMap D ∧ (∀ s : ByteArray, D.atKey (.string s.data.toList) (.lit (.int .i64 0)) = .lit (.int .i64 (f s))) ∧ ∀ s : ByteArray, (Lit.int .i64 (f s)).wf = true
theorem Mp.mono {w : World} {b n m : Nat} {f : ByteArray → Int} (h : Mp w b n f) (hn : n ≤ m) : Mp w b m f := by
  obtain ⟨D, h1, h2, h3, h4⟩ := h
  exact ⟨D, h1.mono hn, h2, h3, h4⟩
theorem Mp.lt {w : World} {b n : Nat} {f : ByteArray → Int} (h : Mp w b n f) : b < w.heap.size := by
  obtain ⟨D, h1, _⟩ := h
  exact h1.lt
theorem Mp.kept {w w' : World} {b n : Nat} {f : ByteArray → Int} (h : Mp w b n f) {row : Option Nat} (hg : w.grownBy w' row) (hne : some b ≠ row) : Mp w' b n f := by
  obtain ⟨D, h1, h2⟩ := h
  exact ⟨D, h1.kept hg hne, h2⟩
theorem Mp.drewN {w : World} {b n : Nat} {f : ByteArray → Int} (h : Mp w b n f) (q : Nat) : Mp (w.drewN q) b n f := by
  obtain ⟨D, h1, h2⟩ := h
  exact ⟨D, h1, h2⟩
theorem Mp.wf {w : World} {b n : Nat} {f : ByteArray → Int} (h : Mp w b n f) (s : ByteArray) : (Lit.int .i64 (f s)).wf = true := by
  obtain ⟨D, _, _, _, h4⟩ := h
  exact h4 s
theorem Mp.lo {w : World} {b n : Nat} {f : ByteArray → Int} (h : Mp w b n f) (s : ByteArray) : -9223372036854775808 ≤ f s ∧ f s ≤ 9223372036854775807 := by
  have h := h.wf s
  have hmin : IntKind.i64.min = -9223372036854775808 := rfl
  have hmax : IntKind.i64.max = 9223372036854775807 := rfl
  simp only [Lit.wf, Bool.and_eq_true, decide_eq_true_eq] at h
  omega
theorem Mp.made (w : World) : Mp (w.alloc (.map #[] 0)) w.heap.size 0 (fun _ => 0) :=
  ⟨.map [], World.ownsMap_made _ _ _ _, ⟨[], rfl⟩, fun s => rfl, fun _ => (by decide : (Lit.int .i64 0).wf = true)⟩
theorem Mp.look {w : World} {b n : Nat} {f : ByteArray → Int} (h : Mp w b n f) (s : ByteArray) (hs : s.size ≤ maxLen) :
    (Instr.lookup 72 (.map (some b)) (.string s) false).run Try.prog w = .ok (.int .i64 (f s)) w := by
  obtain ⟨D, h1, _, h3, _⟩ := h
  obtain ⟨c, hrun, hat, _⟩ := h1.lookup_int law9 Try.underlying72 Try.underlying3 (zero3 w) (Go.WideMaps.keyOf_string_mk Try.underlying9 hs)
  rw [h3 s] at hat
  injection hat with hat
  injection hat with _ hat
  rw [hrun, hat]
theorem Mp.put {w : World} {b n : Nat} {f : ByteArray → Int} (h : Mp w b n f) (s : ByteArray) (hs : s.size ≤ maxLen) (hn : n < maxLen) (v : Int) (hv : (Lit.int .i64 v).wf = true) :
    ∃ w', (Instr.mapUpdate 72 (.map (some b)) (.string s) (.int .i64 v)).run Try.prog w = .ok () w' ∧ Mp w' b (n + 1) (upd f s v) ∧ w.grownBy w' (some b) := by
  obtain ⟨D, h1, h2, h3, h4⟩ := h
  obtain ⟨w', hrun, ho, hg⟩ := h1.update law9 Try.underlying72 hn (Go.WideMaps.keyOf_string_mk Try.underlying9 hs) (plainElem_int Try.underlying3 hv)
  refine ⟨w', hrun, ⟨_, ho, h2.put _ _, fun t => ?_, fun t => ?_⟩, hg⟩
  · unfold upd
    by_cases ht : t = s
    · subst ht
      rw [if_pos rfl]
      exact Maps.atKey_put_same (k := .string t.data.toList) h2 (by simp [WideAt.IsKeyLit]) _ _
    · rw [if_neg ht]
      rw [Maps.atKey_put_other (fun he => ht ?_)]
      · exact h3 t
      · have hd : t.data = s.data := Array.toList_inj.mp (Lit.string.inj he)
        cases t
        cases s
        exact congrArg ByteArray.mk hd
  · unfold upd
    split
    · exact hv
    · exact h4 t

end Go.Proofs.Ytfadafgnahhmdaa.X
namespace Go.Proofs.Ytfadafgnahhmdaa.X
open Go.RowKit Go.Proofs.YtfadafgnahhmdaaW.PrintWords Go.Proofs.YtfadafgnahhmdaaW.PrintLast Go.Proofs.YtfadafgnahhmdaaW.PrintMore Go.Proofs.Ytfadafgnahhmdaa.E
attribute [local go_sem] max2_int min2_int max_two min_two max_three min_three max_four min_four
set_option linter.unusedVariables false
set_option linter.unusedSimpArgs false

open B (upd)
/-- The block's state in memory: its map and the time. -/
def St (w : World) (sb mb n : Nat) (f : ByteArray → Int) (now : Int) : Prop := w.heap[sb]? = some (.cells #[.map (some mb), .int .i64 now] 74 (0, 0)) ∧ Mp w mb n f
theorem St.mono {w : World} {sb mb n m : Nat} {f : ByteArray → Int} {now : Int} (h : St w sb mb n f now) (hn : n ≤ m) : St w sb mb m f now := ⟨h.1, h.2.mono hn⟩
theorem St.c0 {w : World} {sb mb n : Nat} {f : ByteArray → Int} {now : Int} (h : St w sb mb n f now) : w.cell? ⟨sb, 0, none⟩ = some (.map (some mb)) := (blk_cell h.1 0).trans rfl
theorem St.c1 {w : World} {sb mb n : Nat} {f : ByteArray → Int} {now : Int} (h : St w sb mb n f now) : w.cell? ⟨sb, 1, none⟩ = some (.int .i64 now) := (blk_cell h.1 1).trans rfl
theorem St.ne {w : World} {sb mb n : Nat} {f : ByteArray → Int} {now : Int} (h : St w sb mb n f now) : sb ≠ mb := by
  rintro rfl
  obtain ⟨h1, D, ⟨es, cl, h2, _⟩, _⟩ := h
  rw [h1] at h2
  cases h2
theorem St.put {w : World} {sb mb n : Nat} {f : ByteArray → Int} {now : Int} (h : St w sb mb n f now) (hn : n ≤ 1000) (s : ByteArray) (hs : s.size ≤ maxLen) (v : Int) (hv : (Lit.int .i64 v).wf = true) :
    ∃ w', (Instr.mapUpdate 72 (.map (some mb)) (.string s) (.int .i64 v)).run Try.prog w = .ok () w' ∧ St w' sb mb (n + 1) (upd f s v) now ∧ w.grownBy w' (some mb) := by
  obtain ⟨w', hrun, hm, hg⟩ := h.2.put s hs (by unfold maxLen; omega) v hv
  refine ⟨w', hrun, ⟨(hg.block sb (blk_lt h.1) (fun e => h.ne (by injection e))).trans h.1, hm⟩, hg⟩
theorem St.drewN {w : World} {sb mb n : Nat} {f : ByteArray → Int} {now : Int} (h : St w sb mb n f now) (q : Nat) : St (w.drewN q) sb mb n f now := ⟨h.1, h.2.drewN q⟩
theorem St.look {w : World} {sb mb n : Nat} {f : ByteArray → Int} {now : Int} (h : St w sb mb n f now) (s : ByteArray) (hs : s.size ≤ maxLen) (q : Nat) :
    (Instr.lookup 72 (.map (some mb)) (.string s) false).run Try.prog (w.drewN q) = .ok (.int .i64 (f s)) (w.drewN q) := (h.2.drewN q).look s hs
theorem St.look0 {w : World} {sb mb n : Nat} {f : ByteArray → Int} {now : Int} (h : St w sb mb n f now) (s : ByteArray) (hs : s.size ≤ maxLen) :
    (Instr.lookup 72 (.map (some mb)) (.string s) false).run Try.prog w = .ok (.int .i64 (f s)) w := h.2.look s hs
theorem grown_trans {w w1 w2 : World} {row : Option Nat} (h : w.grownBy w1 row) (k : w1.grownBy w2 row) : w.grownBy w2 row := World.grownBy.trans h k
set_option maxHeartbeats 800000 in
set_option maxRecDepth 100000 in
theorem on_calls {w : World} {sb mb n : Nat} {f : ByteArray → Int} {now : Int} (h : St w sb mb n f now) (s : ByteArray) (hs : s.size ≤ maxLen) :
    Calls Try.prog 76 #[.pointer (some ⟨sb, 0, none⟩), .string s] w fun e w' => e = .returned (.bool (f s == 1)) ∧ w = w' := by
  have hu74 := Try.underlying74
  have c0 := h.c0
  have hl := h.look0 s hs
  clear h
  go_enter Try.func76, Try.ntmps76
  go_wp2
  go_ret
  exact ⟨rfl, rfl⟩
theorem upd_upd (f : ByteArray → Int) (s : ByteArray) (u v : Int) : upd (upd f s u) s v = upd f s v := by
  funext t
  unfold upd
  split <;> rfl
set_option maxHeartbeats 800000 in
set_option maxRecDepth 100000 in
theorem set_calls {w : World} {sb mb n : Nat} {f : ByteArray → Int} {now : Int} (h : St w sb mb n f now) (hn : n ≤ 900) (s : ByteArray) (hs : s.size ≤ maxLen) (b : Bool) :
    Calls Try.prog 75 #[.pointer (some ⟨sb, 0, none⟩), .string s, .bool b] w fun e w' => e = .returned (.tuple #[]) ∧ St w' sb mb (n + 2) (upd f s (if b then 1 else 0)) now ∧ w.grownBy w' (some mb) := by
  have hu74 := Try.underlying74
  obtain ⟨w1, r1, h1, g1⟩ := h.put (by omega) s hs 0 (by decide)
  obtain ⟨w2, r2, h2, g2⟩ := h1.put (by omega) s hs 1 (by decide)
  have c0 := h.c0
  have d0 := h1.c0
  rw [upd_upd] at h2
  cases b with
  | false =>
    have H1 := Aside0.mk (h1.mono (show n + 1 ≤ n + 2 by omega))
    have G1 := Aside0.mk g1
    clear h h1 h2 g1 g2 r2
    go_enter Try.func75, Try.ntmps75
    go_wp2
    go_end0
    exact ⟨rfl, H1.out, G1.out⟩
  | true =>
    have H2 := Aside0.mk h2
    have G2 := Aside0.mk (grown_trans g1 g2)
    clear h h1 h2 g1 g2
    go_enter Try.func75, Try.ntmps75
    go_wp2
    go_end0
    exact ⟨rfl, H2.out, G2.out⟩

end Go.Proofs.Ytfadafgnahhmdaa.X
namespace Go.Proofs.Ytfadafgnahhmdaa.X
open Go.RowKit Go.Proofs.YtfadafgnahhmdaaW.PrintWords Go.Proofs.YtfadafgnahhmdaaW.PrintLast Go.Proofs.YtfadafgnahhmdaaW.PrintMore Go.Proofs.Ytfadafgnahhmdaa.E
attribute [local go_sem] max2_int min2_int max_two min_two max_three min_three max_four min_four
set_option linter.unusedVariables false
set_option linter.unusedSimpArgs false

open B (upd sinceF spanF)
set_option maxHeartbeats 800000 in
set_option maxRecDepth 100000 in
theorem rises_calls {w : World} {sb mb n : Nat} {f : ByteArray → Int} {now : Int} (h : St w sb mb n f now) (s t : ByteArray) (hs : s.size ≤ maxLen) (ht : t.size ≤ maxLen) :
    Calls Try.prog 77 #[.pointer (some ⟨sb, 0, none⟩), .string s, .string t] w fun e w' => e = .returned (.bool ((f s == 1) && !(f t == 1))) ∧ w = w' := by
  have H := Aside0.mk h
  clear h
  cases hb : (f s == 1) with
  | true =>
    have HB := Aside0.mk hb
    clear hb
    go_enter Try.func77, Try.ntmps77
    go_wp2_with fail
    refine (on_calls H.out s hs).mono ?_
    rintro e w' ⟨rfl, rfl⟩
    rw [HB.out]
    go_wp2_with fail
    refine (on_calls H.out t ht).mono ?_
    rintro e w' ⟨rfl, rfl⟩
    go_wp2
    go_ret
    exact ⟨rfl, rfl⟩
  | false =>
    have HB := Aside0.mk hb
    clear hb
    go_enter Try.func77, Try.ntmps77
    go_wp2_with fail
    refine (on_calls H.out s hs).mono ?_
    rintro e w' ⟨rfl, rfl⟩
    rw [HB.out]
    go_wp2
    go_ret
    exact ⟨rfl, rfl⟩
set_option maxHeartbeats 800000 in
set_option maxRecDepth 100000 in
theorem since_calls {w : World} {sb mb n : Nat} {f : ByteArray → Int} {now : Int} (h : St w sb mb n f now) (h0 : 0 ≤ now) (h1 : now ≤ 4611686018427387904) :
    Calls Try.prog 78 #[.pointer (some ⟨sb, 0, none⟩)] w fun e w' => e = .returned (.int .i64 (sinceF f now)) ∧ Drawn0 w w' := by
  have hu74 := Try.underlying74
  have c0 := h.c0
  have c1 := h.c1
  have hl := h.look ⟨#[83]⟩ (by decide)
  have hl0 := h.look0 ⟨#[83]⟩ (by decide)
  have hb := h.2.lo ⟨#[83]⟩
  unfold sinceF
  obtain ⟨x, hx⟩ : ∃ x, x = f ⟨#[83]⟩ := ⟨_, rfl⟩
  rw [← hx] at hl hl0 hb ⊢
  clear h hx
  by_cases a1 : x < 0
  · rw [if_pos a1]
    go_enter Try.func78, Try.ntmps78
    go_wp2
    go_quiet (fail)
    go_wp2
    go_ret
    exact ⟨rfl, Drawn0.step (Drawn0.refl _) _⟩
  · rw [if_neg a1]
    have a1' : decide (x < 0) = false := decide_eq_false a1
    by_cases a2 : now < x
    · rw [if_pos a2]
      go_enter Try.func78, Try.ntmps78
      go_wp2
      go_quiet (fail)
      go_wp2
      go_ret
      exact ⟨rfl, Drawn0.step (Drawn0.refl _) _⟩
    · rw [if_neg a2]
      have a2' : decide (now < x) = false := decide_eq_false a2
      go_enter Try.func78, Try.ntmps78
      go_wp2
      go_quiet (fail)
      go_wp2
      go_quiet (fail)
      go_wp2
      go_ret
      exact ⟨rfl, Drawn0.step (Drawn0.step (Drawn0.refl _) _) _⟩
set_option maxHeartbeats 800000 in
set_option maxRecDepth 100000 in
theorem span_calls {w : World} {sb mb n : Nat} {f : ByteArray → Int} {now : Int} (h : St w sb mb n f now) :
    Calls Try.prog 79 #[.pointer (some ⟨sb, 0, none⟩)] w fun e w' => e = .returned (.int .i64 (spanF f)) ∧ w = w' := by
  have hu74 := Try.underlying74
  have c0 := h.c0
  have hl0 := h.look0 ⟨#[80, 84]⟩ (by decide)
  unfold spanF
  obtain ⟨x, hx⟩ : ∃ x, x = f ⟨#[80, 84]⟩ := ⟨_, rfl⟩
  rw [← hx] at hl0 ⊢
  clear h hx
  by_cases a1 : 0 < x
  · rw [show (if 0 < x then x else 0) = x from if_pos a1]
    go_enter Try.func79, Try.ntmps79
    go_wp2
    go_ret
    exact ⟨rfl, rfl⟩
  · rw [show (if 0 < x then x else 0) = 0 from if_neg a1]
    go_enter Try.func79, Try.ntmps79
    go_wp2
    go_ret
    exact ⟨rfl, rfl⟩

end Go.Proofs.Ytfadafgnahhmdaa.X
namespace Go.Proofs.Ytfadafgnahhmdaa.X
open Go.RowKit Go.Proofs.YtfadafgnahhmdaaW.PrintWords Go.Proofs.YtfadafgnahhmdaaW.PrintLast Go.Proofs.YtfadafgnahhmdaaW.PrintMore Go.Proofs.Ytfadafgnahhmdaa.E
attribute [local go_sem] max2_int min2_int max_two min_two max_three min_three max_four min_four
set_option linter.unusedVariables false
set_option linter.unusedSimpArgs false

open B (upd b2i mnI sinceF spanF)
theorem St.lookd {w : World} {sb mb n : Nat} {f : ByteArray → Int} {now : Int} (h : St w sb mb n f now) (s : ByteArray) (hs : s.size ≤ maxLen) :
    (Instr.lookup 72 (.map (some mb)) (.string s) false).run Try.prog w.drew = .ok (.int .i64 (f s)) w.drew := h.look s hs 1
theorem St.drew {w : World} {sb mb n : Nat} {f : ByteArray → Int} {now : Int} (h : St w sb mb n f now) : St w.drew sb mb n f now := h.drewN 1
theorem grown_refl (w : World) (row : Option Nat) : w.grownBy w row := ⟨rfl, rfl, rfl, Nat.le_refl _, fun _ _ _ => rfl⟩
theorem grown_drew {w w1 : World} {row : Option Nat} (h : w.grownBy w1 row) : w.grownBy w1.drew row := ⟨h.os, h.tape, h.output, h.size, h.block⟩
theorem grown_drawn {w w1 w2 : World} {row : Option Nat} (h : w.grownBy w1 row) (hd : Drawn0 w1 w2) : w.grownBy w2 row := by
  obtain ⟨q, rfl⟩ := hd
  exact ⟨h.os, h.tape, h.output, h.size, h.block⟩
theorem St.drawn {w w1 : World} {sb mb n : Nat} {f : ByteArray → Int} {now : Int} (h : St w sb mb n f now) (hd : Drawn0 w w1) : St w1 sb mb n f now := by
  obtain ⟨q, rfl⟩ := hd
  exact h.drewN q
theorem St.entry {w : World} {sb mb n : Nat} {f : ByteArray → Int} {now : Int} (h : St w sb mb n f now) (hn : n ≤ 1000) (s : ByteArray) (hs : s.size ≤ maxLen) (v : Int) (hv : (Lit.int .i64 v).wf = true) :
    ∃ (v0 : Value) (st : Int) (w1 w2 : World), (Instr.mapEntry 72 (.map (some mb)) (.string s)).run Try.prog w = .ok (.tuple #[v0, .int .i64 st]) w1 ∧ (Instr.entryStore 72 (.map (some mb)) (.int .i64 st) (.int .i64 v)).run Try.prog w1 = .ok () w2 ∧
      St w2 sb mb (n + 1) (upd f s v) now ∧ w.grownBy w2 (some mb) ∧ w1.cell? ⟨sb, 0, none⟩ = some (.map (some mb)) ∧ w1.cell? ⟨sb, 1, none⟩ = some (.int .i64 now) := by
  obtain ⟨w', hrun, hst, hg⟩ := h.put hn s hs v hv
  have hm := h.2
  obtain ⟨D, ⟨es, clock, hb, F, hsz, hD⟩, _⟩ := hm
  obtain ⟨v0, st, es1, clock1, he, _, hstore⟩ := Go.WideElems.entry_then_store (t := 72) (WideMaps.string_law Try.underlying9) Try.underlying72 (fun u => zero3 u) hb F (Go.WideMaps.keyOf_string_mk Try.underlying9 hs)
  obtain ⟨es2, clock2, h2, h3⟩ := hstore (ChangeMaps.setBlock w mb (.map es1 clock1)) (.int .i64 v) (ChangeMaps.heap_setBlock_same hb _)
  have e1 : ChangeMaps.setBlock (ChangeMaps.setBlock w mb (.map es1 clock1)) mb (.map es2 clock2) = ChangeMaps.setBlock w mb (.map es2 clock2) := by
    simp [ChangeMaps.setBlock]
  rw [e1] at h2
  rw [hrun] at h3
  injection h3 with _ h3
  subst h3
  have hne := h.ne
  refine ⟨v0, st, _, _, he, h2, hst, hg, ?_, ?_⟩
  · have hh : (ChangeMaps.setBlock w mb (.map es1 clock1)).heap[sb]? = w.heap[sb]? := ChangeMaps.heap_setBlock_other hb _ hne
    exact (blk_cell (hh.trans h.1) 0).trans rfl
  · have hh : (ChangeMaps.setBlock w mb (.map es1 clock1)).heap[sb]? = w.heap[sb]? := ChangeMaps.heap_setBlock_other hb _ hne
    exact (blk_cell (hh.trans h.1) 1).trans rfl
/-! The same, told aside: W0 is the world at the method's start -/
theorem St.putA {W0 w : World} {sb mb n : Nat} {f : ByteArray → Int} {now : Int} (h : Aside0 (St w sb mb n f now)) (g : Aside0 (W0.grownBy w (some mb))) (hn : n ≤ 1000) (s : ByteArray) (hs : s.size ≤ maxLen) (v : Int) (hv : (Lit.int .i64 v).wf = true) :
    ∃ w' f', (Instr.mapUpdate 72 (.map (some mb)) (.string s) (.int .i64 v)).run Try.prog w = .ok () w' ∧ Aside0 (f' = upd f s v) ∧ Aside0 (St w' sb mb (n + 1) f' now) ∧ Aside0 (W0.grownBy w' (some mb)) := by
  obtain ⟨w', hrun, h1, g1⟩ := h.out.put hn s hs v hv
  exact ⟨w', _, hrun, ⟨rfl⟩, ⟨h1⟩, ⟨grown_trans g.out g1⟩⟩
theorem set_callsA {W0 w : World} {sb mb n : Nat} {f : ByteArray → Int} {now : Int} (h : Aside0 (St w sb mb n f now)) (g : Aside0 (W0.grownBy w (some mb))) (hn : n ≤ 900) (s : ByteArray) (hs : s.size ≤ maxLen) (b : Bool) :
    Calls Try.prog 75 #[.pointer (some ⟨sb, 0, none⟩), .string s, .bool b] w fun e w' => ∃ f', e = .returned (.tuple #[]) ∧ Aside0 (f' = upd f s (b2i b)) ∧ Aside0 (St w' sb mb (n + 2) f' now) ∧ Aside0 (W0.grownBy w' (some mb)) := by
  refine (set_calls h.out hn s hs b).mono ?_
  rintro e w' ⟨rfl, h1, g1⟩
  exact ⟨_, rfl, ⟨rfl⟩, ⟨h1⟩, ⟨grown_trans g.out g1⟩⟩
theorem since_callsA {W0 w : World} {sb mb n : Nat} {f : ByteArray → Int} {now : Int} (h : Aside0 (St w sb mb n f now)) (g : Aside0 (W0.grownBy w (some mb))) (h0 : 0 ≤ now) (h1 : now ≤ 4611686018427387904) :
    Calls Try.prog 78 #[.pointer (some ⟨sb, 0, none⟩)] w fun e w' => e = .returned (.int .i64 (sinceF f now)) ∧ Aside0 (St w' sb mb n f now) ∧ Aside0 (W0.grownBy w' (some mb)) := by
  refine (since_calls h.out h0 h1).mono ?_
  rintro e w' ⟨rfl, hd⟩
  exact ⟨rfl, ⟨h.out.drawn hd⟩, ⟨grown_drawn g.out hd⟩⟩
theorem since_bd (f : ByteArray → Int) {now : Int} (h0 : 0 ≤ now) (h1 : now ≤ 4611686018427387904) : 0 ≤ sinceF f now ∧ sinceF f now ≤ 4611686018427387904 := by
  unfold sinceF
  repeat' split
  all_goals omega
theorem span_bd {w : World} {sb mb n : Nat} {f : ByteArray → Int} {now : Int} (h : Aside0 (St w sb mb n f now)) : 0 ≤ spanF f ∧ spanF f ≤ 9223372036854775807 := by
  have := h.out.2.lo ⟨#[80, 84]⟩
  unfold spanF
  split
  all_goals omega

end Go.Proofs.Ytfadafgnahhmdaa.X
