import Derived.Test.YtfadafgnahhmdaaR
import Derived.StillTailTactics
import Derived.Deep.RegionWith
import Derived.BigRegion
import Derived.WideKeyEntry
namespace Go.Proofs.Ytfadafgnahhmdaa.X
open Go.RowKit Go.Proofs.YtfadafgnahhmdaaW.PrintWords Go.Proofs.YtfadafgnahhmdaaW.PrintLast Go.Proofs.YtfadafgnahhmdaaW.PrintMore Go.Proofs.Ytfadafgnahhmdaa.E
attribute [local go_sem] max2_int min2_int max_two min_two max_three min_three max_four min_four
set_option linter.unusedVariables false
set_option linter.unusedSimpArgs false

open B (upd b2i mnI sinceF spanF)
theorem St.lookd {w : World} {sb mb n : Nat} {f : ByteArray → Int} {now : Int} (h : St w sb mb n f now) (s : ByteArray) (hs : s.size ≤ maxLen) :
    (Instr.lookup 72 (.map (some mb)) (.string s) false).run Try.prog w.drew = .ok (.int .i64 (f s)) w.drew := h.look s hs 1
theorem St.drew {w : World} {sb mb n : Nat} {f : ByteArray → Int} {now : Int} (h : St w sb mb n f now) : St w.drew sb mb n f now := h.drewN 1
theorem grown_refl (w : World) (row : Option Nat) : w.grownBy w row := ⟨rfl, rfl, rfl, Nat.le_refl _, fun _ _ _ => rfl⟩
theorem grown_drew {w w1 : World} {row : Option Nat} (h : w.grownBy w1 row) : w.grownBy w1.drew row := ⟨h.os, h.tape, h.output, h.size, h.block⟩
theorem grown_drawn {w w1 w2 : World} {row : Option Nat} (h : w.grownBy w1 row) (hd : Drawn0 w1 w2) : w.grownBy w2 row := by
  obtain ⟨q, rfl⟩ := hd
  exact ⟨h.os, h.tape, h.output, h.size, h.block⟩
theorem St.drawn {w w1 : World} {sb mb n : Nat} {f : ByteArray → Int} {now : Int} (h : St w sb mb n f now) (hd : Drawn0 w w1) : St w1 sb mb n f now := by
  obtain ⟨q, rfl⟩ := hd
  exact h.drewN q
theorem St.entry {w : World} {sb mb n : Nat} {f : ByteArray → Int} {now : Int} (h : St w sb mb n f now) (hn : n ≤ 1000) (s : ByteArray) (hs : s.size ≤ maxLen) (v : Int) (hv : (Lit.int .i64 v).wf = true) :
    ∃ (v0 : Value) (st : Int) (w1 w2 : World), (Instr.mapEntry 72 (.map (some mb)) (.string s)).run Try.prog w = .ok (.tuple #[v0, .int .i64 st]) w1 ∧ (Instr.entryStore 72 (.map (some mb)) (.int .i64 st) (.int .i64 v)).run Try.prog w1 = .ok () w2 ∧
      St w2 sb mb (n + 1) (upd f s v) now ∧ w.grownBy w2 (some mb) ∧ w1.cell? ⟨sb, 0, none⟩ = some (.map (some mb)) ∧ w1.cell? ⟨sb, 1, none⟩ = some (.int .i64 now) := by
  obtain ⟨w', hrun, hst, hg⟩ := h.put hn s hs v hv
  have hm := h.2
  obtain ⟨D, ⟨es, clock, hb, F, hsz, hD⟩, _⟩ := hm
  obtain ⟨v0, st, es1, clock1, he, _, hstore⟩ := Go.WideElems.entry_then_store (t := 72) (WideMaps.string_law Try.underlying9) Try.underlying72 (fun u => zero3 u) hb F (Go.WideMaps.keyOf_string_mk Try.underlying9 hs)
  obtain ⟨es2, clock2, h2, h3⟩ := hstore (ChangeMaps.setBlock w mb (.map es1 clock1)) (.int .i64 v) (ChangeMaps.heap_setBlock_same hb _)
  have e1 : ChangeMaps.setBlock (ChangeMaps.setBlock w mb (.map es1 clock1)) mb (.map es2 clock2) = ChangeMaps.setBlock w mb (.map es2 clock2) := by
    simp [ChangeMaps.setBlock]
  rw [e1] at h2
  rw [hrun] at h3
  injection h3 with _ h3
  subst h3
  have hne := h.ne
  refine ⟨v0, st, _, _, he, h2, hst, hg, ?_, ?_⟩
  · have hh : (ChangeMaps.setBlock w mb (.map es1 clock1)).heap[sb]? = w.heap[sb]? := ChangeMaps.heap_setBlock_other hb _ hne
    exact (blk_cell (hh.trans h.1) 0).trans rfl
  · have hh : (ChangeMaps.setBlock w mb (.map es1 clock1)).heap[sb]? = w.heap[sb]? := ChangeMaps.heap_setBlock_other hb _ hne
    exact (blk_cell (hh.trans h.1) 1).trans rfl
/-! The same, told aside: W0 is the world at the method's start -/
theorem St.putA {W0 w : World} {sb mb n : Nat} {f : ByteArray → Int} {now : Int} (h : Aside0 (St w sb mb n f now)) (g : Aside0 (W0.grownBy w (some mb))) (hn : n ≤ 1000) (s : ByteArray) (hs : s.size ≤ maxLen) (v : Int) (hv : (Lit.int .i64 v).wf = true) :
    ∃ w' f', (Instr.mapUpdate 72 (.map (some mb)) (.string s) (.int .i64 v)).run Try.prog w = .ok () w' ∧ Aside0 (f' = upd f s v) ∧ Aside0 (St w' sb mb (n + 1) f' now) ∧ Aside0 (W0.grownBy w' (some mb)) := by
  obtain ⟨w', hrun, h1, g1⟩ := h.out.put hn s hs v hv
  exact ⟨w', _, hrun, ⟨rfl⟩, ⟨h1⟩, ⟨grown_trans g.out g1⟩⟩
theorem set_callsA {W0 w : World} {sb mb n : Nat} {f : ByteArray → Int} {now : Int} (h : Aside0 (St w sb mb n f now)) (g : Aside0 (W0.grownBy w (some mb))) (hn : n ≤ 900) (s : ByteArray) (hs : s.size ≤ maxLen) (b : Bool) :
    Calls Try.prog 75 #[.pointer (some ⟨sb, 0, none⟩), .string s, .bool b] w fun e w' => ∃ f', e = .returned (.tuple #[]) ∧ Aside0 (f' = upd f s (b2i b)) ∧ Aside0 (St w' sb mb (n + 2) f' now) ∧ Aside0 (W0.grownBy w' (some mb)) := by
  refine (set_calls h.out hn s hs b).mono ?_
  rintro e w' ⟨rfl, h1, g1⟩
  exact ⟨_, rfl, ⟨rfl⟩, ⟨h1⟩, ⟨grown_trans g.out g1⟩⟩
theorem since_callsA {W0 w : World} {sb mb n : Nat} {f : ByteArray → Int} {now : Int} (h : Aside0 (St w sb mb n f now)) (g : Aside0 (W0.grownBy w (some mb))) (h0 : 0 ≤ now) (h1 : now ≤ 4611686018427387904) :
    Calls Try.prog 78 #[.pointer (some ⟨sb, 0, none⟩)] w fun e w' => e = .returned (.int .i64 (sinceF f now)) ∧ Aside0 (St w' sb mb n f now) ∧ Aside0 (W0.grownBy w' (some mb)) := by
  refine (since_calls h.out h0 h1).mono ?_
  rintro e w' ⟨rfl, hd⟩
  exact ⟨rfl, ⟨h.out.drawn hd⟩, ⟨grown_drawn g.out hd⟩⟩
theorem since_bd (f : ByteArray → Int) {now : Int} (h0 : 0 ≤ now) (h1 : now ≤ 4611686018427387904) : 0 ≤ sinceF f now ∧ sinceF f now ≤ 4611686018427387904 := by
  unfold sinceF
  repeat' split
  all_goals omega
theorem span_bd {w : World} {sb mb n : Nat} {f : ByteArray → Int} {now : Int} (h : Aside0 (St w sb mb n f now)) : 0 ≤ spanF f ∧ spanF f ≤ 9223372036854775807 := by
  have := h.out.2.lo ⟨#[80, 84]⟩
  unfold spanF
  split
  all_goals omega

end Go.Proofs.Ytfadafgnahhmdaa.X

