import Derived.Test.YtfadafgnahhmdaaY
namespace Go.Proofs.Ytfadafgnahhmdaa.X
open Go.RowKit Go.Proofs.YtfadafgnahhmdaaW.PrintWords Go.Proofs.YtfadafgnahhmdaaW.PrintLast Go.Proofs.YtfadafgnahhmdaaW.PrintMore Go.Proofs.Ytfadafgnahhmdaa.E
attribute [local go_sem] max2_int min2_int max_two min_two max_three min_three max_four min_four
set_option linter.unusedVariables false
set_option linter.unusedSimpArgs false

theorem bytes0 : (ByteArray.mk #[]).toList = [] := by unfold ByteArray.toList; unfold ByteArray.toList.loop; rfl
theorem u64_w (n : Int) : IntKind.u64.wrap n = n % 18446744073709551616 := by simp [IntKind.wrap, IntKind.signed, IntKind.bits]
theorem u64_0 : IntKind.u64.wrap 0 = 0 := by decide
theorem u64_1 : IntKind.u64.wrap 1 = 1 := by decide
theorem w64_u (n : Int) (h0 : -9223372036854775808 ≤ n) (h1 : n ≤ 9223372036854775807) : wrap64 (IntKind.u64.wrap n) = n := by
  rw [u64_w]; unfold wrap64; omega
theorem sr_step (s r q : Bool) (t : Int) : B.stepC 1 ([bv s, bv r, bv q].map tup) t = ([bv s, bv r, bv (s || (q && !r))].map tup, 0) := by
  cases s <;> cases r <;> cases q <;> simp [B.stepC, B.varsU, B.vars, B.okAll, B.okC, B.mayP, tup, bv, B.pairs, B.loadF, B.upd, B.outs, B.stepF, B.srF, B.rsF, B.riseF, B.fallF, B.after, B.b2i, bytes0, wrap64, u64_0, u64_1]
theorem rs_step (s r q : Bool) (t : Int) : B.stepC 2 ([bv s, bv r, bv q].map tup) t = ([bv s, bv r, bv (!r && (s || q))].map tup, 0) := by
  cases s <;> cases r <;> cases q <;> simp [B.stepC, B.varsU, B.vars, B.okAll, B.okC, B.mayP, tup, bv, B.pairs, B.loadF, B.upd, B.outs, B.stepF, B.srF, B.rsF, B.riseF, B.fallF, B.after, B.b2i, bytes0, wrap64, u64_0, u64_1]
theorem rise_step (c q m : Bool) (t : Int) : B.stepC 3 ([bv c, bv q, bv m].map tup) t = ([bv c, bv (c && !m), bv c].map tup, 0) := by
  cases c <;> cases q <;> cases m <;> simp [B.stepC, B.varsU, B.vars, B.okAll, B.okC, B.mayP, tup, bv, B.pairs, B.loadF, B.upd, B.outs, B.stepF, B.srF, B.rsF, B.riseF, B.fallF, B.after, B.b2i, bytes0, wrap64, u64_0, u64_1]
theorem fall_step (c q m : Bool) (t : Int) : B.stepC 4 ([bv c, bv q, bv m].map tup) t = ([bv c, bv (m && !c), bv c].map tup, 0) := by
  cases c <;> cases q <;> cases m <;> simp [B.stepC, B.varsU, B.vars, B.okAll, B.okC, B.mayP, tup, bv, B.pairs, B.loadF, B.upd, B.outs, B.stepF, B.srF, B.rsF, B.riseF, B.fallF, B.after, B.b2i, bytes0, wrap64, u64_0, u64_1]
theorem unt_tup (l : List S34) : (l.map tup).map unt = l := by
  rw [List.map_map]
  exact List.map_id' _
/-- step of the law, where a plain law of Step is at hand: ol as values -/
theorem stepL (k : Int) {A B' : Option Addr} {n cp m cp2 : Nat} {l is ol : List S34} {now : Int} {w : World} (hst : B.stepC k ((is ++ l.drop m).map tup) now = (ol.map tup, 0)) (hol : ol.length = n) (hA : Kd.C k34 w A n l) (hB : Kd.C k34 w B' m is) (hm0 : 0 < m) (hm : m ≤ n) (hn : n ≤ 1000) :
    Calls Try.prog 26 #[.int .i64 k, .slice A n cp, .int .i64 now, .slice B' m cp2] w fun e w' => ∃ g c', e = .returned (.slice (some ⟨g, 0, none⟩) n c') ∧ Kd.C k34 w' (some ⟨g, 0, none⟩) n ol ∧ Below w.heap.size w w' := by
  refine (step26_calls k A B' n cp m cp2 l is now (ol.map tup) w hA hB hm0 hm hn hst (by rw [List.length_map, hol])).mono ?_
  rintro e w' ⟨g, c', rfl, h1, h2⟩
  rw [unt_tup] at h1
  exact ⟨g, c', rfl, h1, h2⟩

end Go.Proofs.Ytfadafgnahhmdaa.X

