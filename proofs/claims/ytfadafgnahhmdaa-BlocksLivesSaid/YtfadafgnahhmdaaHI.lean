import Derived.Test.YtfadafgnahhmdaaHG
import Derived.Test.YtfadafgnahhmdaaHB
import Derived.Laws.IdiomCopy
import Derived.Deep.Grids
import Derived.Deep.SlicePairs
import Derived.SizedLaws
import Derived.ChangeSlices
set_option linter.unusedVariables false
set_option linter.unusedSimpArgs false
namespace Go.Proofs.Ytfadafgnahhmdaa.X
open Go.RowKit Go.Proofs.YtfadafgnahhmdaaW.PrintWords Go.Proofs.YtfadafgnahhmdaaW.PrintLast Go.Proofs.YtfadafgnahhmdaaW.PrintMore Go.Proofs.Ytfadafgnahhmdaa.E
attribute [local go_sem] max2_int min2_int max_two min_two max_three min_three max_four min_four
set_option linter.unusedVariables false
set_option linter.unusedSimpArgs false

/-! ### copy of rows of values; the law's step -/
def c3 (x : S34) : List Value := [.int .u8 x.f0, .int .u64 x.f1, .string x.f2]
def cells34 (l : List S34) : List Value := l.flatMap c3
theorem cells34_len : ∀ l : List S34, (cells34 l).length = l.length * 3
  | [] => rfl
  | x :: r => by
    have := cells34_len r
    unfold cells34 at this ⊢
    rw [List.flatMap_cons, List.length_append, this]
    simp [c3]
    omega
theorem cells34_get : ∀ (l : List S34) (j : Nat) (x : S34) (i : Nat), l[j]? = some x → i < 3 → (cells34 l)[j * 3 + i]? = (c3 x)[i]?
  | [], j, x, i, h, _ => by simp at h
  | y :: r, 0, x, i, h, hi => by
    simp at h
    subst h
    unfold cells34
    rw [List.flatMap_cons, List.getElem?_append_left (by simp [c3]; omega)]
    congr 1
    omega
  | y :: r, j + 1, x, i, h, hi => by
    have := cells34_get r j x i (by simpa using h) hi
    unfold cells34 at this ⊢
    rw [List.flatMap_cons, List.getElem?_append_right (by simp [c3]; omega)]
    rw [← this]
    congr 1
    simp [c3]
    omega
theorem cells34_one (l : List S34) : ∀ v ∈ cells34 l, v.oneCell' = true := by
  intro v hv
  unfold cells34 at hv
  obtain ⟨x, _, hx⟩ := List.mem_flatMap.1 hv
  simp [c3] at hx
  rcases hx with rfl | rfl | rfl <;> rfl
/-- a row's cells, one after another -/
theorem C34_cells {w : World} {ad : Addr} {n : Nat} {l : List S34} (h : Kd.C k34 w (some ad) n l) : ∀ q u, (cells34 l)[q]? = some u → w.cell? (ad.add q) = some u := by
  intro q u hq
  have hlt : q < l.length * 3 := by
    rw [← cells34_len]
    exact (List.getElem?_eq_some_iff.1 hq).1
  have hn := h.1
  obtain ⟨ad', e, hc⟩ := h.2.2 (by omega)
  cases e
  obtain ⟨x, hx⟩ : ∃ x, l[q / 3]? = some x := ⟨_, List.getElem?_eq_getElem (by omega)⟩
  obtain ⟨c, _, hK, hcell⟩ := hc (q / 3) x hx
  obtain rfl := k34_open hK
  have e := cells34_get l (q / 3) x (q % 3) hx (Nat.mod_lt _ (by decide))
  rw [show q / 3 * 3 + q % 3 = q by omega] at e
  have := hcell (q % 3) u (by rw [← hq, e]; rfl)
  rw [show k34.sz = 3 from rfl] at this
  rwa [show q / 3 * 3 + q % 3 = q by omega] at this
/-- a row from its cells -/
theorem C34_of {w : World} {ad : Addr} {n : Nat} {l : List S34} (hl : l.length = n) (hn : n ≤ 1000) (h : ∀ q u, (cells34 l)[q]? = some u → w.cell? (ad.add q) = some u) : Kd.C k34 w (some ad) n l := by
  refine ⟨hl, by omega, fun _ => ⟨ad, rfl, fun j x hx => ⟨c3 x, rfl, k34_mk w x, fun i u hu => ?_⟩⟩⟩
  refine h _ u ?_
  rw [show k34.sz = 3 from rfl]
  have hi : i < 3 := (List.getElem?_eq_some_iff.1 hu).1
  rw [cells34_get l j x i hx hi]
  exact hu
theorem cells34_append (a b : List S34) : cells34 (a ++ b) = cells34 a ++ cells34 b := List.flatMap_append
theorem run_copy_n {P : Program} (w : World) (dT sT ty elem : TypeId) (sz : Nat) (b o dLen dCap : Nat) (a : Addr) (sLen sCap : Nat) (cs : List Value)
    (hu : P.underlying dT = some (.slice elem)) (hs : (P.info? elem).map (·.size) = some sz) (hn : cs.length = Nat.min sLen dLen * sz)
    (hsrc : ∀ j v, cs[j]? = some v → w.cell? (a.add j) = some v) (hc : ∀ j, j < cs.length → (w.cell? ⟨b, o + j, none⟩).isSome = true) (hf : ∀ j, j < cs.length → w.frozen? ⟨b, o + j, none⟩ = false) (h1 : ∀ v ∈ cs, v.oneCell' = true) :
    (Builtin.copy_ #[dT, sT] ty #[.slice (some ⟨b, o, none⟩) dLen dCap, .slice (some a) sLen sCap]).run P w = .ok (goInt (Nat.min sLen dLen)) (w.setCells b o cs) := by
  have hl := run_loadCells_list (P := P) w a cs hsrc
  have hst := run_storeCells_cells (P := P) b o cs 0 w (by simpa using hc) (by simpa using hf) h1
  cases hq : P.info? elem with
  | none => simp [hq] at hs
  | some i =>
    have hi : i.size = sz := by simpa [hq] using hs
    simp [Builtin.copy_, run_underlying hu, Builtin.lenOf, Builtin.firstCells, sizeOf, typeInfo, hq, hi, ← hn, hl, hst]
theorem wpList_copyX {P : Program} {w : World} {ops : Array Oper} {rest : List Oper} {o : Oper} {a : Act} {Q : Exit → Act → World → Prop} (hgd : o.guard = none) (d s : Operand) (t t' : TypeId)
    (ho : o.op = .call { callee := .builtin .copy, args := #[d, s], argTypes := #[t, t'] }) (v u : Value) (hd : a.eval d = v) (hs : a.eval s = u) {v' : Value} {w' : World}
    (hr : (Builtin.copy_ #[t, t'] o.type #[v, u]).run P w = .ok v' w') (h : wpList P ops Q rest (a.put o.dst v') w') : wpList P ops Q (o :: rest) a w := by
  refine wpList_plain hgd fun K hK => ?_
  unfold Oper.wp execOp
  simp only [ho, resolve, invoke, builtin, Sem.run_bind, Sem.run_pure, Result.andThen_ok, List.map_toArray, List.map_cons, List.map_nil, hd, hs, hr]
  exact hK _ _ h
theorem add_blk (g q : Nat) : (⟨g, 0, none⟩ : Addr).add q = ⟨g, 0 + q, none⟩ := by unfold Addr.add; split <;> simp_all
theorem copy34 {base : Nat} {w1 : World} {g cap n m c : Nat} {B' : Option Addr} {l is : List S34} {cells : Array Value} (hR : Kd.R k34 34 w1 base (fun _ => True) (.slice (some ⟨g, 0, none⟩) n cap) l) (hl : l.length = n) (hg : w1.heap[g]? = some (.cells cells 34 (0, 0)))
    (hB : Kd.C k34 w1 B' m is) (h0 : 0 < m) (hm : m ≤ n) (hn : n ≤ 1000) :
    ∃ w2, (Builtin.copy_ #[30, 30] 3 #[.slice (some ⟨g, 0, none⟩) n cap, .slice B' m c]).run Try.prog w1 = .ok (.int .i64 m) w2 ∧ Kd.C k34 w2 (some ⟨g, 0, none⟩) n (is ++ l.drop m) ∧ w1.grownBy w2 (some g) := by
  obtain ⟨_, _, hC⟩ := Kd.R_reads' hR
  rw [hl] at hC
  have hcl := C34_cells hC
  have his : is.length = m := hB.1
  obtain ⟨ad, rfl, _⟩ := hB.2.2 h0
  have hcB := C34_cells hB
  have hlen : (cells34 is).length = m * 3 := by rw [cells34_len, his]
  have hsome : ∀ j, j < (cells34 is).length → (w1.cell? ⟨g, 0 + j, none⟩).isSome = true := by
    intro j hj
    have hj2 : j < (cells34 l).length := by rw [cells34_len, hl]; omega
    have := hcl j _ (List.getElem?_eq_getElem hj2)
    rw [show (⟨g, 0 + j, none⟩ : Addr) = (⟨g, 0, none⟩ : Addr).add j from (add_blk g j).symm, this]
    rfl
  have hr := run_copy_n (P := Try.prog) w1 30 30 3 34 3 g 0 n cap ad m c (cells34 is) Try.underlying30 (by have := info34; cases h : Try.prog.info? 34 with | none => rw [h] at this; simp at this | some i => rw [h] at this; simp at this; simp [this]) (by rw [hlen]; congr 1; exact (Nat.min_eq_left hm).symm) hcB hsome (fun j _ => blk_frozen hg _) (cells34_one is)
  obtain ⟨s1, s2, s3, s4⟩ := setCells_same g (cells34 is) 0 w1
  refine ⟨w1.setCells g 0 (cells34 is), ?_, C34_of (by rw [List.length_append, List.length_drop]; omega) hn ?_, ⟨s1, s2, s3, by rw [s4]; exact Nat.le_refl _, fun k _ hk => setCells_far _ _ k (fun he => hk (by rw [he]))⟩⟩
  · rw [hr]
    congr 1
    show goInt _ = _
    rw [show Nat.min m n = m from Nat.min_eq_left hm]
    rfl
  · intro q u hq
    rw [cells34_append] at hq
    have ea := add_blk g q
    rw [ea]
    by_cases hlt : q < (cells34 is).length
    · rw [World.cell?_setCells_in g (cells34 is) 0 w1 hsome q hlt]
      rw [List.getElem?_append_left hlt, List.getElem?_eq_getElem hlt] at hq
      exact hq
    · rw [World.cell?_setCells_out g (cells34 is) 0 w1 ⟨g, 0 + q, none⟩ (fun _ _ => by right; show 0 + (cells34 is).length ≤ 0 + q; omega)]
      rw [← ea]
      refine hcl q u ?_
      rw [List.getElem?_append_right (by omega), hlen] at hq
      have e : cells34 l = cells34 (l.take m) ++ cells34 (l.drop m) := by rw [← cells34_append, List.take_append_drop]
      rw [e, List.getElem?_append_right (by rw [cells34_len, List.length_take]; omega), cells34_len, List.length_take, Nat.min_eq_left (by omega)]
      exact hq
set_option maxHeartbeats 1600000 in
set_option maxRecDepth 100000 in
theorem step26_calls (k : Int) (A B' : Option Addr) (n cp m cp2 : Nat) (l is : List S34) (now : Int) (ol : List (Int × Int × ByteArray)) (w : World) (hA : Kd.C k34 w A n l) (hB : Kd.C k34 w B' m is) (hm0 : 0 < m) (hm : m ≤ n) (hn : n ≤ 1000)
    (hst : B.stepC k ((is ++ l.drop m).map tup) now = (ol, 0)) (hol : ol.length = n) :
    Calls Try.prog 26 #[.int .i64 k, .slice A n cp, .int .i64 now, .slice B' m cp2] w fun e w' => ∃ g c', e = .returned (.slice (some ⟨g, 0, none⟩) n c') ∧ Kd.C k34 w' (some ⟨g, 0, none⟩) n (ol.map unt) ∧ Below w.heap.size w w' := by
  have HA := Aside0.mk hA
  have HB := Aside0.mk hB
  have HST := Aside0.mk hst
  have HOL := Aside0.mk hol
  have t1 : ((n : Int) < (m : Int)) = False := eq_false (by omega)
  have t2 : ((0 : Int) == 0) = true := rfl
  have t3 : ((n : Int) != (n : Int)) = false := by simp
  clear hA hB hst hol
  go_enter Try.func26, Try.ntmps26
  go_wp2_with (first
    | (go_at_call 27; refine (clone_calls _ _ _ l _ HA.out (by omega)).mono ?_; rintro e w1 ⟨v, rfl, hR, hb⟩; have HR := Aside0.mk hR; have HB1 := Aside0.mk hb; clear hR hb; obtain ⟨g, cap, rfl, hg0, hg1, cells, hg⟩ := Kd.R_form HR.out (by have := HA.out.1; omega); (rw [show l.length = n from HA.out.1] at HR ⊢); have HG := Aside0.mk hg; have HG0 := Aside0.mk hg0; clear hg hg0 hg1)
    | ((with_reducible refine gate_builtin (b := .copy) (xs := #[.tmp 19, .tmp 20]) rfl ?_); obtain ⟨w2, hr2, hC2, hg2⟩ := copy34 (c := cp2) HR.out HA.out.1 HG.out (Kd.C_below HB.out HB1.out) hm0 hm hn; have HC2 := Aside0.mk hC2; have HB2 := Aside0.mk (HB1.out.grown hg2 HB1.out.size (fun k hk => by injection hk with hk; have := HG0.out; omega)); clear hC2 hg2; refine wpList_copyX rfl (.tmp 19) (.tmp 20) 30 30 rfl _ _ rfl rfl hr2 ?_; clear hr2)
    | (go_at_call 28; refine (step_calls _ _ _ _ (is ++ l.drop m) _ _ HC2.out).mono ?_; (rw [HST.out]); rintro e w3 ⟨v3, rfl, hR3, hb3⟩; (have hR3 : Kd.R k34 34 w3 w2.heap.size (fun _ => True) v3 (ol.map unt) := hR3); have HB3 := Aside0.mk (below_step HB2.out hb3); obtain ⟨g3, cap3, rfl, _, _, _⟩ := Kd.R_form hR3 (by rw [List.length_map]; have := HOL.out; omega); have HC3 := Aside0.mk (Kd.R_reads' hR3).2.2; clear hR3 hb3; (rw [show (List.map unt ol).length = n from (List.length_map _).trans HOL.out] at HC3 ⊢)))

  go_ret
  exact ⟨_, _, rfl, HC3.out, HB3.out⟩

theorem C34_at {w : World} {g n : Nat} {l : List S34} (h : Kd.C k34 w (some ⟨g, 0, none⟩) n l) (j : Nat) (x : S34) (hx : l[j]? = some x) :
    w.cell? ⟨g, j * 3, none⟩ = some (.int .u8 x.f0) ∧ w.cell? ⟨g, j * 3 + 1, none⟩ = some (.int .u64 x.f1) ∧ w.cell? ⟨g, j * 3 + 2, none⟩ = some (.string x.f2) := by
  have hc := C34_cells h
  have h0 := cells34_get l j x 0 hx (by decide)
  have h1 := cells34_get l j x 1 hx (by decide)
  have h2 := cells34_get l j x 2 hx (by decide)
  have e0 := hc _ _ h0
  have e1 := hc _ _ h1
  have e2 := hc _ _ h2
  rw [add_blk, Nat.zero_add] at e0 e1 e2
  exact ⟨e0, e1, e2⟩
theorem C34_lit (w : World) (is : List S34) (cs : Array Value) (h : cs.toList = cells34 is) (hn : is.length ≤ 1000) : Kd.C k34 (w.alloc (.cells cs 34)) (some ⟨w.heap.size, 0, none⟩) is.length is := by
  refine C34_of rfl hn fun q u hq => ?_
  rw [add_blk, Nat.zero_add, blk_cell (heap_alloc_new w (.cells cs 34)) q, ← Array.getElem?_toList, h]
  exact hq
/-- TRUE, FALSE as a value -/
def bv (b : Bool) : S34 := ⟨1, B.b2i b, ⟨#[]⟩⟩
def iv (n : Int) : S34 := ⟨3, IntKind.u64.wrap n, ⟨#[]⟩⟩
def tv (n : Int) : S34 := ⟨14, IntKind.u64.wrap n, ⟨#[]⟩⟩
theorem bitL (b : Bool) (w : World) : Calls Try.prog 25 #[.bool b] w fun e w' => e = .returned (.agg #[.int .u8 1, .int .u64 (B.b2i b), .string ⟨#[]⟩]) ∧ Below w.heap.size w w' := bit_calls b w

end Go.Proofs.Ytfadafgnahhmdaa.X
namespace Go.Proofs.Ytfadafgnahhmdaa.X
open Go.RowKit Go.Proofs.YtfadafgnahhmdaaW.PrintWords Go.Proofs.YtfadafgnahhmdaaW.PrintLast Go.Proofs.YtfadafgnahhmdaaW.PrintMore Go.Proofs.Ytfadafgnahhmdaa.E
attribute [local go_sem] max2_int min2_int max_two min_two max_three min_three max_four min_four
set_option linter.unusedVariables false
set_option linter.unusedSimpArgs false

theorem bytes0 : (ByteArray.mk #[]).toList = [] := by unfold ByteArray.toList; unfold ByteArray.toList.loop; rfl
theorem u64_w (n : Int) : IntKind.u64.wrap n = n % 18446744073709551616 := by simp [IntKind.wrap, IntKind.signed, IntKind.bits]
theorem u64_0 : IntKind.u64.wrap 0 = 0 := by decide
theorem u64_1 : IntKind.u64.wrap 1 = 1 := by decide
theorem w64_u (n : Int) (h0 : -9223372036854775808 ≤ n) (h1 : n ≤ 9223372036854775807) : wrap64 (IntKind.u64.wrap n) = n := by
  rw [u64_w]; unfold wrap64; omega
theorem sr_step (s r q : Bool) (t : Int) : B.stepC 1 ([bv s, bv r, bv q].map tup) t = ([bv s, bv r, bv (s || (q && !r))].map tup, 0) := by
  cases s <;> cases r <;> cases q <;> simp [B.stepC, B.varsU, B.vars, B.okAll, B.okC, B.mayP, tup, bv, B.pairs, B.loadF, B.upd, B.outs, B.stepF, B.srF, B.rsF, B.riseF, B.fallF, B.after, B.b2i, bytes0, wrap64, u64_0, u64_1]
theorem rs_step (s r q : Bool) (t : Int) : B.stepC 2 ([bv s, bv r, bv q].map tup) t = ([bv s, bv r, bv (!r && (s || q))].map tup, 0) := by
  cases s <;> cases r <;> cases q <;> simp [B.stepC, B.varsU, B.vars, B.okAll, B.okC, B.mayP, tup, bv, B.pairs, B.loadF, B.upd, B.outs, B.stepF, B.srF, B.rsF, B.riseF, B.fallF, B.after, B.b2i, bytes0, wrap64, u64_0, u64_1]
theorem rise_step (c q m : Bool) (t : Int) : B.stepC 3 ([bv c, bv q, bv m].map tup) t = ([bv c, bv (c && !m), bv c].map tup, 0) := by
  cases c <;> cases q <;> cases m <;> simp [B.stepC, B.varsU, B.vars, B.okAll, B.okC, B.mayP, tup, bv, B.pairs, B.loadF, B.upd, B.outs, B.stepF, B.srF, B.rsF, B.riseF, B.fallF, B.after, B.b2i, bytes0, wrap64, u64_0, u64_1]
theorem fall_step (c q m : Bool) (t : Int) : B.stepC 4 ([bv c, bv q, bv m].map tup) t = ([bv c, bv (m && !c), bv c].map tup, 0) := by
  cases c <;> cases q <;> cases m <;> simp [B.stepC, B.varsU, B.vars, B.okAll, B.okC, B.mayP, tup, bv, B.pairs, B.loadF, B.upd, B.outs, B.stepF, B.srF, B.rsF, B.riseF, B.fallF, B.after, B.b2i, bytes0, wrap64, u64_0, u64_1]
theorem unt_tup (l : List S34) : (l.map tup).map unt = l := by
  rw [List.map_map]
  exact List.map_id' _
/-- step of the law, where a plain law of Step is at hand: ol as values -/
theorem stepL (k : Int) {A B' : Option Addr} {n cp m cp2 : Nat} {l is ol : List S34} {now : Int} {w : World} (hst : B.stepC k ((is ++ l.drop m).map tup) now = (ol.map tup, 0)) (hol : ol.length = n) (hA : Kd.C k34 w A n l) (hB : Kd.C k34 w B' m is) (hm0 : 0 < m) (hm : m ≤ n) (hn : n ≤ 1000) :
    Calls Try.prog 26 #[.int .i64 k, .slice A n cp, .int .i64 now, .slice B' m cp2] w fun e w' => ∃ g c', e = .returned (.slice (some ⟨g, 0, none⟩) n c') ∧ Kd.C k34 w' (some ⟨g, 0, none⟩) n ol ∧ Below w.heap.size w w' := by
  refine (step26_calls k A B' n cp m cp2 l is now (ol.map tup) w hA hB hm0 hm hn hst (by rw [List.length_map, hol])).mono ?_
  rintro e w' ⟨g, c', rfl, h1, h2⟩
  rw [unt_tup] at h1
  exact ⟨g, c', rfl, h1, h2⟩

end Go.Proofs.Ytfadafgnahhmdaa.X
namespace Go.Proofs.Ytfadafgnahhmdaa.X
open Go.RowKit Go.Proofs.YtfadafgnahhmdaaW.PrintWords Go.Proofs.YtfadafgnahhmdaaW.PrintLast Go.Proofs.YtfadafgnahhmdaaW.PrintMore Go.Proofs.Ytfadafgnahhmdaa.E
attribute [local go_sem] max2_int min2_int max_two min_two max_three min_three max_four min_four
set_option linter.unusedVariables false
set_option linter.unusedSimpArgs false

theorem wrap64_0 : wrap64 0 = 0 := by unfold wrap64; decide
theorem wrap64_1 : wrap64 1 = 1 := by unfold wrap64; decide
/-! ### the timers' steps on their cells, as numbers -/
/-- what the names of a timer's variables hold -/
structure Tm (f : ByteArray → Int) (i : Bool) (pt : Int) (q : Bool) (et : Int) (m : Bool) (s : Int) : Prop where
  h1 : f ⟨#[73, 78]⟩ = B.b2i i
  h2 : f ⟨#[80, 84]⟩ = pt
  h3 : f ⟨#[81]⟩ = B.b2i q
  h4 : f ⟨#[69, 84]⟩ = et
  h5 : f ⟨#[77]⟩ = B.b2i m
  h6 : f ⟨#[83]⟩ = s
theorem clamp_in (now : Int) (h5 : 0 ≤ now) (h7 : now ≤ 4611686018427387904) : B.clampT now = now := by unfold B.clampT; rw [if_neg (show ¬ now < 0 by omega), if_neg (by omega)]
/-- a timer's step, by what it does on the names -/
theorem tm_step (k : Int) (hk : k = 8 ∨ k = 9 ∨ k = 10) (i b0 : Bool) (pt p0 : Int) (q : Bool) (et : Int) (m : Bool) (s now : Int) (h1 : 0 ≤ pt) (h2 : pt ≤ 4611686018427387904) (h3 : 0 ≤ et) (h4 : et ≤ 4611686018427387904) (h5 : 0 ≤ s) (h6 : s ≤ now) (h7 : now ≤ 4611686018427387904)
    (q' : Bool) (et' : Int) (s' : Int) (h : ∀ f, Tm f i pt q et m s → Tm (B.stepF k f now) i pt q' et' i s') :
    B.stepC k (([bv i, tv pt] ++ [bv b0, tv p0, bv q, tv et, bv m, tv s].drop 2).map tup) now = ([bv i, tv pt, bv q', tv et', bv i, tv s'].map tup, 0) := by
  have e1 := w64_u pt (by omega) (by omega)
  have e2 := w64_u et (by omega) (by omega)
  have e3 := w64_u s (by omega) (by omega)
  have e4 := clamp_in now (by omega) h7
  have hv : B.varsU k = [(⟨#[73, 78]⟩, 1, 1, false), (⟨#[80, 84]⟩, 1, 14, false), (⟨#[81]⟩, 2, 1, false), (⟨#[69, 84]⟩, 2, 14, false), (⟨#[77]⟩, 4, 1, false), (⟨#[83]⟩, 4, 14, false)] := by
    rcases hk with rfl | rfl | rfl <;> simp [B.varsU, B.vars]
  have hT := h (B.loadF (B.pairs (B.varsU k) (([bv i, tv pt] ++ [bv b0, tv p0, bv q, tv et, bv m, tv s].drop 2).map tup))) (by
    rw [hv]
    cases i <;> cases q <;> cases m <;> constructor <;> simp [B.pairs, B.loadF, B.upd, tup, bv, tv, B.b2i, e1, e2, e3, wrap64_0, wrap64_1])
  have hok : B.okAll (B.varsU k) (([bv i, tv pt] ++ [bv b0, tv p0, bv q, tv et, bv m, tv s].drop 2).map tup) = true := by
    rw [hv]
    cases i <;> cases q <;> cases m <;> simp [B.okAll, B.okC, B.mayP, tup, bv, tv, B.b2i, bytes0]
  unfold B.stepC
  rw [if_neg (by rw [hv]; simp), if_pos hok, e4]
  generalize B.stepF k _ now = g at hT
  rw [hv]
  simp [B.outs, hT.h1, hT.h2, hT.h3, hT.h4, hT.h5, hT.h6, tup, bv, tv]
  cases i <;> cases q' <;> simp [B.b2i, u64_0, u64_1]
section
variable {f : ByteArray → Int} {i : Bool} {pt : Int} {q : Bool} {et : Int} {m : Bool} {s now : Int}
theorem Tm.isq (h : Tm f i pt q et m s) : (f ⟨#[81]⟩ == 1) = q := by rw [h.h3]; cases q <;> rfl
theorem Tm.ism (h : Tm f i pt q et m s) : (f ⟨#[77]⟩ == 1) = m := by rw [h.h5]; cases m <;> rfl
theorem Tm.isi (h : Tm f i pt q et m s) : (f ⟨#[73, 78]⟩ == 1) = i := by rw [h.h1]; cases i <;> rfl
theorem Tm.span (h : Tm f i pt q et m s) (hp : 0 ≤ pt) : B.spanF f = pt := by
  unfold B.spanF; rw [h.h2]; split <;> omega
theorem Tm.since (h : Tm f i pt q et m s) (h0 : 0 ≤ s) (h1 : s ≤ now) : B.sinceF f now = now - s := by
  unfold B.sinceF; rw [h.h6, if_neg (by omega), if_neg (by omega)]
theorem Tm.setq (h : Tm f i pt q et m s) (q' : Bool) (v : Int) (hv : v = B.b2i q') : Tm (B.upd f ⟨#[81]⟩ v) i pt q' et m s := by
  subst hv; obtain ⟨a, b, c, d, e, g⟩ := h; constructor <;> simp [B.upd, a, b, c, d, e, g]
theorem Tm.sete (h : Tm f i pt q et m s) (e' : Int) : Tm (B.setET f e') i pt q e' m s := by
  obtain ⟨a, b, c, d, e, g⟩ := h; constructor <;> simp [B.setET, B.upd, a, b, c, d, e, g]
theorem Tm.sets (h : Tm f i pt q et m s) (s' : Int) : Tm (B.upd f ⟨#[83]⟩ s') i pt q et m s' := by
  obtain ⟨a, b, c, d, e, g⟩ := h; constructor <;> simp [B.upd, a, b, c, d, e, g]
theorem Tm.setm (h : Tm f i pt q et m s) : Tm (B.after ⟨#[77]⟩ ⟨#[73, 78]⟩ f) i pt q et i s := by
  have hi := h.isi
  obtain ⟨a, b, c, d, e, g⟩ := h; constructor <;> simp [B.after, B.upd, a, b, c, d, e, g, hi]
  cases i <;> simp [B.b2i]
end
def tpS (i : Bool) (pt : Int) (q : Bool) (et : Int) (m : Bool) (s now : Int) : Bool × Int × Int :=
  if q = true ∧ ¬ pt ≤ now - s then (true, now - s, s)
  else if i = true ∧ m = false then (decide (0 < pt), 0, now)
  else if i = true then (false, if q = true then pt else et, s) else (false, 0, s)
theorem tpB_abs (f : ByteArray → Int) (i : Bool) (pt : Int) (et : Int) (m : Bool) (s now : Int) (hf : Tm f i pt false et m s) (h1 : 0 ≤ pt) :
    Tm (B.tpB f now) i pt (if i = true ∧ m = false then decide (0 < pt) else false) (if i = true ∧ m = false then 0 else if i = true then et else 0) m (if i = true ∧ m = false then now else s) := by
  have hq := hf.isq
  cases i with
  | true =>
    cases m with
    | false =>
      rw [B.tpB_2 hq (by rw [hf.isi, hf.ism]; rfl)]
      have h2 := (hf.sets now).sete 0
      rw [h2.span h1]
      exact h2.setq (decide (0 < pt)) _ rfl
    | true =>
      rw [B.tpB_3 hq (by rw [hf.isi, hf.ism]; rfl) hf.isi]
      exact hf
  | false =>
    rw [B.tpB_4 hq (by rw [hf.isi]; rfl) hf.isi]
    exact hf.sete 0
theorem tp_abs (f : ByteArray → Int) (i : Bool) (pt : Int) (q : Bool) (et : Int) (m : Bool) (s now : Int) (hf : Tm f i pt q et m s) (h1 : 0 ≤ pt) (h5 : 0 ≤ s) (h6 : s ≤ now) :
    Tm (B.tpF f now) i pt (tpS i pt q et m s now).1 (tpS i pt q et m s now).2.1 i (tpS i pt q et m s now).2.2 := by
  unfold B.tpF
  have hfin : ∀ (q2 : Bool) (e2 : Int) (m2 : Bool) (s2 : Int), Tm (B.tpB (B.tpA f now) now) i pt q2 e2 m2 s2 → (q2, e2, s2) = tpS i pt q et m s now → Tm (B.after ⟨#[77]⟩ ⟨#[73, 78]⟩ (B.tpB (B.tpA f now) now)) i pt (tpS i pt q et m s now).1 (tpS i pt q et m s now).2.1 i (tpS i pt q et m s now).2.2 := by
    intro q2 e2 m2 s2 h e
    rw [← e]
    exact h.setm
  cases q with
  | true =>
    by_cases hp : pt ≤ now - s
    · have hA : Tm (B.tpA f now) i pt false pt m s := by
        rw [B.tpA_1 hf.isq (by rw [hf.span h1, hf.since h5 h6]; exact decide_eq_true hp)]
        have h2 := hf.setq false 0 rfl
        rw [h2.span h1]
        exact h2.sete pt
      exact hfin _ _ _ _ (tpB_abs _ i pt pt m s now hA h1) (by cases i <;> cases m <;> simp [tpS, hp])
    · have hA : Tm (B.tpA f now) i pt true (now - s) m s := by
        rw [B.tpA_2 hf.isq (by rw [hf.span h1, hf.since h5 h6]; exact decide_eq_false hp), hf.since h5 h6]
        exact hf.sete _
      rw [B.tpB_1 hA.isq] at hfin
      exact hfin _ _ _ _ hA (by simp [tpS, hp]) |> (by rw [B.tpB_1 hA.isq]; exact ·)
  | false =>
    have hA : B.tpA f now = f := B.tpA_3 hf.isq
    rw [hA] at hfin ⊢
    exact hfin _ _ _ _ (tpB_abs f i pt et m s now hf h1) (by cases i <;> cases m <;> simp [tpS])
theorem tp_step (i b0 : Bool) (pt p0 : Int) (q : Bool) (et : Int) (m : Bool) (s now : Int) (h1 : 0 ≤ pt) (h2 : pt ≤ 4611686018427387904) (h3 : 0 ≤ et) (h4 : et ≤ 4611686018427387904) (h5 : 0 ≤ s) (h6 : s ≤ now) (h7 : now ≤ 4611686018427387904) :
    B.stepC 8 (([bv i, tv pt] ++ [bv b0, tv p0, bv q, tv et, bv m, tv s].drop 2).map tup) now = ([bv i, tv pt, bv (tpS i pt q et m s now).1, tv (tpS i pt q et m s now).2.1, bv i, tv (tpS i pt q et m s now).2.2].map tup, 0) :=
  tm_step 8 (.inl rfl) i b0 pt p0 q et m s now h1 h2 h3 h4 h5 h6 h7 _ _ _ (fun f hf => tp_abs f i pt q et m s now hf h1 h5 h6)
def tonS (i : Bool) (pt : Int) (q : Bool) (et : Int) (m : Bool) (s now : Int) : Bool × Int × Int :=
  if i = true then (decide (pt ≤ now - (if m = true then s else now)), B.mnI (now - (if m = true then s else now)) pt, if m = true then s else now) else (false, 0, s)
theorem tonB_abs (f : ByteArray → Int) (i : Bool) (pt : Int) (q : Bool) (et : Int) (m : Bool) (s now : Int) (hf : Tm f i pt q et m s) (h1 : 0 ≤ pt) (h5 : 0 ≤ s) (h6 : s ≤ now) :
    Tm (B.tonB f now) i pt (decide (pt ≤ now - s)) (B.mnI (now - s) pt) m s := by
  unfold B.tonB
  rw [hf.span h1, hf.since h5 h6]
  have h2 := hf.setq (decide (pt ≤ now - s)) _ rfl
  rw [h2.span h1, h2.since h5 h6]
  exact h2.sete _
theorem ton_abs (f : ByteArray → Int) (i : Bool) (pt : Int) (q : Bool) (et : Int) (m : Bool) (s now : Int) (hf : Tm f i pt q et m s) (h1 : 0 ≤ pt) (h5 : 0 ≤ s) (h6 : s ≤ now) :
    Tm (B.tonF f now) i pt (tonS i pt q et m s now).1 (tonS i pt q et m s now).2.1 i (tonS i pt q et m s now).2.2 := by
  unfold B.tonF
  cases i with
  | true =>
    rw [if_pos hf.isi]
    cases m with
    | true =>
      rw [if_pos hf.ism]
      exact (tonB_abs f true pt q et true s now hf h1 h5 h6).setm
    | false =>
      rw [if_neg (by rw [hf.ism]; decide)]
      exact (tonB_abs _ true pt q et false now now (hf.sets now) h1 (by omega) (Int.le_refl _)).setm
  | false =>
    rw [if_neg (by rw [hf.isi]; decide)]
    exact ((hf.setq false 0 rfl).sete 0).setm
theorem ton_step (i b0 : Bool) (pt p0 : Int) (q : Bool) (et : Int) (m : Bool) (s now : Int) (h1 : 0 ≤ pt) (h2 : pt ≤ 4611686018427387904) (h3 : 0 ≤ et) (h4 : et ≤ 4611686018427387904) (h5 : 0 ≤ s) (h6 : s ≤ now) (h7 : now ≤ 4611686018427387904) :
    B.stepC 9 (([bv i, tv pt] ++ [bv b0, tv p0, bv q, tv et, bv m, tv s].drop 2).map tup) now = ([bv i, tv pt, bv (tonS i pt q et m s now).1, tv (tonS i pt q et m s now).2.1, bv i, tv (tonS i pt q et m s now).2.2].map tup, 0) :=
  tm_step 9 (.inr (.inl rfl)) i b0 pt p0 q et m s now h1 h2 h3 h4 h5 h6 h7 _ _ _ (fun f hf => ton_abs f i pt q et m s now hf h1 h5 h6)
def tofS (i : Bool) (pt : Int) (q : Bool) (et : Int) (m : Bool) (s now : Int) : Bool × Int × Int :=
  if i = true then (true, 0, s) else if q = true then (decide (now - (if m = true then now else s) < pt), B.mnI (now - (if m = true then now else s)) pt, if m = true then now else s) else (false, et, if m = true then now else s)
theorem tofB_abs (f : ByteArray → Int) (i : Bool) (pt : Int) (q : Bool) (et : Int) (m : Bool) (s now : Int) (hf : Tm f i pt q et m s) (h1 : 0 ≤ pt) (h5 : 0 ≤ s) (h6 : s ≤ now) :
    Tm (B.tofB f now) i pt (if q = true then decide (now - s < pt) else false) (if q = true then B.mnI (now - s) pt else et) m s := by
  unfold B.tofB
  cases q with
  | true =>
    rw [if_pos hf.isq]
    unfold B.tofC
    rw [hf.span h1, hf.since h5 h6]
    have h2 := hf.setq (decide (now - s < pt)) _ rfl
    rw [h2.span h1, h2.since h5 h6]
    exact h2.sete _
  | false =>
    rw [if_neg (by rw [hf.isq]; decide)]
    exact hf
theorem tof_abs (f : ByteArray → Int) (i : Bool) (pt : Int) (q : Bool) (et : Int) (m : Bool) (s now : Int) (hf : Tm f i pt q et m s) (h1 : 0 ≤ pt) (h5 : 0 ≤ s) (h6 : s ≤ now) :
    Tm (B.tofF f now) i pt (tofS i pt q et m s now).1 (tofS i pt q et m s now).2.1 i (tofS i pt q et m s now).2.2 := by
  unfold B.tofF
  cases i with
  | true =>
    rw [if_pos hf.isi]
    exact ((hf.setq true 1 rfl).sete 0).setm
  | false =>
    rw [if_neg (by rw [hf.isi]; decide)]
    cases m with
    | true =>
      rw [if_pos hf.ism]
      have h := (tofB_abs _ false pt q et true now now (hf.sets now) h1 (by omega) (Int.le_refl _)).setm
      cases q <;> exact h
    | false =>
      rw [if_neg (by rw [hf.ism]; decide)]
      have h := (tofB_abs _ false pt q et false s now hf h1 h5 h6).setm
      cases q <;> exact h
theorem tof_step (i b0 : Bool) (pt p0 : Int) (q : Bool) (et : Int) (m : Bool) (s now : Int) (h1 : 0 ≤ pt) (h2 : pt ≤ 4611686018427387904) (h3 : 0 ≤ et) (h4 : et ≤ 4611686018427387904) (h5 : 0 ≤ s) (h6 : s ≤ now) (h7 : now ≤ 4611686018427387904) :
    B.stepC 10 (([bv i, tv pt] ++ [bv b0, tv p0, bv q, tv et, bv m, tv s].drop 2).map tup) now = ([bv i, tv pt, bv (tofS i pt q et m s now).1, tv (tofS i pt q et m s now).2.1, bv i, tv (tofS i pt q et m s now).2.2].map tup, 0) :=
  tm_step 10 (.inr (.inr rfl)) i b0 pt p0 q et m s now h1 h2 h3 h4 h5 h6 h7 _ _ _ (fun f hf => tof_abs f i pt q et m s now hf h1 h5 h6)
theorem mod_bd (n M : Int) (h0 : 0 < M) (h1 : M ≤ 1125899906842624) : 0 ≤ wrap64 ((IntKind.u64.wrap n).tmod M) ∧ wrap64 ((IntKind.u64.wrap n).tmod M) < M := by
  rw [u64_w, Int.tmod_eq_emod_of_nonneg (Int.emod_nonneg _ (by decide))]
  have a := Int.emod_nonneg (n % 18446744073709551616) (show M ≠ 0 by omega)
  have b := Int.emod_lt_of_pos (n % 18446744073709551616) h0
  unfold wrap64
  omega

end Go.Proofs.Ytfadafgnahhmdaa.X
namespace Go.Proofs.Ytfadafgnahhmdaa.X
open Go.RowKit Go.Proofs.YtfadafgnahhmdaaW.PrintWords Go.Proofs.YtfadafgnahhmdaaW.PrintLast Go.Proofs.YtfadafgnahhmdaaW.PrintMore Go.Proofs.Ytfadafgnahhmdaa.E
attribute [local go_sem] max2_int min2_int max_two min_two max_three min_three max_four min_four
set_option linter.unusedVariables false
set_option linter.unusedSimpArgs false

/-- ET stays from 0 to PT, whichever timer it is -/
theorem el_step (k : Int) (hk : k = 8 ∨ k = 9 ∨ k = 10) (i b0 : Bool) (pt p0 : Int) (q : Bool) (et : Int) (m : Bool) (s now : Int) (h1 : 0 ≤ pt) (h2 : pt ≤ 4611686018427387904) (h3 : 0 ≤ et) (h4 : et ≤ pt) (h5 : 0 ≤ s) (h6 : s ≤ now) (h7 : now ≤ 4611686018427387904) :
    ∃ (q' : Bool) (et' s' : Int), B.stepC k (([bv i, tv pt] ++ [bv b0, tv p0, bv q, tv et, bv m, tv s].drop 2).map tup) now = ([bv i, tv pt, bv q', tv et', bv i, tv s'].map tup, 0) ∧ 0 ≤ et' ∧ et' ≤ pt ∧ 0 ≤ s' ∧ s' ≤ now := by
  rcases hk with rfl | rfl | rfl
  · refine ⟨_, _, _, tp_step i b0 pt p0 q et m s now h1 h2 h3 (by omega) h5 h6 h7, ?_⟩
    unfold tpS
    repeat' split
    all_goals (simp only; omega)
  · refine ⟨_, _, _, ton_step i b0 pt p0 q et m s now h1 h2 h3 (by omega) h5 h6 h7, ?_⟩
    unfold tonS B.mnI
    repeat' split
    all_goals (simp only; omega)
  · refine ⟨_, _, _, tof_step i b0 pt p0 q et m s now h1 h2 h3 (by omega) h5 h6 h7, ?_⟩
    unfold tofS B.mnI
    repeat' split
    all_goals (simp only; omega)
theorem startT (k : Int) (hk : k = 8 ∨ k = 9 ∨ k = 10) : startL k = [bv false, tv 0, bv false, tv 0, bv false, tv 0] := by
  rcases hk with rfl | rfl | rfl <;> simp [startL, B.varsU, B.vars, bv, tv, B.b2i, u64_0]
theorem u64_le (a b : Int) (h0 : 0 ≤ a) (h1 : a ≤ b) (h2 : b ≤ 4611686018427387904) : (IntKind.u64.wrap b < IntKind.u64.wrap a) = False := by
  rw [u64_w, u64_w]
  exact eq_false (by omega)

end Go.Proofs.Ytfadafgnahhmdaa.X
namespace Go.Proofs.Ytfadafgnahhmdaa.X
open Go.RowKit Go.Proofs.YtfadafgnahhmdaaW.PrintWords Go.Proofs.YtfadafgnahhmdaaW.PrintLast Go.Proofs.YtfadafgnahhmdaaW.PrintMore Go.Proofs.Ytfadafgnahhmdaa.E
attribute [local go_sem] max2_int min2_int max_two min_two max_three min_three max_four min_four
set_option linter.unusedVariables false
set_option linter.unusedSimpArgs false

/-! ### the counters' steps on their cells, as numbers -/
structure Cu (f : ByteArray → Int) (cu r : Bool) (pv : Int) (q : Bool) (n : Int) (m : Bool) : Prop where
  h1 : f ⟨#[67, 85]⟩ = B.b2i cu
  h2 : f ⟨#[82]⟩ = B.b2i r
  h3 : f ⟨#[80, 86]⟩ = pv
  h4 : f ⟨#[81]⟩ = B.b2i q
  h5 : f ⟨#[67, 86]⟩ = n
  h6 : f ⟨#[77]⟩ = B.b2i m
section
variable {f : ByteArray → Int} {cu r : Bool} {pv : Int} {q : Bool} {n : Int} {m : Bool}
theorem Cu.iscu (h : Cu f cu r pv q n m) : (f ⟨#[67, 85]⟩ == 1) = cu := by rw [h.h1]; cases cu <;> rfl
theorem Cu.isr (h : Cu f cu r pv q n m) : (f ⟨#[82]⟩ == 1) = r := by rw [h.h2]; cases r <;> rfl
theorem Cu.ism (h : Cu f cu r pv q n m) : (f ⟨#[77]⟩ == 1) = m := by rw [h.h6]; cases m <;> rfl
theorem Cu.setn (h : Cu f cu r pv q n m) (n' : Int) : Cu (B.upd f ⟨#[67, 86]⟩ n') cu r pv q n' m := by
  obtain ⟨a, b, c, d, e, g⟩ := h; constructor <;> simp [B.upd, a, b, c, d, e, g]
theorem Cu.setq (h : Cu f cu r pv q n m) : Cu (B.full ⟨#[81]⟩ f) cu r pv (decide (pv ≤ n)) n m := by
  obtain ⟨a, b, c, d, e, g⟩ := h; constructor <;> simp [B.full, B.upd, a, b, c, d, e, g]
theorem Cu.setm (h : Cu f cu r pv q n m) : Cu (B.after ⟨#[77]⟩ ⟨#[67, 85]⟩ f) cu r pv q n cu := by
  have hi := h.iscu
  obtain ⟨a, b, c, d, e, g⟩ := h; constructor <;> simp [B.after, B.upd, a, b, c, d, e, g, hi]
  cases cu <;> simp [B.b2i]
end
def cuN (cu r m : Bool) (n : Int) : Int := if r = true then 0 else if cu = true ∧ m = false ∧ n < 32767 then n + 1 else n
theorem ctu_abs (f : ByteArray → Int) (cu r : Bool) (pv : Int) (q : Bool) (n : Int) (m : Bool) (t : Int) (hf : Cu f cu r pv q n m) : Cu (B.ctuF f t) cu r pv (decide (pv ≤ cuN cu r m n)) (cuN cu r m n) cu := by
  unfold B.ctuF
  refine Cu.setm (m := m) (Cu.setq (q := q) ?_)
  cases r with
  | true =>
    rw [if_pos hf.isr]
    exact hf.setn 0
  | false =>
    rw [if_neg (by rw [hf.isr]; decide)]
    rw [hf.iscu, hf.ism, hf.h5]
    cases cu with
    | false => simpa [cuN] using hf
    | true =>
      cases m with
      | true => simpa [cuN] using hf
      | false =>
        by_cases hn : n < 32767
        · simpa [cuN, hn] using hf.setn (n + 1)
        · simpa [cuN, hn] using hf
theorem okInt (n : Int) (h0 : -32768 ≤ n) (h1 : n ≤ 32767) : B.okC 3 (tup (iv n)) = true := by
  have e := w64_u n (by omega) (by omega)
  simp [B.okC, B.mayP, tup, iv, bytes0, e, h0, h1]
theorem okBool (b : Bool) : B.okC 1 (tup (bv b)) = true := by
  cases b <;> simp [B.okC, B.mayP, tup, bv, bytes0, B.b2i]
theorem ctu_step (cu r b0 b1 : Bool) (pv p0 : Int) (q : Bool) (n : Int) (m : Bool) (h1 : -32768 ≤ pv) (h2 : pv ≤ 32767) (h3 : 0 ≤ n) (h4 : n ≤ 32767) :
    B.stepC 5 (([bv cu, bv r, iv pv] ++ [bv b0, bv b1, iv p0, bv q, iv n, bv m].drop 3).map tup) 0 = ([bv cu, bv r, iv pv, bv (decide (pv ≤ cuN cu r m n)), iv (cuN cu r m n), bv cu].map tup, 0) := by
  have e1 := w64_u pv (by omega) (by omega)
  have e2 := w64_u n (by omega) (by omega)
  have hv : B.varsU 5 = [(⟨#[67, 85]⟩, 1, 1, false), (⟨#[82]⟩, 1, 1, false), (⟨#[80, 86]⟩, 1, 3, false), (⟨#[81]⟩, 2, 1, false), (⟨#[67, 86]⟩, 2, 3, false), (⟨#[77]⟩, 4, 1, false)] := by
    simp [B.varsU, B.vars]
  have hT := ctu_abs (B.loadF (B.pairs (B.varsU 5) (([bv cu, bv r, iv pv] ++ [bv b0, bv b1, iv p0, bv q, iv n, bv m].drop 3).map tup))) cu r pv q n m (B.clampT 0) (by
    rw [hv]
    cases cu <;> cases r <;> cases q <;> cases m <;> constructor <;> simp [B.pairs, B.loadF, B.upd, tup, bv, iv, B.b2i, e1, e2, wrap64_0, wrap64_1])
  have hok : B.okAll (B.varsU 5) (([bv cu, bv r, iv pv] ++ [bv b0, bv b1, iv p0, bv q, iv n, bv m].drop 3).map tup) = true := by
    rw [hv]
    simp [B.okAll, okBool, okInt pv h1 h2, okInt n (by omega) h4]
  unfold B.stepC
  rw [if_neg (by rw [hv]; simp), if_pos hok]
  rw [show B.stepF 5 = B.ctuF from by simp [B.stepF]]
  generalize B.ctuF _ (B.clampT 0) = g at hT
  rw [hv]
  generalize decide (pv ≤ cuN cu r m n) = q' at hT ⊢
  simp [B.outs, hT.h1, hT.h2, hT.h3, hT.h4, hT.h5, hT.h6, tup, bv, iv]
  cases cu <;> cases r <;> cases q' <;> simp [B.b2i, u64_0, u64_1]
theorem cuN_bd (cu r m : Bool) (n : Int) (h3 : 0 ≤ n) (h4 : n ≤ 32767) : 0 ≤ cuN cu r m n ∧ cuN cu r m n ≤ 32767 := by
  unfold cuN
  repeat' split
  all_goals omega

end Go.Proofs.Ytfadafgnahhmdaa.X
namespace Go.Proofs.Ytfadafgnahhmdaa.X
open Go.RowKit Go.Proofs.YtfadafgnahhmdaaW.PrintWords Go.Proofs.YtfadafgnahhmdaaW.PrintLast Go.Proofs.YtfadafgnahhmdaaW.PrintMore Go.Proofs.Ytfadafgnahhmdaa.E
attribute [local go_sem] max2_int min2_int max_two min_two max_three min_three max_four min_four
set_option linter.unusedVariables false
set_option linter.unusedSimpArgs false

/-! ### CTUD's step on its cells -/
structure Cd (f : ByteArray → Int) (cu cd r ld : Bool) (pv : Int) (qu qd : Bool) (n : Int) (m b : Bool) : Prop where
  h1 : f ⟨#[67, 85]⟩ = B.b2i cu
  h2 : f ⟨#[67, 68]⟩ = B.b2i cd
  h3 : f ⟨#[82]⟩ = B.b2i r
  h4 : f ⟨#[76, 68]⟩ = B.b2i ld
  h5 : f ⟨#[80, 86]⟩ = pv
  h6 : f ⟨#[81, 85]⟩ = B.b2i qu
  h7 : f ⟨#[81, 68]⟩ = B.b2i qd
  h8 : f ⟨#[67, 86]⟩ = n
  h9 : f ⟨#[77]⟩ = B.b2i m
  h10 : f ⟨#[78]⟩ = B.b2i b
theorem b2i_is (b : Bool) : (B.b2i b == 1) = b := by cases b <;> rfl
section
variable {f : ByteArray → Int} {cu cd r ld : Bool} {pv : Int} {qu qd : Bool} {n : Int} {m b : Bool}
theorem Cd.setn (h : Cd f cu cd r ld pv qu qd n m b) (n' : Int) : Cd (B.upd f ⟨#[67, 86]⟩ n') cu cd r ld pv qu qd n' m b := by
  obtain ⟨a1, a2, a3, a4, a5, a6, a7, a8, a9, a10⟩ := h; constructor <;> simp [B.upd, a1, a2, a3, a4, a5, a6, a7, a8, a9, a10]
theorem Cd.setqu (h : Cd f cu cd r ld pv qu qd n m b) : Cd (B.full ⟨#[81, 85]⟩ f) cu cd r ld pv (decide (pv ≤ n)) qd n m b := by
  obtain ⟨a1, a2, a3, a4, a5, a6, a7, a8, a9, a10⟩ := h; constructor <;> simp [B.full, B.upd, a1, a2, a3, a4, a5, a6, a7, a8, a9, a10]
theorem Cd.setqd (h : Cd f cu cd r ld pv qu qd n m b) : Cd (B.empty ⟨#[81, 68]⟩ f) cu cd r ld pv qu (decide (n ≤ 0)) n m b := by
  obtain ⟨a1, a2, a3, a4, a5, a6, a7, a8, a9, a10⟩ := h; constructor <;> simp [B.empty, B.upd, a1, a2, a3, a4, a5, a6, a7, a8, a9, a10]
theorem Cd.setm (h : Cd f cu cd r ld pv qu qd n m b) : Cd (B.after ⟨#[77]⟩ ⟨#[67, 85]⟩ f) cu cd r ld pv qu qd n cu b := by
  obtain ⟨a1, a2, a3, a4, a5, a6, a7, a8, a9, a10⟩ := h; constructor <;> simp [B.after, B.upd, a1, a2, a3, a4, a5, a6, a7, a8, a9, a10]
  cases cu <;> simp [B.b2i]
theorem Cd.setb (h : Cd f cu cd r ld pv qu qd n m b) : Cd (B.after ⟨#[78]⟩ ⟨#[67, 68]⟩ f) cu cd r ld pv qu qd n m cd := by
  obtain ⟨a1, a2, a3, a4, a5, a6, a7, a8, a9, a10⟩ := h; constructor <;> simp [B.after, B.upd, a1, a2, a3, a4, a5, a6, a7, a8, a9, a10]
  cases cd <;> simp [B.b2i]
end
def cdV (u d : Bool) (n : Int) : Int := if u = true ∧ d = false ∧ n < 32767 then n + 1 else if d = true ∧ u = false ∧ -32768 < n then n - 1 else n
def cdN (r ld u d : Bool) (pv n : Int) : Int := if r = true then 0 else if ld = true then pv else cdV u d n
theorem ctudV_abs (f : ByteArray → Int) (cu cd r ld : Bool) (pv : Int) (qu qd : Bool) (n : Int) (m b u d : Bool) (hf : Cd f cu cd r ld pv qu qd n m b) : Cd (B.ctudV f u d) cu cd r ld pv qu qd (cdN r ld u d pv n) m b := by
  unfold B.ctudV cdN
  rw [hf.h3, hf.h4, hf.h5, hf.h8, b2i_is, b2i_is]
  cases r with
  | true => simpa using hf.setn 0
  | false =>
    cases ld with
    | true => simpa using hf.setn pv
    | false =>
      unfold cdV
      cases u <;> cases d
      · simpa using hf
      · by_cases hn : -32768 < n
        · simpa [hn] using hf.setn (n - 1)
        · simpa [hn] using hf
      · by_cases hn : n < 32767
        · simpa [hn] using hf.setn (n + 1)
        · simpa [hn] using hf
      · simpa using hf
theorem ctud_abs (f : ByteArray → Int) (cu cd r ld : Bool) (pv : Int) (qu qd : Bool) (n : Int) (m b : Bool) (t : Int) (hf : Cd f cu cd r ld pv qu qd n m b) :
    Cd (B.ctudF f t) cu cd r ld pv (decide (pv ≤ cdN r ld (cu && !m) (cd && !b) pv n)) (decide (cdN r ld (cu && !m) (cd && !b) pv n ≤ 0)) (cdN r ld (cu && !m) (cd && !b) pv n) cu cd := by
  unfold B.ctudF
  rw [hf.h1, hf.h2, hf.h9, hf.h10, b2i_is, b2i_is, b2i_is, b2i_is]
  exact (ctudV_abs f cu cd r ld pv qu qd n m b (cu && !m) (cd && !b) hf).setqu.setqd.setm.setb
theorem w64b (b : Bool) : wrap64 (B.b2i b) = B.b2i b := by cases b <;> (unfold wrap64 B.b2i; decide)
theorem u64b (b : Bool) : IntKind.u64.wrap (B.b2i b) = B.b2i b := by cases b <;> decide
theorem ctud_step (cu cd r ld c0 c1 c2 c3 : Bool) (pv p0 : Int) (qu qd : Bool) (n : Int) (m b : Bool) (h1 : -32768 ≤ pv) (h2 : pv ≤ 32767) (h3 : -32768 ≤ n) (h4 : n ≤ 32767) (N : Int) (hN : cdN r ld (cu && !m) (cd && !b) pv n = N) :
    B.stepC 7 (([bv cu, bv cd, bv r, bv ld, iv pv] ++ [bv c0, bv c1, bv c2, bv c3, iv p0, bv qu, bv qd, iv n, bv m, bv b].drop 5).map tup) 0 = ([bv cu, bv cd, bv r, bv ld, iv pv, bv (decide (pv ≤ N)), bv (decide (N ≤ 0)), iv N, bv cu, bv cd].map tup, 0) := by
  subst hN
  have e1 := w64_u pv (by omega) (by omega)
  have e2 := w64_u n (by omega) (by omega)
  have hv : B.varsU 7 = [(⟨#[67, 85]⟩, 1, 1, false), (⟨#[67, 68]⟩, 1, 1, false), (⟨#[82]⟩, 1, 1, false), (⟨#[76, 68]⟩, 1, 1, false), (⟨#[80, 86]⟩, 1, 3, false), (⟨#[81, 85]⟩, 2, 1, false), (⟨#[81, 68]⟩, 2, 1, false), (⟨#[67, 86]⟩, 2, 3, false), (⟨#[77]⟩, 4, 1, false), (⟨#[78]⟩, 4, 1, false)] := by
    simp [B.varsU, B.vars]
  have hT := ctud_abs (B.loadF (B.pairs (B.varsU 7) (([bv cu, bv cd, bv r, bv ld, iv pv] ++ [bv c0, bv c1, bv c2, bv c3, iv p0, bv qu, bv qd, iv n, bv m, bv b].drop 5).map tup))) cu cd r ld pv qu qd n m b (B.clampT 0) (by
    rw [hv]
    constructor <;> simp [B.pairs, B.loadF, B.upd, tup, bv, iv, e1, e2, w64b])
  have hok : B.okAll (B.varsU 7) (([bv cu, bv cd, bv r, bv ld, iv pv] ++ [bv c0, bv c1, bv c2, bv c3, iv p0, bv qu, bv qd, iv n, bv m, bv b].drop 5).map tup) = true := by
    rw [hv]
    simp [B.okAll, okBool, okInt pv h1 h2, okInt n h3 h4]
  unfold B.stepC
  rw [if_neg (by rw [hv]; simp), if_pos hok]
  rw [show B.stepF 7 = B.ctudF from by simp [B.stepF]]
  generalize B.ctudF _ (B.clampT 0) = g at hT
  rw [hv]
  generalize decide (pv ≤ cdN r ld (cu && !m) (cd && !b) pv n) = q1 at hT ⊢
  generalize decide (cdN r ld (cu && !m) (cd && !b) pv n ≤ 0) = q2 at hT ⊢
  simp [B.outs, hT.h1, hT.h2, hT.h3, hT.h4, hT.h5, hT.h6, hT.h7, hT.h8, hT.h9, hT.h10, tup, bv, iv, u64b]
theorem cdV_bd (u d : Bool) (n : Int) (h3 : -32768 ≤ n) (h4 : n ≤ 32767) : -32768 ≤ cdV u d n ∧ cdV u d n ≤ 32767 := by
  unfold cdV
  repeat' split
  all_goals omega

end Go.Proofs.Ytfadafgnahhmdaa.X
namespace Go.Proofs.Ytfadafgnahhmdaa.X
open Go.RowKit Go.Proofs.YtfadafgnahhmdaaW.PrintWords Go.Proofs.YtfadafgnahhmdaaW.PrintLast Go.Proofs.YtfadafgnahhmdaaW.PrintMore Go.Proofs.Ytfadafgnahhmdaa.E
attribute [local go_sem] max2_int min2_int max_two min_two max_three min_three max_four min_four
set_option linter.unusedVariables false
set_option linter.unusedSimpArgs false

/-! ### the lists that the laws go over: append of a literal and the argument -/
theorem info4 : (Try.prog.info? 4).map (fun i => (i.zero, i.size, i.bytes)) = some (some (.bool false), 1, 1) := by kernel_rfl
theorem R_litB (W : World) (base : Nat) (hb : base ≤ W.heap.size) (xs : List Bool) (cs : Array Value) (h : cs = (encs Value.bool xs).toArray) (hl : xs.length ≤ 1000) : Kd.R Kd.bool 4 (W.alloc (.cells cs 4)) base (fun _ => True) (.slice (some ⟨W.heap.size, 0, none⟩) xs.length xs.length) xs := by
  subst h
  exact ⟨fun _ _ => trivial, OwnRow.lit (ps := xs) W base (Kd.reps_scalar xs) hb (by omega)⟩
structure Tk where
  f0 : Bool
  f1 : Int
def kT : Kd Tk := Kd.iso (Kd.pair Kd.bool (Kd.int .i64)) (fun x : Tk => (x.f0, x.f1))
theorem kT_open {w : World} {x : Tk} {cs : List Value} (h : kT.K w x cs) : cs = [.bool x.f0, .int .i64 x.f1] := by
  obtain ⟨_, _, rfl, rfl, rfl⟩ := h
  exact rfl
theorem kT_mk (w : World) (x : Tk) : kT.K w x [.bool x.f0, .int .i64 x.f1] := ⟨[.bool x.f0], [.int .i64 x.f1], rfl, rfl, rfl⟩
theorem kT_mkM (w : World) (base : Nat) (ok : Nat → Prop) (x : Tk) : kT.M w base ok x [.bool x.f0, .int .i64 x.f1] := ⟨[.bool x.f0], [.int .i64 x.f1], rfl, rfl, rfl⟩
theorem info52 : (Try.prog.info? 52).map (fun i => (i.zero, i.size, i.bytes)) = some (some (.agg #[.bool false, .int .i64 0]), 2, 16) := by kernel_rfl
theorem R_litT (W : World) (base : Nat) (hb : base ≤ W.heap.size) (x : Tk) : Kd.R kT 52 (W.alloc (.cells #[.bool x.f0, .int .i64 x.f1] 52)) base (fun _ => True) (.slice (some ⟨W.heap.size, 0, none⟩) 1 1) [x] := by
  refine ⟨fun _ _ => trivial, OwnRow.lit (ps := [x]) W base (inner := [.bool x.f0, .int .i64 x.f1]) ?_ hb (by simp)⟩
  refine ⟨rfl, fun j p hj => ?_⟩
  match j with
  | 0 =>
    simp at hj
    subst hj
    exact kT_mkM _ _ _ x
  | j + 1 => simp at hj
theorem at_T {w : World} {A : Option Addr} {n : Nat} {xs : List Tk} (h : Kd.C kT w A n xs) (j : Nat) (h1 : j < n) : ∃ ad x, A = some ad ∧ xs[j]? = some x ∧ w.cell? (ad.add (j * 2)) = some (.bool x.f0) ∧ w.cell? ⟨(ad.add (j * 2)).block, (ad.add (j * 2)).off + 1, none⟩ = some (.int .i64 x.f1) := by
  obtain ⟨ad, rfl, hc⟩ := h.2.2 (by omega)
  have hl := h.1
  obtain ⟨x, hx⟩ : ∃ x, xs[j]? = some x := ⟨_, List.getElem?_eq_getElem (by omega)⟩
  obtain ⟨c, _, hK, hcell⟩ := hc j x hx
  obtain rfl := kT_open hK
  exact ⟨ad, x, rfl, hx, hcell 0 _ rfl, by rw [← add_field _ _ 1 (by omega)]; exact hcell 1 _ rfl⟩
theorem at_B {w : World} {A : Option Addr} {n : Nat} {xs : List Bool} (h : Kd.C Kd.bool w A n xs) (j : Nat) (h1 : j < n) : ∃ ad x, A = some ad ∧ xs[j]? = some x ∧ w.cell? (ad.add j) = some (.bool x) := by
  obtain ⟨ad, rfl, hc⟩ := h.2.2 (by omega)
  have hl := h.1
  obtain ⟨x, hx⟩ : ∃ x, xs[j]? = some x := ⟨_, List.getElem?_eq_getElem (by omega)⟩
  obtain ⟨c, _, hK, hcell⟩ := hc j x hx
  have hK2 : c = [.bool x] := hK
  subst hK2
  have := hcell 0 _ rfl
  rw [show Kd.bool.sz = 1 from rfl, Nat.mul_one, Nat.add_zero] at this
  exact ⟨ad, x, rfl, hx, this⟩
theorem startG (k : Int) (L : List S34) (n : Nat) (w : World) (h : startL k = L) (hn : L.length = n) (h0 : 0 < n) :
    Calls Try.prog 23 #[.int .i64 k] w fun e w' => ∃ g c, e = .returned (.slice (some ⟨g, 0, none⟩) n c) ∧ Kd.C k34 w' (some ⟨g, 0, none⟩) n L ∧ Below w.heap.size w w' := by
  refine (start_calls k w).mono ?_
  rintro e w' ⟨v, rfl, hR, hb⟩
  rw [h] at hR
  obtain ⟨g, cap, rfl, _, _, _⟩ := Kd.R_form hR (by omega)
  have hC := (Kd.R_reads' hR).2.2
  rw [hn] at hC ⊢
  exact ⟨g, cap, rfl, hC, hb⟩
theorem start3 : startL 3 = [bv false, bv false, bv false] := by simp [startL, B.varsU, B.vars, bv, B.b2i]
theorem start4 : startL 4 = [bv false, bv false, bv true] := by simp [startL, B.varsU, B.vars, bv, B.b2i]
theorem start5 : startL 5 = [bv false, bv false, iv 0, bv false, iv 0, bv false] := by simp [startL, B.varsU, B.vars, bv, iv, B.b2i, u64_0]
theorem start7 : startL 7 = [bv false, bv false, bv false, bv false, iv 0, bv false, bv false, iv 0, bv false, bv false] := by simp [startL, B.varsU, B.vars, bv, iv, B.b2i, u64_0]
theorem start8 : startL 8 = [bv false, tv 0, bv false, tv 0, bv false, tv 0] := by simp [startL, B.varsU, B.vars, bv, tv, B.b2i, u64_0]
theorem start9 : startL 9 = [bv false, tv 0, bv false, tv 0, bv false, tv 0] := by simp [startL, B.varsU, B.vars, bv, tv, B.b2i, u64_0]
theorem start10 : startL 10 = [bv false, tv 0, bv false, tv 0, bv false, tv 0] := by simp [startL, B.varsU, B.vars, bv, tv, B.b2i, u64_0]

end Go.Proofs.Ytfadafgnahhmdaa.X
namespace Go.Proofs.Ytfadafgnahhmdaa.X
open Go.RowKit Go.Proofs.YtfadafgnahhmdaaW.PrintWords Go.Proofs.YtfadafgnahhmdaaW.PrintLast Go.Proofs.YtfadafgnahhmdaaW.PrintMore Go.Proofs.Ytfadafgnahhmdaa.E
attribute [local go_sem] max2_int min2_int max_two min_two max_three min_three max_four min_four
set_option linter.unusedVariables false
set_option linter.unusedSimpArgs false

open Go.ChangeShapes Go.WideShapes
/-- a slice of bools as the row hands it -/
theorem open_bools {H : Type} {enc : TypeId × Value → H} {W : World} {a : Option Addr} {len cap : Nat} {d : DataW H} {ps : List MemPlace} {ts : List TypeId} {ds : List (DataW H)} {j : Nat}
    (hsz : (DataW.weightsEach Try.prog ts ds).all (· ≤ reachBytes) = true) (ht : ts[j]? = some 44) (hd : ds[j]? = some d)
    (h : DataW.Trod enc Try.prog W 0 (fun _ => true) true 44 (.slice a len cap) d ps) : ∃ xs : List Bool, Kd.C Kd.bool W a len xs ∧ len ≤ 140737488351232 := by
  obtain ⟨fuel, hf⟩ := h
  rcases Go.Deep.open_bools Try.underlying44 Try.underlying4 (by kernel_rfl) hf with ⟨hcs, _⟩ | ⟨x, l, c, b, hcs, _, hl, hm, hx, hcell⟩
  · simp [Value.cells] at hcs
    obtain ⟨rfl, rfl, rfl⟩ := hcs
    exact ⟨[], Kd.C_nil _ _, by omega⟩
  · simp [Value.cells] at hcs
    obtain ⟨rfl, rfl, rfl⟩ := hcs
    obtain ⟨hx, _⟩ := Prod.mk.inj hx
    subst hx
    have hm2 : cap ≤ maxLen := hm
    unfold maxLen at hm2
    have hbd : len ≤ 140737488351232 := by
      have z := sized_slice hsz ht hd Try.underlying44
      rw [show Try.prog.bytesOf 4 = 1 from by kernel_rfl] at z
      simp at z
      unfold reachBytes at z
      omega
    refine ⟨(List.range len).map b, ⟨by simp, by omega, fun _ => ⟨x, rfl, fun i p hp => ⟨[.bool p], rfl, rfl, fun q u hu => ?_⟩⟩⟩, hbd⟩
    obtain ⟨hi, he⟩ := List.getElem?_eq_some_iff.1 hp
    simp at hi he
    subst he
    match q with
    | 0 =>
      simp at hu
      subst hu
      rw [show Kd.bool.sz = 1 from rfl, Nat.mul_one, Nat.add_zero]
      exact hcell i (by omega)
    | q + 1 => simp at hu
instance : Inhabited Tk := ⟨⟨false, 0⟩⟩
/-- a slice of ticks as the row hands it -/
theorem open_ticks {H : Type} {enc : TypeId × Value → H} {W : World} {a : Option Addr} {len cap : Nat} {d : DataW H} {ps : List MemPlace} {ts : List TypeId} {ds : List (DataW H)} {j : Nat}
    (hsz : (DataW.weightsEach Try.prog ts ds).all (· ≤ reachBytes) = true) (ht : ts[j]? = some 49) (hd : ds[j]? = some d)
    (h : DataW.Trod enc Try.prog W 0 (fun _ => true) true 49 (.slice a len cap) d ps) : ∃ xs : List Tk, (Kd.C kT W a len xs ∧ ∀ x ∈ xs, (Lit.int .i64 x.f1).wf = true) ∧ len * 16 ≤ 140737488351232 := by
  obtain ⟨fuel, hf⟩ := h
  rcases Go.Deep.open_slice_pairs Try.underlying49 Try.underlying52 (by kernel_rfl) rfl rfl (by kernel_rfl) (by kernel_rfl) hf with ⟨hcs, _⟩ | ⟨x, l, c, m, n, V0, V1, D0, D1, P0, P1, hcs, _, hl, hm, hmm, hx, hcell⟩
  · simp [Value.cells] at hcs
    obtain ⟨rfl, rfl, rfl⟩ := hcs
    exact ⟨[], ⟨Kd.C_nil _ _, by simp⟩, by omega⟩
  · simp [Value.cells] at hcs
    obtain ⟨rfl, rfl, rfl⟩ := hcs
    obtain ⟨hx, _⟩ := Prod.mk.inj hx
    subst hx
    simp at hmm
    subst hmm
    have hm2 : m ≤ maxLen := hm
    unfold maxLen at hm2
    have hbd : len * 16 ≤ 140737488351232 := by
      have z := sized_slice hsz ht hd Try.underlying49
      rw [show Try.prog.bytesOf 52 = 16 from by kernel_rfl] at z
      simp at z
      unfold reachBytes at z
      omega
    obtain ⟨f, hf⟩ := Go.Deep.choose_lt (α := Tk) (n := m) (p := fun i y => V0 i = .bool y.f0 ∧ V1 i = .int .i64 y.f1 ∧ (Lit.int .i64 y.f1).wf = true) (fun i hi => by
      obtain ⟨_, _, h0, h1⟩ := hcell i hi
      obtain ⟨b, e1, _⟩ := DataW.trod_bool Try.underlying4 h0
      obtain ⟨q, e2, _, hw⟩ := DataW.trod_int Try.underlying3 h1
      exact ⟨⟨b, q⟩, by simpa using e1, by simpa using e2, hw⟩)
    refine ⟨(List.range len).map f, ⟨⟨by simp, by omega, fun _ => ⟨x, rfl, fun i p hp => ?_⟩⟩, ?_⟩, hbd⟩
    · obtain ⟨hi, he⟩ := List.getElem?_eq_some_iff.1 hp
      simp at hi he
      subst he
      obtain ⟨e1, e2, _⟩ := hf i (by omega)
      obtain ⟨c0, c1, _, _⟩ := hcell i (by omega)
      refine ⟨[.bool (f i).f0, .int .i64 (f i).f1], rfl, kT_mk W (f i), fun q u hu => ?_⟩
      rw [show kT.sz = 2 from rfl]
      match q with
      | 0 =>
        simp at hu
        subst hu
        rw [← e1]
        exact c0
      | 1 =>
        simp at hu
        subst hu
        rw [← e2]
        exact c1
      | q + 2 => simp at hu
    · intro y hy
      obtain ⟨i, hi, rfl⟩ := List.mem_map.1 hy
      exact (hf i (by have := List.mem_range.1 hi; omega)).2.2

end Go.Proofs.Ytfadafgnahhmdaa.X
namespace Go.Proofs.Ytfadafgnahhmdaa.X
open Go.RowKit Go.Proofs.YtfadafgnahhmdaaW.PrintWords Go.Proofs.YtfadafgnahhmdaaW.PrintLast Go.Proofs.YtfadafgnahhmdaaW.PrintMore Go.Proofs.Ytfadafgnahhmdaa.E
attribute [local go_sem] max2_int min2_int max_two min_two max_three min_three max_four min_four
set_option linter.unusedVariables false
set_option linter.unusedSimpArgs false

open Go.ChangeShapes Go.WideShapes
theorem u64_wf {n : Int} (h : (Lit.int .u64 n).wf = true) : 0 ≤ n ∧ n ≤ 18446744073709551615 := by
  have hmin : IntKind.u64.min = 0 := rfl
  have hmax : IntKind.u64.max = 18446744073709551615 := rfl
  simp only [Lit.wf, Bool.and_eq_true, decide_eq_true_eq] at h
  omega
/-- a value's cells, as the row hands them -/
theorem elem34 {H : Type} {enc : TypeId × Value → H} {W : World} {base : Nat} {spare : Nat → Bool} {held : Bool} {n : Nat} {cs : List Value} {y : DataW H × List MemPlace} (h : DataW.trod enc Try.prog W base spare held n 34 cs = some y) (hl : cs.length = 3) :
    ∃ c : S34, cs = [.int .u8 c.f0, .int .u64 c.f1, .string c.f2] ∧ 0 ≤ c.f1 := by
  obtain ⟨xs, k, hk, hxy, _, hxl, hf⟩ := DataW.trod_struct Try.underlying34 h
  match xs, hxl, cs, hl with
  | [y0, y1, y2], _, [v0, v1, v2], _ =>
    have g0 := hf 0 _ rfl
    have g1 := hf 1 _ rfl
    have g2 := hf 2 _ rfl
    have c0 : Try.prog.cellsOf 31 = 1 := by kernel_rfl
    have c1 : Try.prog.cellsOf 32 = 1 := by kernel_rfl
    have c2 : Try.prog.cellsOf 9 = 1 := by kernel_rfl
    simp [c0, c1, c2] at g0 g1 g2
    obtain ⟨q0, e0, _, w0⟩ := DataW.trod_int Try.underlying31 g0
    obtain ⟨q1, e1, _, w1⟩ := DataW.trod_int Try.underlying32 g1
    obtain ⟨s, e2, _, _⟩ := DataW.trod_string Try.underlying9 g2
    simp at e0 e1 e2
    subst e0 e1 e2
    exact ⟨⟨q0, q1, s⟩, rfl, (u64_wf w1).1⟩
instance : Inhabited S34 := ⟨⟨0, 0, ⟨#[]⟩⟩⟩
/-- a slice of values as the row hands it -/
theorem open_valuesF {H : Type} {enc : TypeId × Value → H} {W : World} {base : Nat} {spare : Nat → Bool} {held : Bool} {a : Option Addr} {len cap fuel : Nat} {x : DataW H × List MemPlace}
    (hf : DataW.trod enc Try.prog W base spare held fuel 30 [.slice a len cap] = some x) (hsp : ∀ b, spare b = true) : ∃ xs : List S34, Kd.C k34 W a len xs ∧ (∀ x ∈ xs, 0 ≤ x.f1) ∧ len ≤ cap := by
  rcases Go.Deep.open_slice Try.underlying30 hf with ⟨hcs, _⟩ | ⟨ad, l, c, m, n, D, Pl, hcs, _, hl, hm, hmm, _, hx⟩
  · injection hcs with hcs
    injection hcs with h1 h2 h3
    subst h1 h2 h3
    exact ⟨[], Kd.C_nil _ _, by simp, Nat.le_refl _⟩
  · injection hcs with hcs
    injection hcs with h1 h2 h3
    subst h1 h2 h3
    rw [hsp, if_pos rfl] at hmm
    subst hmm
    have hm2 : m ≤ maxLen := hm
    unfold maxLen at hm2
    have ce : Try.prog.cellsOf 34 = 3 := by kernel_rfl
    obtain ⟨f, hf⟩ := Go.Deep.choose_lt (α := S34) (n := m) (p := fun i y => W.cell? (ad.add (i * 3)) = some (.int .u8 y.f0) ∧ W.cell? (ad.add (i * 3 + 1)) = some (.int .u64 y.f1) ∧ W.cell? (ad.add (i * 3 + 2)) = some (.string y.f2) ∧ 0 ≤ y.f1) (fun i hi => by
      obtain ⟨cs', g1, g2⟩ := hx i hi
      rw [ce] at g1
      obtain ⟨_, hlen, hcell⟩ := World.cells?_some g1
      obtain ⟨q, rfl, hq⟩ := elem34 g2 hlen
      have e0 := hcell 0 (by omega)
      have e1 := hcell 1 (by omega)
      have e2 := hcell 2 (by omega)
      rw [Go.Deep.add_add] at e0 e1 e2
      exact ⟨q, by simpa using e0, by simpa using e1, by simpa using e2, hq⟩)
    refine ⟨(List.range len).map f, ⟨by simp, by omega, fun _ => ⟨ad, rfl, fun i p hp => ?_⟩⟩, ?_, hl⟩
    · obtain ⟨hi, he⟩ := List.getElem?_eq_some_iff.1 hp
      simp at hi he
      subst he
      obtain ⟨e0, e1, e2, _⟩ := hf i (by omega)
      refine ⟨[.int .u8 (f i).f0, .int .u64 (f i).f1, .string (f i).f2], rfl, k34_mk W (f i), fun q u hu => ?_⟩
      rw [show k34.sz = 3 from rfl]
      match q with
      | 0 => simp at hu; subst hu; exact e0
      | 1 => simp at hu; subst hu; exact e1
      | 2 => simp at hu; subst hu; exact e2
      | q + 3 => simp at hu
    · intro y hy
      obtain ⟨i, hi, rfl⟩ := List.mem_map.1 hy
      exact (hf i (by have := List.mem_range.1 hi; omega)).2.2.2
theorem open_values {H : Type} {enc : TypeId × Value → H} {W : World} {a : Option Addr} {len cap : Nat} {d : DataW H} {ps : List MemPlace} {ts : List TypeId} {ds : List (DataW H)} {j : Nat}
    (hsz : (DataW.weightsEach Try.prog ts ds).all (· ≤ reachBytes) = true) (ht : ts[j]? = some 30) (hd : ds[j]? = some d)
    (h : DataW.Trod enc Try.prog W 0 (fun _ => true) true 30 (.slice a len cap) d ps) : ∃ xs : List S34, (Kd.C k34 W a len xs ∧ ∀ x ∈ xs, 0 ≤ x.f1) ∧ len * 32 ≤ 140737488351232 ∧ len ≤ cap := by
  obtain ⟨fuel, hf⟩ := h
  obtain ⟨xs, hC, hp, hc⟩ := open_valuesF hf (fun _ => rfl)
  refine ⟨xs, ⟨hC, hp⟩, ?_, hc⟩
  rcases Go.Deep.open_slice Try.underlying30 hf with ⟨hcs, _⟩ | ⟨ad, l, c, m, n, D, Pl, hcs, _, hl, hm, hmm, hxd, hx⟩
  · injection hcs with hcs
    injection hcs with h1 h2 h3
    omega
  · injection hcs with hcs
    injection hcs with h1 h2 h3
    subst h1 h2 h3
    obtain ⟨hxd, _⟩ := Prod.mk.inj hxd
    subst hxd
    have z := sized_slice hsz ht hd Try.underlying30
    rw [show Try.prog.bytesOf 34 = 32 from by kernel_rfl] at z
    simp at z
    unfold reachBytes at z
    omega

end Go.Proofs.Ytfadafgnahhmdaa.X
