import Derived.Test.YtfadafgnahhmdaaZ
import Derived.Test.YtfadafgnahhmdaaC
import Derived.Test.YtfadafgnahhmdaaB
import Derived.Laws.IdiomCopy
namespace Go.Proofs.Ytfadafgnahhmdaa.X
open Go.RowKit Go.Proofs.YtfadafgnahhmdaaW.PrintWords Go.Proofs.YtfadafgnahhmdaaW.PrintLast Go.Proofs.YtfadafgnahhmdaaW.PrintMore Go.Proofs.Ytfadafgnahhmdaa.E
attribute [local go_sem] max2_int min2_int max_two min_two max_three min_three max_four min_four
set_option linter.unusedVariables false
set_option linter.unusedSimpArgs false

/-! ### copy of rows of values; the law's step -/
def c3 (x : S34) : List Value := [.int .u8 x.f0, .int .u64 x.f1, .string x.f2]
def cells34 (l : List S34) : List Value := l.flatMap c3
theorem cells34_len : ∀ l : List S34, (cells34 l).length = l.length * 3
  | [] => rfl
  | x :: r => by
    have := cells34_len r
    unfold cells34 at this ⊢
    rw [List.flatMap_cons, List.length_append, this]
    simp [c3]
    omega
theorem cells34_get : ∀ (l : List S34) (j : Nat) (x : S34) (i : Nat), l[j]? = some x → i < 3 → (cells34 l)[j * 3 + i]? = (c3 x)[i]?
  | [], j, x, i, h, _ => by simp at h
  | y :: r, 0, x, i, h, hi => by
    simp at h
    subst h
    unfold cells34
    rw [List.flatMap_cons, List.getElem?_append_left (by simp [c3]; omega)]
    congr 1
    omega
  | y :: r, j + 1, x, i, h, hi => by
    have := cells34_get r j x i (by simpa using h) hi
    unfold cells34 at this ⊢
    rw [List.flatMap_cons, List.getElem?_append_right (by simp [c3]; omega)]
    rw [← this]
    congr 1
    simp [c3]
    omega
theorem cells34_one (l : List S34) : ∀ v ∈ cells34 l, v.oneCell' = true := by
  intro v hv
  unfold cells34 at hv
  obtain ⟨x, _, hx⟩ := List.mem_flatMap.1 hv
  simp [c3] at hx
  rcases hx with rfl | rfl | rfl <;> rfl
/-- a row's cells, one after another -/
theorem C34_cells {w : World} {ad : Addr} {n : Nat} {l : List S34} (h : Kd.C k34 w (some ad) n l) : ∀ q u, (cells34 l)[q]? = some u → w.cell? (ad.add q) = some u := by
  intro q u hq
  have hlt : q < l.length * 3 := by
    rw [← cells34_len]
    exact (List.getElem?_eq_some_iff.1 hq).1
  have hn := h.1
  obtain ⟨ad', e, hc⟩ := h.2.2 (by omega)
  cases e
  obtain ⟨x, hx⟩ : ∃ x, l[q / 3]? = some x := ⟨_, List.getElem?_eq_getElem (by omega)⟩
  obtain ⟨c, _, hK, hcell⟩ := hc (q / 3) x hx
  obtain rfl := k34_open hK
  have e := cells34_get l (q / 3) x (q % 3) hx (Nat.mod_lt _ (by decide))
  rw [show q / 3 * 3 + q % 3 = q by omega] at e
  have := hcell (q % 3) u (by rw [← hq, e]; rfl)
  rw [show k34.sz = 3 from rfl] at this
  rwa [show q / 3 * 3 + q % 3 = q by omega] at this
/-- a row from its cells -/
theorem C34_of {w : World} {ad : Addr} {n : Nat} {l : List S34} (hl : l.length = n) (hn : n ≤ 1000) (h : ∀ q u, (cells34 l)[q]? = some u → w.cell? (ad.add q) = some u) : Kd.C k34 w (some ad) n l := by
  refine ⟨hl, by omega, fun _ => ⟨ad, rfl, fun j x hx => ⟨c3 x, rfl, k34_mk w x, fun i u hu => ?_⟩⟩⟩
  refine h _ u ?_
  rw [show k34.sz = 3 from rfl]
  have hi : i < 3 := (List.getElem?_eq_some_iff.1 hu).1
  rw [cells34_get l j x i hx hi]
  exact hu
theorem cells34_append (a b : List S34) : cells34 (a ++ b) = cells34 a ++ cells34 b := List.flatMap_append
theorem run_copy_n {P : Program} (w : World) (dT sT ty elem : TypeId) (sz : Nat) (b o dLen dCap : Nat) (a : Addr) (sLen sCap : Nat) (cs : List Value)
    (hu : P.underlying dT = some (.slice elem)) (hs : (P.info? elem).map (·.size) = some sz) (hn : cs.length = Nat.min sLen dLen * sz)
    (hsrc : ∀ j v, cs[j]? = some v → w.cell? (a.add j) = some v) (hc : ∀ j, j < cs.length → (w.cell? ⟨b, o + j, none⟩).isSome = true) (hf : ∀ j, j < cs.length → w.frozen? ⟨b, o + j, none⟩ = false) (h1 : ∀ v ∈ cs, v.oneCell' = true) :
    (Builtin.copy_ #[dT, sT] ty #[.slice (some ⟨b, o, none⟩) dLen dCap, .slice (some a) sLen sCap]).run P w = .ok (goInt (Nat.min sLen dLen)) (w.setCells b o cs) := by
  have hl := run_loadCells_list (P := P) w a cs hsrc
  have hst := run_storeCells_cells (P := P) b o cs 0 w (by simpa using hc) (by simpa using hf) h1
  cases hq : P.info? elem with
  | none => simp [hq] at hs
  | some i =>
    have hi : i.size = sz := by simpa [hq] using hs
    simp [Builtin.copy_, run_underlying hu, Builtin.lenOf, Builtin.firstCells, sizeOf, typeInfo, hq, hi, ← hn, hl, hst]
theorem wpList_copyX {P : Program} {w : World} {ops : Array Oper} {rest : List Oper} {o : Oper} {a : Act} {Q : Exit → Act → World → Prop} (hgd : o.guard = none) (d s : Operand) (t t' : TypeId)
    (ho : o.op = .call { callee := .builtin .copy, args := #[d, s], argTypes := #[t, t'] }) (v u : Value) (hd : a.eval d = v) (hs : a.eval s = u) {v' : Value} {w' : World}
    (hr : (Builtin.copy_ #[t, t'] o.type #[v, u]).run P w = .ok v' w') (h : wpList P ops Q rest (a.put o.dst v') w') : wpList P ops Q (o :: rest) a w := by
  refine wpList_plain hgd fun K hK => ?_
  unfold Oper.wp execOp
  simp only [ho, resolve, invoke, builtin, Sem.run_bind, Sem.run_pure, Result.andThen_ok, List.map_toArray, List.map_cons, List.map_nil, hd, hs, hr]
  exact hK _ _ h
theorem add_blk (g q : Nat) : (⟨g, 0, none⟩ : Addr).add q = ⟨g, 0 + q, none⟩ := by unfold Addr.add; split <;> simp_all
theorem copy34 {base : Nat} {w1 : World} {g cap n m c : Nat} {B' : Option Addr} {l is : List S34} {cells : Array Value} (hR : Kd.R k34 34 w1 base (fun _ => True) (.slice (some ⟨g, 0, none⟩) n cap) l) (hl : l.length = n) (hg : w1.heap[g]? = some (.cells cells 34 (0, 0)))
    (hB : Kd.C k34 w1 B' m is) (h0 : 0 < m) (hm : m ≤ n) (hn : n ≤ 1000) :
    ∃ w2, (Builtin.copy_ #[30, 30] 3 #[.slice (some ⟨g, 0, none⟩) n cap, .slice B' m c]).run Try.prog w1 = .ok (.int .i64 m) w2 ∧ Kd.C k34 w2 (some ⟨g, 0, none⟩) n (is ++ l.drop m) ∧ w1.grownBy w2 (some g) := by
  obtain ⟨_, _, hC⟩ := Kd.R_reads' hR
  rw [hl] at hC
  have hcl := C34_cells hC
  have his : is.length = m := hB.1
  obtain ⟨ad, rfl, _⟩ := hB.2.2 h0
  have hcB := C34_cells hB
  have hlen : (cells34 is).length = m * 3 := by rw [cells34_len, his]
  have hsome : ∀ j, j < (cells34 is).length → (w1.cell? ⟨g, 0 + j, none⟩).isSome = true := by
    intro j hj
    have hj2 : j < (cells34 l).length := by rw [cells34_len, hl]; omega
    have := hcl j _ (List.getElem?_eq_getElem hj2)
    rw [show (⟨g, 0 + j, none⟩ : Addr) = (⟨g, 0, none⟩ : Addr).add j from (add_blk g j).symm, this]
    rfl
  have hr := run_copy_n (P := Try.prog) w1 30 30 3 34 3 g 0 n cap ad m c (cells34 is) Try.underlying30 (by have := info34; cases h : Try.prog.info? 34 with | none => rw [h] at this; simp at this | some i => rw [h] at this; simp at this; simp [this]) (by rw [hlen]; congr 1; exact (Nat.min_eq_left hm).symm) hcB hsome (fun j _ => blk_frozen hg _) (cells34_one is)
  obtain ⟨s1, s2, s3, s4⟩ := setCells_same g (cells34 is) 0 w1
  refine ⟨w1.setCells g 0 (cells34 is), ?_, C34_of (by rw [List.length_append, List.length_drop]; omega) hn ?_, ⟨s1, s2, s3, by rw [s4]; exact Nat.le_refl _, fun k _ hk => setCells_far _ _ k (fun he => hk (by rw [he]))⟩⟩
  · rw [hr]
    congr 1
    show goInt _ = _
    rw [show Nat.min m n = m from Nat.min_eq_left hm]
    rfl
  · intro q u hq
    rw [cells34_append] at hq
    have ea := add_blk g q
    rw [ea]
    by_cases hlt : q < (cells34 is).length
    · rw [World.cell?_setCells_in g (cells34 is) 0 w1 hsome q hlt]
      rw [List.getElem?_append_left hlt, List.getElem?_eq_getElem hlt] at hq
      exact hq
    · rw [World.cell?_setCells_out g (cells34 is) 0 w1 ⟨g, 0 + q, none⟩ (fun _ _ => by right; show 0 + (cells34 is).length ≤ 0 + q; omega)]
      rw [← ea]
      refine hcl q u ?_
      rw [List.getElem?_append_right (by omega), hlen] at hq
      have e : cells34 l = cells34 (l.take m) ++ cells34 (l.drop m) := by rw [← cells34_append, List.take_append_drop]
      rw [e, List.getElem?_append_right (by rw [cells34_len, List.length_take]; omega), cells34_len, List.length_take, Nat.min_eq_left (by omega)]
      exact hq
set_option maxHeartbeats 1600000 in
set_option maxRecDepth 100000 in
theorem step26_calls (k : Int) (A B' : Option Addr) (n cp m cp2 : Nat) (l is : List S34) (now : Int) (ol : List (Int × Int × ByteArray)) (w : World) (hA : Kd.C k34 w A n l) (hB : Kd.C k34 w B' m is) (hm0 : 0 < m) (hm : m ≤ n) (hn : n ≤ 1000)
    (hst : B.stepC k ((is ++ l.drop m).map tup) now = (ol, 0)) (hol : ol.length = n) :
    Calls Try.prog 26 #[.int .i64 k, .slice A n cp, .int .i64 now, .slice B' m cp2] w fun e w' => ∃ g c', e = .returned (.slice (some ⟨g, 0, none⟩) n c') ∧ Kd.C k34 w' (some ⟨g, 0, none⟩) n (ol.map unt) ∧ Below w.heap.size w w' := by
  have HA := Aside0.mk hA
  have HB := Aside0.mk hB
  have HST := Aside0.mk hst
  have HOL := Aside0.mk hol
  have t1 : ((n : Int) < (m : Int)) = False := eq_false (by omega)
  have t2 : ((0 : Int) == 0) = true := rfl
  have t3 : ((n : Int) != (n : Int)) = false := by simp
  clear hA hB hst hol
  go_enter Try.func26, Try.ntmps26
  go_wp2_with (first
    | (go_at_call 27; refine (clone_calls _ _ _ l _ HA.out (by omega)).mono ?_; rintro e w1 ⟨v, rfl, hR, hb⟩; have HR := Aside0.mk hR; have HB1 := Aside0.mk hb; clear hR hb; obtain ⟨g, cap, rfl, hg0, hg1, cells, hg⟩ := Kd.R_form HR.out (by have := HA.out.1; omega); (rw [show l.length = n from HA.out.1] at HR ⊢); have HG := Aside0.mk hg; have HG0 := Aside0.mk hg0; clear hg hg0 hg1)
    | ((with_reducible refine gate_builtin (b := .copy) (xs := #[.tmp 19, .tmp 20]) rfl ?_); obtain ⟨w2, hr2, hC2, hg2⟩ := copy34 (c := cp2) HR.out HA.out.1 HG.out (Kd.C_below HB.out HB1.out) hm0 hm hn; have HC2 := Aside0.mk hC2; have HB2 := Aside0.mk (HB1.out.grown hg2 HB1.out.size (fun k hk => by injection hk with hk; have := HG0.out; omega)); clear hC2 hg2; refine wpList_copyX rfl (.tmp 19) (.tmp 20) 30 30 rfl _ _ rfl rfl hr2 ?_; clear hr2)
    | (go_at_call 28; refine (step_calls _ _ _ _ (is ++ l.drop m) _ _ HC2.out).mono ?_; (rw [HST.out]); rintro e w3 ⟨v3, rfl, hR3, hb3⟩; (have hR3 : Kd.R k34 34 w3 w2.heap.size (fun _ => True) v3 (ol.map unt) := hR3); have HB3 := Aside0.mk (below_step HB2.out hb3); obtain ⟨g3, cap3, rfl, _, _, _⟩ := Kd.R_form hR3 (by rw [List.length_map]; have := HOL.out; omega); have HC3 := Aside0.mk (Kd.R_reads' hR3).2.2; clear hR3 hb3; (rw [show (List.map unt ol).length = n from (List.length_map _).trans HOL.out] at HC3 ⊢)))

  go_ret
  exact ⟨_, _, rfl, HC3.out, HB3.out⟩

theorem C34_at {w : World} {g n : Nat} {l : List S34} (h : Kd.C k34 w (some ⟨g, 0, none⟩) n l) (j : Nat) (x : S34) (hx : l[j]? = some x) :
    w.cell? ⟨g, j * 3, none⟩ = some (.int .u8 x.f0) ∧ w.cell? ⟨g, j * 3 + 1, none⟩ = some (.int .u64 x.f1) ∧ w.cell? ⟨g, j * 3 + 2, none⟩ = some (.string x.f2) := by
  have hc := C34_cells h
  have h0 := cells34_get l j x 0 hx (by decide)
  have h1 := cells34_get l j x 1 hx (by decide)
  have h2 := cells34_get l j x 2 hx (by decide)
  have e0 := hc _ _ h0
  have e1 := hc _ _ h1
  have e2 := hc _ _ h2
  rw [add_blk, Nat.zero_add] at e0 e1 e2
  exact ⟨e0, e1, e2⟩
theorem C34_lit (w : World) (is : List S34) (cs : Array Value) (h : cs.toList = cells34 is) (hn : is.length ≤ 1000) : Kd.C k34 (w.alloc (.cells cs 34)) (some ⟨w.heap.size, 0, none⟩) is.length is := by
  refine C34_of rfl hn fun q u hq => ?_
  rw [add_blk, Nat.zero_add, blk_cell (heap_alloc_new w (.cells cs 34)) q, ← Array.getElem?_toList, h]
  exact hq
/-- TRUE, FALSE as a value -/
def bv (b : Bool) : S34 := ⟨1, B.b2i b, ⟨#[]⟩⟩
def iv (n : Int) : S34 := ⟨3, IntKind.u64.wrap n, ⟨#[]⟩⟩
def tv (n : Int) : S34 := ⟨14, IntKind.u64.wrap n, ⟨#[]⟩⟩
theorem bitL (b : Bool) (w : World) : Calls Try.prog 25 #[.bool b] w fun e w' => e = .returned (.agg #[.int .u8 1, .int .u64 (B.b2i b), .string ⟨#[]⟩]) ∧ Below w.heap.size w w' := bit_calls b w

end Go.Proofs.Ytfadafgnahhmdaa.X

