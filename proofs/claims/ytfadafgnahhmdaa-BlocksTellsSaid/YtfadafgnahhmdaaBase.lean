/- Plain functions of this proof: what a block's variables, its start and a step of it are, as numbers and lists; nothing of the program here. -/
import Derived.IntWalk
namespace Go.Proofs.Ytfadafgnahhmdaa.B
open Go.RowKit

/-- may a value of kind BOOL, INT or TIME be? (of other kinds: not told) -/
def mayP (k b : Int) (t : ByteArray) : Option Bool :=
  if k = 1 then some (decide (t.toList = []) && decide (b ≤ 1))
  else if k = 3 then some (decide (t.toList = []) && (decide (-32768 ≤ wrap64 b) && decide (wrap64 b ≤ 32767)))
  else if k = 14 then some (decide (t.toList = [])) else none

/-- the variables of each block: name, class, kind -/
def vars (k : Int) : List (ByteArray × Int × Int) :=
  if k = 1 then [((⟨#[83, 49]⟩ : ByteArray), 1, 1), ((⟨#[82]⟩ : ByteArray), 1, 1), ((⟨#[81, 49]⟩ : ByteArray), 2, 1)]
  else if k = 2 then [((⟨#[83]⟩ : ByteArray), 1, 1), ((⟨#[82, 49]⟩ : ByteArray), 1, 1), ((⟨#[81, 49]⟩ : ByteArray), 2, 1)]
  else if k = 3 then [((⟨#[67, 76, 75]⟩ : ByteArray), 1, 1), ((⟨#[81]⟩ : ByteArray), 2, 1), ((⟨#[77]⟩ : ByteArray), 4, 1)]
  else if k = 4 then [((⟨#[67, 76, 75]⟩ : ByteArray), 1, 1), ((⟨#[81]⟩ : ByteArray), 2, 1), ((⟨#[77]⟩ : ByteArray), 4, 1)]
  else if k = 5 then [((⟨#[67, 85]⟩ : ByteArray), 1, 1), ((⟨#[82]⟩ : ByteArray), 1, 1), ((⟨#[80, 86]⟩ : ByteArray), 1, 3), ((⟨#[81]⟩ : ByteArray), 2, 1), ((⟨#[67, 86]⟩ : ByteArray), 2, 3), ((⟨#[77]⟩ : ByteArray), 4, 1)]
  else if k = 6 then [((⟨#[67, 68]⟩ : ByteArray), 1, 1), ((⟨#[76, 68]⟩ : ByteArray), 1, 1), ((⟨#[80, 86]⟩ : ByteArray), 1, 3), ((⟨#[81]⟩ : ByteArray), 2, 1), ((⟨#[67, 86]⟩ : ByteArray), 2, 3), ((⟨#[77]⟩ : ByteArray), 4, 1)]
  else if k = 7 then [((⟨#[67, 85]⟩ : ByteArray), 1, 1), ((⟨#[67, 68]⟩ : ByteArray), 1, 1), ((⟨#[82]⟩ : ByteArray), 1, 1), ((⟨#[76, 68]⟩ : ByteArray), 1, 1), ((⟨#[80, 86]⟩ : ByteArray), 1, 3), ((⟨#[81, 85]⟩ : ByteArray), 2, 1), ((⟨#[81, 68]⟩ : ByteArray), 2, 1), ((⟨#[67, 86]⟩ : ByteArray), 2, 3), ((⟨#[77]⟩ : ByteArray), 4, 1), ((⟨#[78]⟩ : ByteArray), 4, 1)]
  else if k = 8 then [((⟨#[73, 78]⟩ : ByteArray), 1, 1), ((⟨#[80, 84]⟩ : ByteArray), 1, 14), ((⟨#[81]⟩ : ByteArray), 2, 1), ((⟨#[69, 84]⟩ : ByteArray), 2, 14), ((⟨#[77]⟩ : ByteArray), 4, 1), ((⟨#[83]⟩ : ByteArray), 4, 14)]
  else if k = 9 then [((⟨#[73, 78]⟩ : ByteArray), 1, 1), ((⟨#[80, 84]⟩ : ByteArray), 1, 14), ((⟨#[81]⟩ : ByteArray), 2, 1), ((⟨#[69, 84]⟩ : ByteArray), 2, 14), ((⟨#[77]⟩ : ByteArray), 4, 1), ((⟨#[83]⟩ : ByteArray), 4, 14)]
  else if k = 10 then [((⟨#[73, 78]⟩ : ByteArray), 1, 1), ((⟨#[80, 84]⟩ : ByteArray), 1, 14), ((⟨#[81]⟩ : ByteArray), 2, 1), ((⟨#[69, 84]⟩ : ByteArray), 2, 14), ((⟨#[77]⟩ : ByteArray), 4, 1), ((⟨#[83]⟩ : ByteArray), 4, 14)]
  else []


/-- the variables, and whether one begins TRUE -/
def varsU (k : Int) : List (ByteArray × Int × Int × Bool) := (vars k).map fun x => (x.1, x.2.1, x.2.2, decide (k = 4) && decide (x.2.1 = 4))

theorem vars_out (k : Int) (h : ¬ (1 ≤ k ∧ k ≤ 10)) : vars k = [] := by
  unfold vars
  simp only [show ¬ k = 1 by omega, show ¬ k = 2 by omega, show ¬ k = 3 by omega, show ¬ k = 4 by omega, show ¬ k = 5 by omega, show ¬ k = 6 by omega, show ¬ k = 7 by omega, show ¬ k = 8 by omega, show ¬ k = 9 by omega, show ¬ k = 10 by omega, if_false]
theorem vars_ind {P : List (ByteArray × Int × Int) → Prop} (k : Int) (h0 : P []) (h1 : P (vars 1)) (h2 : P (vars 2)) (h3 : P (vars 3)) (h4 : P (vars 4)) (h5 : P (vars 5)) (h6 : P (vars 6)) (h7 : P (vars 7)) (h8 : P (vars 8)) (h9 : P (vars 9)) (h10 : P (vars 10)) : P (vars k) := by
  by_cases hk : 1 ≤ k ∧ k ≤ 10
  · have h : k = 1 ∨ k = 2 ∨ k = 3 ∨ k = 4 ∨ k = 5 ∨ k = 6 ∨ k = 7 ∨ k = 8 ∨ k = 9 ∨ k = 10 := by omega
    rcases h with rfl | rfl | rfl | rfl | rfl | rfl | rfl | rfl | rfl | rfl <;> assumption
  · rw [vars_out k hk]
    exact h0

/-! ### A step of each block, on its variables by their names -/
/-- f, but v at s -/
def upd (f : ByteArray → Int) (s : ByteArray) (v : Int) : ByteArray → Int := fun t => if t = s then v else f t
def b2i (b : Bool) : Int := if b then 1 else 0
def mnI (a b : Int) : Int := if b < a then b else a
def sinceF (f : ByteArray → Int) (now : Int) : Int := if f ⟨#[83]⟩ < 0 then 0 else if now < f ⟨#[83]⟩ then 0 else now - f ⟨#[83]⟩
def spanF (f : ByteArray → Int) : Int := if 0 < f ⟨#[80, 84]⟩ then f ⟨#[80, 84]⟩ else 0
def srF (f : ByteArray → Int) (_ : Int) : ByteArray → Int := upd f ⟨#[81, 49]⟩ (b2i (f ⟨#[83, 49]⟩ == 1 || (f ⟨#[81, 49]⟩ == 1 && !(f ⟨#[82]⟩ == 1))))
def rsF (f : ByteArray → Int) (_ : Int) : ByteArray → Int := upd f ⟨#[81, 49]⟩ (b2i (!(f ⟨#[82, 49]⟩ == 1) && (f ⟨#[83]⟩ == 1 || f ⟨#[81, 49]⟩ == 1)))
/-- the inner variable goes after an input -/
def after (m i : ByteArray) (f : ByteArray → Int) : ByteArray → Int := upd f m (b2i (f i == 1))
def riseF (f : ByteArray → Int) (_ : Int) : ByteArray → Int := after ⟨#[77]⟩ ⟨#[67, 76, 75]⟩ (upd f ⟨#[81]⟩ (b2i (f ⟨#[67, 76, 75]⟩ == 1 && !(f ⟨#[77]⟩ == 1))))
def fallF (f : ByteArray → Int) (_ : Int) : ByteArray → Int := after ⟨#[77]⟩ ⟨#[67, 76, 75]⟩ (upd f ⟨#[81]⟩ (b2i (f ⟨#[77]⟩ == 1 && !(f ⟨#[67, 76, 75]⟩ == 1))))
def full (q : ByteArray) (f : ByteArray → Int) : ByteArray → Int := upd f q (b2i (decide (f ⟨#[80, 86]⟩ ≤ f ⟨#[67, 86]⟩)))
def empty (q : ByteArray) (f : ByteArray → Int) : ByteArray → Int := upd f q (b2i (decide (f ⟨#[67, 86]⟩ ≤ 0)))
def ctuF (f : ByteArray → Int) (_ : Int) : ByteArray → Int :=
  after ⟨#[77]⟩ ⟨#[67, 85]⟩ (full ⟨#[81]⟩ (if f ⟨#[82]⟩ == 1 then upd f ⟨#[67, 86]⟩ 0 else if (f ⟨#[67, 85]⟩ == 1 && !(f ⟨#[77]⟩ == 1)) then (if decide (f ⟨#[67, 86]⟩ < 32767) then upd f ⟨#[67, 86]⟩ (f ⟨#[67, 86]⟩ + 1) else f) else f))
def ctdF (f : ByteArray → Int) (_ : Int) : ByteArray → Int :=
  after ⟨#[77]⟩ ⟨#[67, 68]⟩ (empty ⟨#[81]⟩ (if f ⟨#[76, 68]⟩ == 1 then upd f ⟨#[67, 86]⟩ (f ⟨#[80, 86]⟩) else if (f ⟨#[67, 68]⟩ == 1 && !(f ⟨#[77]⟩ == 1)) then (if decide (-32768 < f ⟨#[67, 86]⟩) then upd f ⟨#[67, 86]⟩ (f ⟨#[67, 86]⟩ - 1) else f) else f))
def ctudV (f : ByteArray → Int) (u d : Bool) : ByteArray → Int :=
  if f ⟨#[82]⟩ == 1 then upd f ⟨#[67, 86]⟩ 0 else if f ⟨#[76, 68]⟩ == 1 then upd f ⟨#[67, 86]⟩ (f ⟨#[80, 86]⟩)
  else if u && !d && decide (f ⟨#[67, 86]⟩ < 32767) then upd f ⟨#[67, 86]⟩ (f ⟨#[67, 86]⟩ + 1)
  else if d && !u && decide (-32768 < f ⟨#[67, 86]⟩) then upd f ⟨#[67, 86]⟩ (f ⟨#[67, 86]⟩ - 1) else f
def ctudF (f : ByteArray → Int) (_ : Int) : ByteArray → Int :=
  after ⟨#[78]⟩ ⟨#[67, 68]⟩ (after ⟨#[77]⟩ ⟨#[67, 85]⟩ (empty ⟨#[81, 68]⟩ (full ⟨#[81, 85]⟩ (ctudV f (f ⟨#[67, 85]⟩ == 1 && !(f ⟨#[77]⟩ == 1)) (f ⟨#[67, 68]⟩ == 1 && !(f ⟨#[78]⟩ == 1))))))
def setET (f : ByteArray → Int) (v : Int) : ByteArray → Int := upd f ⟨#[69, 84]⟩ v
def tpA (f : ByteArray → Int) (now : Int) : ByteArray → Int :=
  if f ⟨#[81]⟩ == 1 then (if decide (spanF f ≤ sinceF f now) then setET (upd f ⟨#[81]⟩ 0) (spanF (upd f ⟨#[81]⟩ 0)) else setET f (sinceF f now)) else f
def tpB (f : ByteArray → Int) (now : Int) : ByteArray → Int :=
  if f ⟨#[81]⟩ == 1 then f else if (f ⟨#[73, 78]⟩ == 1 && !(f ⟨#[77]⟩ == 1)) then upd (setET (upd f ⟨#[83]⟩ now) 0) ⟨#[81]⟩ (b2i (decide (0 < spanF (setET (upd f ⟨#[83]⟩ now) 0)))) else if f ⟨#[73, 78]⟩ == 1 then f else setET f 0
def tpF (f : ByteArray → Int) (now : Int) : ByteArray → Int := after ⟨#[77]⟩ ⟨#[73, 78]⟩ (tpB (tpA f now) now)
def tonB (f : ByteArray → Int) (now : Int) : ByteArray → Int := setET (upd f ⟨#[81]⟩ (b2i (decide (spanF f ≤ sinceF f now)))) (mnI (sinceF (upd f ⟨#[81]⟩ (b2i (decide (spanF f ≤ sinceF f now)))) now) (spanF (upd f ⟨#[81]⟩ (b2i (decide (spanF f ≤ sinceF f now))))))
def tonF (f : ByteArray → Int) (now : Int) : ByteArray → Int :=
  after ⟨#[77]⟩ ⟨#[73, 78]⟩ (if f ⟨#[73, 78]⟩ == 1 then tonB (if f ⟨#[77]⟩ == 1 then f else upd f ⟨#[83]⟩ now) now else setET (upd f ⟨#[81]⟩ 0) 0)
def tofC (f : ByteArray → Int) (now : Int) : ByteArray → Int := setET (upd f ⟨#[81]⟩ (b2i (decide (sinceF f now < spanF f)))) (mnI (sinceF (upd f ⟨#[81]⟩ (b2i (decide (sinceF f now < spanF f)))) now) (spanF (upd f ⟨#[81]⟩ (b2i (decide (sinceF f now < spanF f))))))
def tofB (f : ByteArray → Int) (now : Int) : ByteArray → Int := if f ⟨#[81]⟩ == 1 then tofC f now else f
def tofF (f : ByteArray → Int) (now : Int) : ByteArray → Int :=
  after ⟨#[77]⟩ ⟨#[73, 78]⟩ (if f ⟨#[73, 78]⟩ == 1 then setET (upd f ⟨#[81]⟩ 1) 0 else tofB (if f ⟨#[77]⟩ == 1 then upd f ⟨#[83]⟩ now else f) now)

theorem tpA_1 {g : ByteArray → Int} {now : Int} (h1 : (g ⟨#[81]⟩ == 1) = true) (h2 : decide (spanF g ≤ sinceF g now) = true) : tpA g now = setET (upd g ⟨#[81]⟩ 0) (spanF (upd g ⟨#[81]⟩ 0)) := by
  unfold tpA; rw [if_pos h1, if_pos h2]
theorem tpA_2 {g : ByteArray → Int} {now : Int} (h1 : (g ⟨#[81]⟩ == 1) = true) (h2 : decide (spanF g ≤ sinceF g now) = false) : tpA g now = setET g (sinceF g now) := by
  unfold tpA; rw [if_pos h1, if_neg (by rw [h2]; decide)]
theorem tpA_3 {g : ByteArray → Int} {now : Int} (h1 : (g ⟨#[81]⟩ == 1) = false) : tpA g now = g := by
  unfold tpA; rw [if_neg (by rw [h1]; decide)]
theorem tpB_1 {g : ByteArray → Int} {now : Int} (h1 : (g ⟨#[81]⟩ == 1) = true) : tpB g now = g := by
  unfold tpB; rw [if_pos h1]
theorem tpB_2 {g : ByteArray → Int} {now : Int} (h1 : (g ⟨#[81]⟩ == 1) = false) (h2 : ((g ⟨#[73, 78]⟩ == 1) && !(g ⟨#[77]⟩ == 1)) = true) : tpB g now = upd (setET (upd g ⟨#[83]⟩ now) 0) ⟨#[81]⟩ (b2i (decide (0 < spanF (setET (upd g ⟨#[83]⟩ now) 0)))) := by
  unfold tpB; rw [if_neg (by rw [h1]; decide), if_pos h2]
theorem tpB_3 {g : ByteArray → Int} {now : Int} (h1 : (g ⟨#[81]⟩ == 1) = false) (h2 : ((g ⟨#[73, 78]⟩ == 1) && !(g ⟨#[77]⟩ == 1)) = false) (h3 : (g ⟨#[73, 78]⟩ == 1) = true) : tpB g now = g := by
  unfold tpB; rw [if_neg (by rw [h1]; decide), if_neg (by rw [h2]; decide), if_pos h3]
theorem tpB_4 {g : ByteArray → Int} {now : Int} (h1 : (g ⟨#[81]⟩ == 1) = false) (h2 : ((g ⟨#[73, 78]⟩ == 1) && !(g ⟨#[77]⟩ == 1)) = false) (h3 : (g ⟨#[73, 78]⟩ == 1) = false) : tpB g now = setET g 0 := by
  unfold tpB; rw [if_neg (by rw [h1]; decide), if_neg (by rw [h2]; decide), if_neg (by rw [h3]; decide)]

/-! ### A step: the cells as numbers by their names, the block's step, and back -/
def loadF (l : List (ByteArray × Int)) : ByteArray → Int := l.foldl (fun f p => upd f p.1 p.2) (fun _ => 0)
theorem loadF_snoc (l : List (ByteArray × Int)) (s : ByteArray) (v : Int) : loadF (l ++ [(s, v)]) = upd (loadF l) s v := by
  unfold loadF
  rw [List.foldl_append]
  rfl
def stepF (k : Int) : (ByteArray → Int) → Int → ByteArray → Int :=
  if k = 1 then srF else if k = 2 then rsF else if k = 3 then riseF else if k = 4 then fallF else if k = 5 then ctuF else if k = 6 then ctdF else if k = 7 then ctudF else if k = 8 then tpF else if k = 9 then tonF else tofF
/-- the time, from 0 to the greatest -/
def clampT (now : Int) : Int := if 4611686018427387904 < (if now < 0 then 0 else now) then 4611686018427387904 else (if now < 0 then 0 else now)
theorem clampT_bd (now : Int) : 0 ≤ clampT now ∧ clampT now ≤ 4611686018427387904 := by
  unfold clampT
  repeat' split
  all_goals omega
/-- may a cell (kind, bits, text) be a variable's of this kind? -/
def okC (kd : Int) (c : Int × Int × ByteArray) : Bool := (c.1 == kd) && (mayP kd c.2.1 c.2.2 == some true)
/-- the first j variables' names with their cells' numbers -/
def pairs (vs : List (ByteArray × Int × Int × Bool)) (cs : List (Int × Int × ByteArray)) : List (ByteArray × Int) := (vs.zip cs).map fun p => (p.1.1, wrap64 p.2.2.1)
def okAll (vs : List (ByteArray × Int × Int × Bool)) (cs : List (Int × Int × ByteArray)) : Bool := (vs.zip cs).all fun p => okC p.1.2.2.1 p.2
def outs (vs : List (ByteArray × Int × Int × Bool)) (g : ByteArray → Int) : List (Int × Int × ByteArray) := vs.map fun x => (x.2.2.1, IntKind.u64.wrap (g x.1), ⟨#[]⟩)
/-- Step, as the code has it: the cells behind it, and the fault -/
def stepC (k : Int) (cs : List (Int × Int × ByteArray)) (now : Int) : List (Int × Int × ByteArray) × Int :=
  if (varsU k).length = 0 ∨ cs.length ≠ (varsU k).length then ([], 8)
  else if okAll (varsU k) cs = true then (outs (varsU k) (stepF k (loadF (pairs (varsU k) cs)) (clampT now)), 0) else ([], 8)

end Go.Proofs.Ytfadafgnahhmdaa.B
