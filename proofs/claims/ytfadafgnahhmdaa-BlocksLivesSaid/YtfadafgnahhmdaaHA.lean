import Derived.IntWalk
import Derived.Test.YtfadafgnahhmdaaProg
import Derived.Below
import Derived.Deep.Draws
import Derived.Deep.AppendLies
import Derived.Maps.AppendAt
import Derived.OwnWalk
import Derived.Laws.BytesArg
import Derived.Laws.MakeOwn
import Derived.Laws.OwnMore
import Derived.Deep.OwnRows
import Derived.Tactics
import Derived.Lib.ConvBytes
import Derived.Laws.Slices
import Derived.WalkKit
import Derived.KernelRfl
import Derived.RowKit3
import Derived.Deep.LoopGhost
import Derived.Deep.QuietTactic
import Derived.BigQuiet
import Derived.WideLaws
import Derived.Deep.DeepCutAuto
import Derived.Deep.CutBlock
import Derived.Deep.RegionHeld3
import Derived.Laws.Rows
import Derived.Lib.AppendStr
import Derived.ArgAppend
import Derived.Laws.IdiomCopy
import Derived.OrdersHeld
import Derived.Laws.BitsLemmas
import Derived.RowKit
import Derived.Test.YtfadafgnahhmdaaWWords
import Derived.Test.YtfadafgnahhmdaaWLast
import Derived.Test.YtfadafgnahhmdaaWTab
import Derived.Test.YtfadafgnahhmdaaWFour
import Derived.Test.YtfadafgnahhmdaaWQPut
import Derived.Test.YtfadafgnahhmdaaWApart
import Derived.Test.YtfadafgnahhmdaaWArr
import Derived.Test.YtfadafgnahhmdaaWZeros
import Derived.Test.YtfadafgnahhmdaaWFoot
import Derived.Test.YtfadafgnahhmdaaWKept
import Derived.Test.YtfadafgnahhmdaaWShare
import Derived.Test.YtfadafgnahhmdaaWN
import Derived.Test.YtfadafgnahhmdaaWFootNe
import Derived.Test.YtfadafgnahhmdaaWAt
import Derived.Test.YtfadafgnahhmdaaWEqStruct
import Derived.Test.YtfadafgnahhmdaaWRepsOne
import Derived.Test.YtfadafgnahhmdaaWInv
import Derived.Test.YtfadafgnahhmdaaWInvWords
import Derived.Test.YtfadafgnahhmdaaWGuard
import Derived.Test.YtfadafgnahhmdaaWNEv
import Derived.Test.YtfadafgnahhmdaaWMore
import Derived.WalkLawsBesides
set_option linter.unusedVariables false
set_option linter.unusedSimpArgs false
/- Plain functions of this proof: what a block's variables, its start and a step of it are, as numbers and lists; nothing of the program here. -/
namespace Go.Proofs.Ytfadafgnahhmdaa.B
open Go.RowKit

/-- may a value of kind BOOL, INT or TIME be? (of other kinds: not told) -/
def mayP (k b : Int) (t : ByteArray) : Option Bool :=
  if k = 1 then some (decide (t.toList = []) && decide (b ≤ 1))
  else if k = 3 then some (decide (t.toList = []) && (decide (-32768 ≤ wrap64 b) && decide (wrap64 b ≤ 32767)))
  else if k = 14 then some (decide (t.toList = [])) else none

/-- the variables of each block: name, class, kind -/
def vars (k : Int) : List (ByteArray × Int × Int) :=
  if k = 1 then [((⟨#[83, 49]⟩ : ByteArray), 1, 1), ((⟨#[82]⟩ : ByteArray), 1, 1), ((⟨#[81, 49]⟩ : ByteArray), 2, 1)]
  else if k = 2 then [((⟨#[83]⟩ : ByteArray), 1, 1), ((⟨#[82, 49]⟩ : ByteArray), 1, 1), ((⟨#[81, 49]⟩ : ByteArray), 2, 1)]
  else if k = 3 then [((⟨#[67, 76, 75]⟩ : ByteArray), 1, 1), ((⟨#[81]⟩ : ByteArray), 2, 1), ((⟨#[77]⟩ : ByteArray), 4, 1)]
  else if k = 4 then [((⟨#[67, 76, 75]⟩ : ByteArray), 1, 1), ((⟨#[81]⟩ : ByteArray), 2, 1), ((⟨#[77]⟩ : ByteArray), 4, 1)]
  else if k = 5 then [((⟨#[67, 85]⟩ : ByteArray), 1, 1), ((⟨#[82]⟩ : ByteArray), 1, 1), ((⟨#[80, 86]⟩ : ByteArray), 1, 3), ((⟨#[81]⟩ : ByteArray), 2, 1), ((⟨#[67, 86]⟩ : ByteArray), 2, 3), ((⟨#[77]⟩ : ByteArray), 4, 1)]
  else if k = 6 then [((⟨#[67, 68]⟩ : ByteArray), 1, 1), ((⟨#[76, 68]⟩ : ByteArray), 1, 1), ((⟨#[80, 86]⟩ : ByteArray), 1, 3), ((⟨#[81]⟩ : ByteArray), 2, 1), ((⟨#[67, 86]⟩ : ByteArray), 2, 3), ((⟨#[77]⟩ : ByteArray), 4, 1)]
  else if k = 7 then [((⟨#[67, 85]⟩ : ByteArray), 1, 1), ((⟨#[67, 68]⟩ : ByteArray), 1, 1), ((⟨#[82]⟩ : ByteArray), 1, 1), ((⟨#[76, 68]⟩ : ByteArray), 1, 1), ((⟨#[80, 86]⟩ : ByteArray), 1, 3), ((⟨#[81, 85]⟩ : ByteArray), 2, 1), ((⟨#[81, 68]⟩ : ByteArray), 2, 1), ((⟨#[67, 86]⟩ : ByteArray), 2, 3), ((⟨#[77]⟩ : ByteArray), 4, 1), ((⟨#[78]⟩ : ByteArray), 4, 1)]
  else if k = 8 then [((⟨#[73, 78]⟩ : ByteArray), 1, 1), ((⟨#[80, 84]⟩ : ByteArray), 1, 14), ((⟨#[81]⟩ : ByteArray), 2, 1), ((⟨#[69, 84]⟩ : ByteArray), 2, 14), ((⟨#[77]⟩ : ByteArray), 4, 1), ((⟨#[83]⟩ : ByteArray), 4, 14)]
  else if k = 9 then [((⟨#[73, 78]⟩ : ByteArray), 1, 1), ((⟨#[80, 84]⟩ : ByteArray), 1, 14), ((⟨#[81]⟩ : ByteArray), 2, 1), ((⟨#[69, 84]⟩ : ByteArray), 2, 14), ((⟨#[77]⟩ : ByteArray), 4, 1), ((⟨#[83]⟩ : ByteArray), 4, 14)]
  else if k = 10 then [((⟨#[73, 78]⟩ : ByteArray), 1, 1), ((⟨#[80, 84]⟩ : ByteArray), 1, 14), ((⟨#[81]⟩ : ByteArray), 2, 1), ((⟨#[69, 84]⟩ : ByteArray), 2, 14), ((⟨#[77]⟩ : ByteArray), 4, 1), ((⟨#[83]⟩ : ByteArray), 4, 14)]
  else []


/-- the variables, and whether one begins TRUE -/
def varsU (k : Int) : List (ByteArray × Int × Int × Bool) := (vars k).map fun x => (x.1, x.2.1, x.2.2, decide (k = 4) && decide (x.2.1 = 4))

theorem vars_out (k : Int) (h : ¬ (1 ≤ k ∧ k ≤ 10)) : vars k = [] := by
  unfold vars
  simp only [show ¬ k = 1 by omega, show ¬ k = 2 by omega, show ¬ k = 3 by omega, show ¬ k = 4 by omega, show ¬ k = 5 by omega, show ¬ k = 6 by omega, show ¬ k = 7 by omega, show ¬ k = 8 by omega, show ¬ k = 9 by omega, show ¬ k = 10 by omega, if_false]
theorem vars_ind {P : List (ByteArray × Int × Int) → Prop} (k : Int) (h0 : P []) (h1 : P (vars 1)) (h2 : P (vars 2)) (h3 : P (vars 3)) (h4 : P (vars 4)) (h5 : P (vars 5)) (h6 : P (vars 6)) (h7 : P (vars 7)) (h8 : P (vars 8)) (h9 : P (vars 9)) (h10 : P (vars 10)) : P (vars k) := by
  by_cases hk : 1 ≤ k ∧ k ≤ 10
  · have h : k = 1 ∨ k = 2 ∨ k = 3 ∨ k = 4 ∨ k = 5 ∨ k = 6 ∨ k = 7 ∨ k = 8 ∨ k = 9 ∨ k = 10 := by omega
    rcases h with rfl | rfl | rfl | rfl | rfl | rfl | rfl | rfl | rfl | rfl <;> assumption
  · rw [vars_out k hk]
    exact h0

/-! ### A step of each block, on its variables by their names -/
/-- f, but v at s -/
def upd (f : ByteArray → Int) (s : ByteArray) (v : Int) : ByteArray → Int := fun t => if t = s then v else f t
def b2i (b : Bool) : Int := if b then 1 else 0
def mnI (a b : Int) : Int := if b < a then b else a
def sinceF (f : ByteArray → Int) (now : Int) : Int := if f ⟨#[83]⟩ < 0 then 0 else if now < f ⟨#[83]⟩ then 0 else now - f ⟨#[83]⟩
def spanF (f : ByteArray → Int) : Int := if 0 < f ⟨#[80, 84]⟩ then f ⟨#[80, 84]⟩ else 0
def srF (f : ByteArray → Int) (_ : Int) : ByteArray → Int := upd f ⟨#[81, 49]⟩ (b2i (f ⟨#[83, 49]⟩ == 1 || (f ⟨#[81, 49]⟩ == 1 && !(f ⟨#[82]⟩ == 1))))
def rsF (f : ByteArray → Int) (_ : Int) : ByteArray → Int := upd f ⟨#[81, 49]⟩ (b2i (!(f ⟨#[82, 49]⟩ == 1) && (f ⟨#[83]⟩ == 1 || f ⟨#[81, 49]⟩ == 1)))
/-- the inner variable goes after an input -/
def after (m i : ByteArray) (f : ByteArray → Int) : ByteArray → Int := upd f m (b2i (f i == 1))
def riseF (f : ByteArray → Int) (_ : Int) : ByteArray → Int := after ⟨#[77]⟩ ⟨#[67, 76, 75]⟩ (upd f ⟨#[81]⟩ (b2i (f ⟨#[67, 76, 75]⟩ == 1 && !(f ⟨#[77]⟩ == 1))))
def fallF (f : ByteArray → Int) (_ : Int) : ByteArray → Int := after ⟨#[77]⟩ ⟨#[67, 76, 75]⟩ (upd f ⟨#[81]⟩ (b2i (f ⟨#[77]⟩ == 1 && !(f ⟨#[67, 76, 75]⟩ == 1))))
def full (q : ByteArray) (f : ByteArray → Int) : ByteArray → Int := upd f q (b2i (decide (f ⟨#[80, 86]⟩ ≤ f ⟨#[67, 86]⟩)))
def empty (q : ByteArray) (f : ByteArray → Int) : ByteArray → Int := upd f q (b2i (decide (f ⟨#[67, 86]⟩ ≤ 0)))
def ctuF (f : ByteArray → Int) (_ : Int) : ByteArray → Int :=
  after ⟨#[77]⟩ ⟨#[67, 85]⟩ (full ⟨#[81]⟩ (if f ⟨#[82]⟩ == 1 then upd f ⟨#[67, 86]⟩ 0 else if (f ⟨#[67, 85]⟩ == 1 && !(f ⟨#[77]⟩ == 1)) then (if decide (f ⟨#[67, 86]⟩ < 32767) then upd f ⟨#[67, 86]⟩ (f ⟨#[67, 86]⟩ + 1) else f) else f))
def ctdF (f : ByteArray → Int) (_ : Int) : ByteArray → Int :=
  after ⟨#[77]⟩ ⟨#[67, 68]⟩ (empty ⟨#[81]⟩ (if f ⟨#[76, 68]⟩ == 1 then upd f ⟨#[67, 86]⟩ (f ⟨#[80, 86]⟩) else if (f ⟨#[67, 68]⟩ == 1 && !(f ⟨#[77]⟩ == 1)) then (if decide (-32768 < f ⟨#[67, 86]⟩) then upd f ⟨#[67, 86]⟩ (f ⟨#[67, 86]⟩ - 1) else f) else f))
def ctudV (f : ByteArray → Int) (u d : Bool) : ByteArray → Int :=
  if f ⟨#[82]⟩ == 1 then upd f ⟨#[67, 86]⟩ 0 else if f ⟨#[76, 68]⟩ == 1 then upd f ⟨#[67, 86]⟩ (f ⟨#[80, 86]⟩)
  else if u && !d && decide (f ⟨#[67, 86]⟩ < 32767) then upd f ⟨#[67, 86]⟩ (f ⟨#[67, 86]⟩ + 1)
  else if d && !u && decide (-32768 < f ⟨#[67, 86]⟩) then upd f ⟨#[67, 86]⟩ (f ⟨#[67, 86]⟩ - 1) else f
def ctudF (f : ByteArray → Int) (_ : Int) : ByteArray → Int :=
  after ⟨#[78]⟩ ⟨#[67, 68]⟩ (after ⟨#[77]⟩ ⟨#[67, 85]⟩ (empty ⟨#[81, 68]⟩ (full ⟨#[81, 85]⟩ (ctudV f (f ⟨#[67, 85]⟩ == 1 && !(f ⟨#[77]⟩ == 1)) (f ⟨#[67, 68]⟩ == 1 && !(f ⟨#[78]⟩ == 1))))))
def setET (f : ByteArray → Int) (v : Int) : ByteArray → Int := upd f ⟨#[69, 84]⟩ v
def tpA (f : ByteArray → Int) (now : Int) : ByteArray → Int :=
  if f ⟨#[81]⟩ == 1 then (if decide (spanF f ≤ sinceF f now) then setET (upd f ⟨#[81]⟩ 0) (spanF (upd f ⟨#[81]⟩ 0)) else setET f (sinceF f now)) else f
def tpB (f : ByteArray → Int) (now : Int) : ByteArray → Int :=
  if f ⟨#[81]⟩ == 1 then f else if (f ⟨#[73, 78]⟩ == 1 && !(f ⟨#[77]⟩ == 1)) then upd (setET (upd f ⟨#[83]⟩ now) 0) ⟨#[81]⟩ (b2i (decide (0 < spanF (setET (upd f ⟨#[83]⟩ now) 0)))) else if f ⟨#[73, 78]⟩ == 1 then f else setET f 0
def tpF (f : ByteArray → Int) (now : Int) : ByteArray → Int := after ⟨#[77]⟩ ⟨#[73, 78]⟩ (tpB (tpA f now) now)
def tonB (f : ByteArray → Int) (now : Int) : ByteArray → Int := setET (upd f ⟨#[81]⟩ (b2i (decide (spanF f ≤ sinceF f now)))) (mnI (sinceF (upd f ⟨#[81]⟩ (b2i (decide (spanF f ≤ sinceF f now)))) now) (spanF (upd f ⟨#[81]⟩ (b2i (decide (spanF f ≤ sinceF f now))))))
def tonF (f : ByteArray → Int) (now : Int) : ByteArray → Int :=
  after ⟨#[77]⟩ ⟨#[73, 78]⟩ (if f ⟨#[73, 78]⟩ == 1 then tonB (if f ⟨#[77]⟩ == 1 then f else upd f ⟨#[83]⟩ now) now else setET (upd f ⟨#[81]⟩ 0) 0)
def tofC (f : ByteArray → Int) (now : Int) : ByteArray → Int := setET (upd f ⟨#[81]⟩ (b2i (decide (sinceF f now < spanF f)))) (mnI (sinceF (upd f ⟨#[81]⟩ (b2i (decide (sinceF f now < spanF f)))) now) (spanF (upd f ⟨#[81]⟩ (b2i (decide (sinceF f now < spanF f))))))
def tofB (f : ByteArray → Int) (now : Int) : ByteArray → Int := if f ⟨#[81]⟩ == 1 then tofC f now else f
def tofF (f : ByteArray → Int) (now : Int) : ByteArray → Int :=
  after ⟨#[77]⟩ ⟨#[73, 78]⟩ (if f ⟨#[73, 78]⟩ == 1 then setET (upd f ⟨#[81]⟩ 1) 0 else tofB (if f ⟨#[77]⟩ == 1 then upd f ⟨#[83]⟩ now else f) now)

theorem tpA_1 {g : ByteArray → Int} {now : Int} (h1 : (g ⟨#[81]⟩ == 1) = true) (h2 : decide (spanF g ≤ sinceF g now) = true) : tpA g now = setET (upd g ⟨#[81]⟩ 0) (spanF (upd g ⟨#[81]⟩ 0)) := by
  unfold tpA; rw [if_pos h1, if_pos h2]
theorem tpA_2 {g : ByteArray → Int} {now : Int} (h1 : (g ⟨#[81]⟩ == 1) = true) (h2 : decide (spanF g ≤ sinceF g now) = false) : tpA g now = setET g (sinceF g now) := by
  unfold tpA; rw [if_pos h1, if_neg (by rw [h2]; decide)]
theorem tpA_3 {g : ByteArray → Int} {now : Int} (h1 : (g ⟨#[81]⟩ == 1) = false) : tpA g now = g := by
  unfold tpA; rw [if_neg (by rw [h1]; decide)]
theorem tpB_1 {g : ByteArray → Int} {now : Int} (h1 : (g ⟨#[81]⟩ == 1) = true) : tpB g now = g := by
  unfold tpB; rw [if_pos h1]
theorem tpB_2 {g : ByteArray → Int} {now : Int} (h1 : (g ⟨#[81]⟩ == 1) = false) (h2 : ((g ⟨#[73, 78]⟩ == 1) && !(g ⟨#[77]⟩ == 1)) = true) : tpB g now = upd (setET (upd g ⟨#[83]⟩ now) 0) ⟨#[81]⟩ (b2i (decide (0 < spanF (setET (upd g ⟨#[83]⟩ now) 0)))) := by
  unfold tpB; rw [if_neg (by rw [h1]; decide), if_pos h2]
theorem tpB_3 {g : ByteArray → Int} {now : Int} (h1 : (g ⟨#[81]⟩ == 1) = false) (h2 : ((g ⟨#[73, 78]⟩ == 1) && !(g ⟨#[77]⟩ == 1)) = false) (h3 : (g ⟨#[73, 78]⟩ == 1) = true) : tpB g now = g := by
  unfold tpB; rw [if_neg (by rw [h1]; decide), if_neg (by rw [h2]; decide), if_pos h3]
theorem tpB_4 {g : ByteArray → Int} {now : Int} (h1 : (g ⟨#[81]⟩ == 1) = false) (h2 : ((g ⟨#[73, 78]⟩ == 1) && !(g ⟨#[77]⟩ == 1)) = false) (h3 : (g ⟨#[73, 78]⟩ == 1) = false) : tpB g now = setET g 0 := by
  unfold tpB; rw [if_neg (by rw [h1]; decide), if_neg (by rw [h2]; decide), if_neg (by rw [h3]; decide)]

/-! ### A step: the cells as numbers by their names, the block's step, and back -/
def loadF (l : List (ByteArray × Int)) : ByteArray → Int := l.foldl (fun f p => upd f p.1 p.2) (fun _ => 0)
theorem loadF_snoc (l : List (ByteArray × Int)) (s : ByteArray) (v : Int) : loadF (l ++ [(s, v)]) = upd (loadF l) s v := by
  unfold loadF
  rw [List.foldl_append]
  rfl
def stepF (k : Int) : (ByteArray → Int) → Int → ByteArray → Int :=
  if k = 1 then srF else if k = 2 then rsF else if k = 3 then riseF else if k = 4 then fallF else if k = 5 then ctuF else if k = 6 then ctdF else if k = 7 then ctudF else if k = 8 then tpF else if k = 9 then tonF else tofF
/-- the time, from 0 to the greatest -/
def clampT (now : Int) : Int := if 4611686018427387904 < (if now < 0 then 0 else now) then 4611686018427387904 else (if now < 0 then 0 else now)
theorem clampT_bd (now : Int) : 0 ≤ clampT now ∧ clampT now ≤ 4611686018427387904 := by
  unfold clampT
  repeat' split
  all_goals omega
/-- may a cell (kind, bits, text) be a variable's of this kind? -/
def okC (kd : Int) (c : Int × Int × ByteArray) : Bool := (c.1 == kd) && (mayP kd c.2.1 c.2.2 == some true)
/-- the first j variables' names with their cells' numbers -/
def pairs (vs : List (ByteArray × Int × Int × Bool)) (cs : List (Int × Int × ByteArray)) : List (ByteArray × Int) := (vs.zip cs).map fun p => (p.1.1, wrap64 p.2.2.1)
def okAll (vs : List (ByteArray × Int × Int × Bool)) (cs : List (Int × Int × ByteArray)) : Bool := (vs.zip cs).all fun p => okC p.1.2.2.1 p.2
def outs (vs : List (ByteArray × Int × Int × Bool)) (g : ByteArray → Int) : List (Int × Int × ByteArray) := vs.map fun x => (x.2.2.1, IntKind.u64.wrap (g x.1), ⟨#[]⟩)
/-- Step, as the code has it: the cells behind it, and the fault -/
def stepC (k : Int) (cs : List (Int × Int × ByteArray)) (now : Int) : List (Int × Int × ByteArray) × Int :=
  if (varsU k).length = 0 ∨ cs.length ≠ (varsU k).length then ([], 8)
  else if okAll (varsU k) cs = true then (outs (varsU k) (stepF k (loadF (pairs (varsU k) cs)) (clampT now)), 0) else ([], 8)

end Go.Proofs.Ytfadafgnahhmdaa.B
-- Written by a program of this session (wip/drv.py). Not trusted: Lean checks it.
namespace Go.Proofs.Ytfadafgnahhmdaa.E
open Go.RowKit Go.Proofs.YtfadafgnahhmdaaW.PrintWords Go.Proofs.YtfadafgnahhmdaaW.PrintLast Go.Proofs.YtfadafgnahhmdaaW.PrintMore
attribute [local go_sem] max2_int min2_int max_two min_two max_three min_three max_four min_four   -- for this text's walks alone
set_option linter.unusedVariables false
set_option linter.unusedSimpArgs false



def errW : Option Int → Value
  | none => .nilIface
  | some c => .iface 0 (.int .i64 c)
theorem errW_none : errW none = .nilIface := rfl
theorem errW_some (c : Int) : errW (some c) = .iface 0 (.int .i64 c) := rfl

-- the values' own types
/-! #### struct type 34 -/
structure S34 where
  f0 : Int
  f1 : Int
  f2 : ByteArray
def z34 : S34 := ⟨(0 : Int), (0 : Int), (⟨#[]⟩ : ByteArray)⟩
def k34 : Kd S34 := Kd.iso (Kd.pair (Kd.int .u8) (Kd.pair (Kd.int .u64) Kd.string)) (fun x : S34 => (x.f0, x.f1, x.f2))
theorem k34_open {w : World} {x : S34} {cs : List Value} (h : k34.K w x cs) : cs = [.int .u8 x.f0, .int .u64 x.f1, .string x.f2] := by
  obtain ⟨_, _, rfl, rfl, ⟨_, _, rfl, rfl, rfl⟩⟩ := h
  exact rfl
theorem k34_openM {w : World} {base : Nat} {ok : Nat → Prop} {x : S34} {cs : List Value} (h : k34.M w base ok x cs) : cs = [.int .u8 x.f0, .int .u64 x.f1, .string x.f2] := by
  obtain ⟨_, _, rfl, rfl, ⟨_, _, rfl, rfl, rfl⟩⟩ := h
  exact rfl
theorem k34_mk (w : World) (x : S34)  : k34.K w x [.int .u8 x.f0, .int .u64 x.f1, .string x.f2] := ⟨[.int .u8 x.f0], [.int .u64 x.f1, .string x.f2], rfl, rfl, ⟨[.int .u64 x.f1], [.string x.f2], rfl, rfl, rfl⟩⟩
theorem k34_mkM (w : World) (base : Nat) (ok : Nat → Prop) (x : S34)  : k34.M w base ok x [.int .u8 x.f0, .int .u64 x.f1, .string x.f2] := ⟨[.int .u8 x.f0], [.int .u64 x.f1, .string x.f2], rfl, rfl, ⟨[.int .u64 x.f1], [.string x.f2], rfl, rfl, rfl⟩⟩
def rd_T34 (xs : List S34) (i : Int) : S34 := xs.getD i.toNat z34
theorem at_T34 {w : World} {A : Option Addr} {n : Nat} {xs : List S34} (h : Kd.C k34 w A n xs) (i : Int) (h0 : 0 ≤ i) (h1 : i < n) : ∃ ad , A = some ad ∧ w.cell? (ad.add (i.toNat * 3)) = some (.int .u8 (rd_T34 xs i).f0) ∧ w.cell? ⟨(ad.add (i.toNat * 3)).block, (ad.add (i.toNat * 3)).off + 1, none⟩ = some (.int .u64 (rd_T34 xs i).f1) ∧ w.cell? ⟨(ad.add (i.toNat * 3)).block, (ad.add (i.toNat * 3)).off + 2, none⟩ = some (.string (rd_T34 xs i).f2) := by
  obtain ⟨ad, c, e, _, hK, hc0⟩ := Kd.C_get h z34 i h0 h1
  have hc : ∀ j u, c[j]? = some u → w.cell? (ad.add (i.toNat * 3 + j)) = some u := hc0
  obtain rfl := k34_open hK
  exact ⟨ad, e, hc 0 _ rfl, by rw [← add_field _ _ 1 (by omega)]; exact hc 1 _ rfl, by rw [← add_field _ _ 2 (by omega)]; exact hc 2 _ rfl⟩

end Go.Proofs.Ytfadafgnahhmdaa.E
-- Written by a program of this session (wip/drv.py). Not trusted: Lean checks it.
namespace Go.Proofs.Ytfadafgnahhmdaa.E
open Go.RowKit Go.Proofs.YtfadafgnahhmdaaW.PrintWords Go.Proofs.YtfadafgnahhmdaaW.PrintLast Go.Proofs.YtfadafgnahhmdaaW.PrintMore
attribute [local go_sem] max2_int min2_int max_two min_two max_three min_three max_four min_four   -- for this text's walks alone
set_option linter.unusedVariables false
set_option linter.unusedSimpArgs false

theorem eqA34 (d : Nat) (w : World) (x0 y0 : Int) (x1 y1 : Int) (x2 y2 : ByteArray) :
    (Op.equalIn (d + 2) 34 (.agg #[.int .u8 x0, .int .u64 x1, .string x2]) (.agg #[.int .u8 y0, .int .u64 y1, .string y2])).run Try.prog w = .ok (x0 == y0 && (x1 == y1 && (x2.toList == y2.toList))) w := by
  refine eqA_of Try.underlying34 (by kernel_rfl) ?_
  refine eqf_cons (by rfl) (by go_simp; rfl) (by go_simp; rfl) (by go_simp) ?_
  refine eqf_cons (by rfl) (by go_simp; rfl) (by go_simp; rfl) (by go_simp) ?_
  exact eqf_last (by rfl) (by go_simp; rfl) (by go_simp; rfl) (by go_simp)
end Go.Proofs.Ytfadafgnahhmdaa.E
-- Written by a program of this session (wip/drv.py). Not trusted: Lean checks it.
namespace Go.Proofs.Ytfadafgnahhmdaa.E
open Go.RowKit Go.Proofs.YtfadafgnahhmdaaW.PrintWords Go.Proofs.YtfadafgnahhmdaaW.PrintLast Go.Proofs.YtfadafgnahhmdaaW.PrintMore
attribute [local go_sem] max2_int min2_int max_two min_two max_three min_three max_four min_four   -- for this text's walks alone
set_option linter.unusedVariables false
set_option linter.unusedSimpArgs false

attribute [local go_sem high] eqA34
/-! ### api_Value: function 22 -/
def api_Value.l0 : Nat → List (S34) → List (S34) → Int → Int → Option (Bool)
  | 0, _, _, _, _ => none
  | k + 1, x0, x1, x12, x13 => if x13 < x12 then (if 0 ≤ x13 then (if x13 < (x0.length : Int) then (if x13 < (x1.length : Int) then (if (!(((rd_T34 x0 x13).f0) == ((rd_T34 x1 x13).f0)) || (!(((rd_T34 x0 x13).f1) == ((rd_T34 x1 x13).f1)) || (!((((rd_T34 x0 x13).f2).toList) == (((rd_T34 x1 x13).f2).toList))))) = true then (some false) else (api_Value.l0 k x0 x1 x12 (wrap64 (x13 + 1)))) else (none)) else (none)) else (none)) else (some true)
def api_Value.f (k : Nat) (l0 : List (S34)) (l1 : List (S34)) : Option (Bool) := if (l0.length : Int) = (l1.length : Int) then (api_Value.l0 k l0 l1 (l0.length : Int) 0) else (some false)
theorem api_Value.mono_l : ∀ k, (∀ y0 y1 y2 y3, LeO (api_Value.l0 k y0 y1 y2 y3) (api_Value.l0 (k + 1) y0 y1 y2 y3))
  | 0 => fun _ _ _ _ r h => by simp [api_Value.l0] at h
  | k + 1 => by
    have ih0 := api_Value.mono_l k
    · intro y0 y1 y2 y3
      unfold api_Value.l0
      repeat' first
      | (with_reducible exact ih0 _ _ _ _)
      | (with_reducible exact LeO.refl _)
      | (with_reducible exact LeO.none _)
      | (with_reducible refine LeO.ite ?_ ?_)
      | (with_reducible refine LeO.bind ?_ (fun _ => ?_))
      | exact ih0 _ _ _ _
      | exact LeO.none _
      | refine LeO.ite ?_ ?_
      | refine LeO.bind ?_ (fun _ => ?_)
theorem api_Value.mono : ∀ a0 a1 k, LeO (api_Value.f k a0 a1) (api_Value.f (k + 1) a0 a1) := by
  intro a0 a1 k
  have ih0 := api_Value.mono_l k
  unfold api_Value.f
  repeat' first
      | (with_reducible exact ih0 _ _ _ _)
      | (with_reducible exact LeO.refl _)
      | (with_reducible exact LeO.none _)
      | (with_reducible refine LeO.ite ?_ ?_)
      | (with_reducible refine LeO.bind ?_ (fun _ => ?_))
      | exact ih0 _ _ _ _
      | exact LeO.none _
      | refine LeO.ite ?_ ?_
      | refine LeO.bind ?_ (fun _ => ?_)
set_option maxHeartbeats 8000000 in
set_option maxRecDepth 100000 in
theorem api_Value.calls (k : Nat) (A0 : Option Addr) (c0 : Nat) (l0 : List (S34)) (A1 : Option Addr) (c1 : Nat) (l1 : List (S34)) (r : Bool) (w : World) (hr0 : Kd.C k34 w A0 l0.length l0) (hc0 : l0.length ≤ c0) (hr1 : Kd.C k34 w A1 l1.length l1) (hc1 : l1.length ≤ c1) (h : api_Value.f k l0 l1 = some r) :
    Calls Try.prog 22 #[.slice A0 l0.length c0, .slice A1 l1.length c1] w fun e w' => e = .returned (.bool r) ∧ Drawn0 w w' := by
  have hu34 := Try.underlying34
  have HR0 := Aside0.mk hr0
  have HC0 := Aside0.mk hc0
  clear hr0 hc0
  have HR1 := Aside0.mk hr1
  have HC1 := Aside0.mk hc1
  clear hr1 hc1
  have H : (if (l0.length : Int) = (l1.length : Int) then (api_Value.l0 k l0 l1 (l0.length : Int) 0) else (some false)) = some r := h
  clear h
  by_cases c3 : (l0.length : Int) = (l1.length : Int)
  · rw [if_pos c3] at H
    have c3b0 : ((l0.length : Int) == (l1.length : Int)) = true := beq_iff_eq.mpr c3
    have c3b1 : ((l0.length : Int) != (l1.length : Int)) = false := bne_eq_false_iff_eq.mpr c3
    have c3b2 : (l0.length == l1.length) = true := by first | simpa using c3 | (simp at c3 ⊢; omega)
    clear c3
    have H' := Aside0.mk H
    clear H
    go_enter Try.func22, Try.ntmps22
    go_wp2
    repeat (go_quiet (fail); try go_wp2)
    go_loopg [13] k (fun kq v13 w' => ∃ (x13_1 : Int), v13 = .int .i64 x13_1 ∧ Aside0 (api_Value.l0 kq l0 l1 (l0.length : Int) x13_1 = some r) ∧ Aside0 (kq ≤ k) ∧ Drawn0 w w')
    case atStart => exact ⟨(0), (by first | rfl | (simp; done) | (simp [*]; done)), H', ⟨Nat.le_refl _⟩, by repeat (first | exact Drawn0.refl _ | apply Drawn0.step)⟩
    case round =>
      clear H'
      try clear c1
      try clear c2
      try clear p2
      try clear c3
      try clear c3b0
      try clear c3b1
      try clear c3b2
      obtain ⟨x13_1, rfl, HA, HK1, ⟨m1, rfl⟩⟩ := hrel
      cases gk with
      | zero => exact absurd HA.out (by simp [api_Value.l0])
      | succ k1 =>
        have H := HA.out
        clear HA
        simp only [api_Value.l0] at H
        by_cases c4 : x13_1 < (l0.length : Int)
        · rw [if_pos c4] at H
          have c4b0 : decide (x13_1 < (l0.length : Int)) = true := decide_eq_true c4
          clear c4
          by_cases c5 : 0 ≤ x13_1
          · rw [if_pos c5] at H
            have c5b0 : decide (0 ≤ x13_1) = true := decide_eq_true c5
            clear c5
            by_cases c6 : x13_1 < (l0.length : Int)
            · rw [if_pos c6] at H
              have c6b0 : decide (x13_1 < (l0.length : Int)) = true := decide_eq_true c6
              clear c6
              by_cases c7 : x13_1 < (l1.length : Int)
              · rw [if_pos c7] at H
                have c7b0 : decide (x13_1 < (l1.length : Int)) = true := decide_eq_true c7
                clear c7
                by_cases c8 : (!(((rd_T34 l0 x13_1).f0) == ((rd_T34 l1 x13_1).f0)) || (!(((rd_T34 l0 x13_1).f1) == ((rd_T34 l1 x13_1).f1)) || (!((((rd_T34 l0 x13_1).f2).toList) == (((rd_T34 l1 x13_1).f2).toList))))) = true
                · rw [if_pos c8] at H
                  have c8b0 : (!(((rd_T34 l0 x13_1).f0) == ((rd_T34 l1 x13_1).f0)) || (!(((rd_T34 l0 x13_1).f1) == ((rd_T34 l1 x13_1).f1)) || (!((((rd_T34 l0 x13_1).f2).toList) == (((rd_T34 l1 x13_1).f2).toList))))) = true := c8
                  clear c8
                  obtain rfl := Option.some.inj H
                  have p110101 : 0 ≤ (x13_1 : Int) := of_decide_eq_true (by first | (with_reducible assumption) | assumption)
                  have q110101 : x13_1 < (l0.length : Int) := of_decide_eq_true (by first | (with_reducible assumption) | assumption)
                  obtain ⟨ad110101, e110101, hx110101_0, hx110101_1, hx110101_2⟩ := at_T34 HR0.out x13_1 p110101 q110101
                  cases e110101
                  replace p110101 := eq_true p110101
                  replace q110101 := eq_true q110101
                  have p110102 : 0 ≤ (x13_1 : Int) := of_decide_eq_true (by first | (with_reducible assumption) | assumption)
                  have q110102 : x13_1 < (l1.length : Int) := of_decide_eq_true (by first | (with_reducible assumption) | assumption)
                  obtain ⟨ad110102, e110102, hx110102_0, hx110102_1, hx110102_2⟩ := at_T34 HR1.out x13_1 p110102 q110102
                  cases e110102
                  replace p110102 := eq_true p110102
                  replace q110102 := eq_true q110102
                  go_wp2
                  repeat (go_quiet (fail); try go_wp2)
                  go_ret
                  exact ⟨by first | rfl | (simp; done) | (simp [*]; done), by repeat (first | exact Drawn0.refl _ | apply Drawn0.step)⟩
                · rw [if_neg c8] at H
                  have c8b0 : (!(((rd_T34 l0 x13_1).f0) == ((rd_T34 l1 x13_1).f0)) || (!(((rd_T34 l0 x13_1).f1) == ((rd_T34 l1 x13_1).f1)) || (!((((rd_T34 l0 x13_1).f2).toList) == (((rd_T34 l1 x13_1).f2).toList))))) = false := by simpa using c8
                  clear c8
                  have H' := Aside0.mk H
                  clear H
                  have p110101 : 0 ≤ (x13_1 : Int) := of_decide_eq_true (by first | (with_reducible assumption) | assumption)
                  have q110101 : x13_1 < (l0.length : Int) := of_decide_eq_true (by first | (with_reducible assumption) | assumption)
                  obtain ⟨ad110101, e110101, hx110101_0, hx110101_1, hx110101_2⟩ := at_T34 HR0.out x13_1 p110101 q110101
                  cases e110101
                  replace p110101 := eq_true p110101
                  replace q110101 := eq_true q110101
                  have p110102 : 0 ≤ (x13_1 : Int) := of_decide_eq_true (by first | (with_reducible assumption) | assumption)
                  have q110102 : x13_1 < (l1.length : Int) := of_decide_eq_true (by first | (with_reducible assumption) | assumption)
                  obtain ⟨ad110102, e110102, hx110102_0, hx110102_1, hx110102_2⟩ := at_T34 HR1.out x13_1 p110102 q110102
                  cases e110102
                  replace p110102 := eq_true p110102
                  replace q110102 := eq_true q110102
                  go_wp2
                  repeat (go_quiet (fail); try go_wp2)
                  go_roundg k1
                  case measure => have := HK1.out; omega
                  case rel => exact ⟨(wrap64 (x13_1 + 1)), (by first | rfl | (simp; done) | (simp [*]; done)), H', ⟨by have := HK1.out; omega⟩, by repeat (first | exact Drawn0.refl _ | apply Drawn0.step)⟩
              · rw [if_neg c7] at H
                exact absurd H (by simp)
            · rw [if_neg c6] at H
              exact absurd H (by simp)
          · rw [if_neg c5] at H
            exact absurd H (by simp)
        · rw [if_neg c4] at H
          have c4b0 : decide (x13_1 < (l0.length : Int)) = false := decide_eq_false c4
          clear c4
          obtain rfl := Option.some.inj H
          go_wp2
          repeat (go_quiet (fail); try go_wp2)
          go_ret
          exact ⟨by first | rfl | (simp; done) | (simp [*]; done), by repeat (first | exact Drawn0.refl _ | apply Drawn0.step)⟩
  · rw [if_neg c3] at H
    have c3b0 : ((l0.length : Int) == (l1.length : Int)) = false := beq_eq_false_iff_ne.mpr c3
    have c3b1 : ((l0.length : Int) != (l1.length : Int)) = true := bne_iff_ne.mpr c3
    have c3b2 : (l0.length == l1.length) = false := by first | simpa using c3 | (simp at c3 ⊢; omega)
    obtain rfl := Option.some.inj H
    go_enter Try.func22, Try.ntmps22
    go_wp2
    repeat (go_quiet (fail); try go_wp2)
    go_ret
    exact ⟨by first | rfl | (simp; done) | (simp [*]; done), by repeat (first | exact Drawn0.refl _ | apply Drawn0.step)⟩

end Go.Proofs.Ytfadafgnahhmdaa.E
namespace Go.Proofs.Ytfadafgnahhmdaa.X
open Go.RowKit Go.Proofs.YtfadafgnahhmdaaW.PrintWords Go.Proofs.YtfadafgnahhmdaaW.PrintLast Go.Proofs.YtfadafgnahhmdaaW.PrintMore Go.Proofs.Ytfadafgnahhmdaa.E
attribute [local go_sem] max2_int min2_int max_two min_two max_three min_three max_four min_four
set_option linter.unusedVariables false
set_option linter.unusedSimpArgs false

/-! ### Rows of variables without an initial value: name, class, kind -/
def vcells (x : ByteArray × Int × Int) : List Value :=
  [.string x.1, .int .i64 0, .int .i64 x.2.1, .int .u8 x.2.2, .bool false, .int .i64 0, .int .i64 0, .int .i64 0, .bool false, .int .i64 0, .int .i64 0, .string ⟨#[]⟩, .slice none 0 0, .bool false, .bool false, .string ⟨#[]⟩]
def kV : Kd (ByteArray × Int × Int) where
  sz := 16
  E := []
  K := fun _ x cs => cs = vcells x
  M := fun _ _ _ x cs => cs = vcells x
  K_len := by rintro w x cs rfl; rfl
  K_one := by rintro w x cs rfl u hu; simp only [vcells, List.mem_cons, List.not_mem_nil, or_false] at hu; rcases hu with rfl | rfl | rfl | rfl | rfl | rfl | rfl | rfl | rfl | rfl | rfl | rfl | rfl | rfl | rfl | rfl <;> rfl
  K_below := fun _ h => h
  K_of_M := fun h => h
  M_mono := fun _ h => h
  M_bound := fun h => h
  M_move := fun _ h => h
  M_lower := fun _ h => h
theorem kV_E : kV.E = [] := rfl
theorem info66 : (Try.prog.info? 66).map (fun i => (i.zero, i.size, i.bytes)) = some (some (.agg #[(.string ⟨#[]⟩), (.int .i64 0), (.int .i64 0), (.int .u8 0), (.bool false), (.int .i64 0), (.int .i64 0), (.int .i64 0), (.bool false), (.int .i64 0), (.int .i64 0), (.string ⟨#[]⟩), (.slice none 0 0), (.bool false), (.bool false), (.string ⟨#[]⟩)]), 16, 152) := by kernel_rfl
theorem kV_sz : kV.sz = 16 := rfl
def ofL (c k : Int) (ns : List ByteArray) : List (ByteArray × Int × Int) := ns.map fun n => (n, c, k)
theorem ofL_step (c k : Int) (ns : List ByteArray) (j : Nat) (h : j < ns.length) : ofL c k (ns.take (j + 1)) = ofL c k (ns.take j) ++ [(ns.getD j ByteArray.empty, c, k)] := by
  unfold ofL
  rw [List.take_succ_eq_append_getElem h, List.map_append, List.getD_eq_getElem?_getD, List.getElem?_eq_getElem h]
  rfl
set_option maxHeartbeats 800000 in
set_option maxRecDepth 100000 in
theorem of_calls (c k : Int) (A : Option Addr) (n cp : Nat) (ns : List ByteArray) (w : World) (hr : Kd.C Kd.string w A n ns) (hn : n ≤ 100) :
    Calls Try.prog 37 #[.int .i64 c, .int .u8 k, .slice A n cp] w fun e w' => ∃ v : Value, e = .returned v ∧ Kd.R kV 66 w' w.heap.size (fun _ => True) v (ofL c k ns) ∧ Below w.heap.size w w' := by
  have hu64 := Try.underlying64
  have hu66 := Try.underlying66
  have hl : ns.length = n := hr.1
  have HR := Aside0.mk hr
  have HL := Aside0.mk hl
  clear hl hr
  go_enter Try.func37, Try.ntmps37
  go_wp2
  go_loopw [7, 12] (fun v i wr => ∃ j : Nat, j ≤ n ∧ i = .int .i64 j ∧ Aside0 (Kd.R kV 66 wr w.heap.size (fun _ => True) v (ofL c k (ns.take j))) ∧ Aside0 (Below w.heap.size w wr)) (fun _ i _ => n - (intOf i).toNat)
  case atStart => exact ⟨0, Nat.zero_le _, rfl, ⟨Kd.R_nil _ _ _ _ _⟩, ⟨Below.refl _ _⟩⟩
  case round =>
    obtain ⟨j, hj, rfl, HO, HB⟩ := hrel
    by_cases hlt : j < n
    · obtain ⟨ad, cs, rfl, _, hK, hcell⟩ := Kd.C_get HR.out ByteArray.empty (j : Int) (by omega) (by omega)
      have hc0 := hcell 0 _ (by rw [show cs = [Value.string (ns.getD j ByteArray.empty)] from hK]; rfl)
      rw [show Kd.string.sz = 1 from rfl, Nat.mul_one, Nat.add_zero, Int.toNat_natCast] at hc0
      replace hc0 := (HB.out.cell (World.block_lt_of_cell? w _ hc0)).trans hc0
      have hx0 : wr.cell? (ad.add j) = some (Value.string (ns.getD j ByteArray.empty)) := hc0
      obtain ⟨nm, hnm⟩ : ∃ nm, nm = ns.getD j ByteArray.empty := ⟨_, rfl⟩
      rw [← hnm] at hx0
      have HN := Aside0.mk hnm
      clear hnm hc0 hcell hK
      have hb1 : (0 ≤ (j : Int)) = True := eq_true (by omega)
      have hb2 : ((j : Int) < (n : Int)) = True := eq_true (by omega)
      go_wp2_with (first | (at_builtin; refine Kd.R_append kV (w0 := w) w.heap.size rfl (.tmp 16) (.tmp 22) 27 66 _ 152 rfl Try.underlying27 info66 rfl (by decide) (by omega) u7 (ofL c k (ns.take j)) (nm, c, k) (vcells (nm, c, k)) (fun _ => True) (fun _ => False) rfl rfl rfl (fun _ h => h.elim) (fun _ _ => trivial) HO.out HB.out HB.out.size ?aS ?_; (case aS => unfold ofL; rw [List.length_map, List.length_take]; omega); intro v1 w1 ho hb hg hat; have HO1 := Aside0.mk ho; have HB1 := Aside0.mk hb; clear ho hb hg hat))
      go_roundw
      case rel => exact ⟨j + 1, by omega, by go_num, ⟨by rw [ofL_step _ _ _ _ (by have := HL.out; omega), ← HN.out]; exact HO1.out⟩, HB1⟩
      case measure => simp [intOf]; omega
    · go_wp2
      go_ret
      exact ⟨_, rfl, by rw [show ns = ns.take j from (List.take_of_length_le (by have := HL.out; omega)).symm]; exact HO.out, HB.out⟩

/-! ### Grow of a nil slice, Concat -/
set_option maxHeartbeats 800000 in
set_option maxRecDepth 100000 in
theorem grow_calls (m : Int) (w : World) (h0 : 0 ≤ m) (h1 : m ≤ 100) :
    Calls Try.prog 47 #[.slice none 0 0, .int .i64 m] w fun e w' => ∃ v : Value, e = .returned v ∧ Kd.R kV 66 w' w.heap.size (fun _ => True) v [] ∧ Below w.heap.size w w' := by
  by_cases hm : 0 < m
  · go_enter Try.func47, Try.ntmps47
    go_wp2_with (first | (at_builtin; refine Kd.R_append_zeros kV (w0 := w) w.heap.size rfl (.tmp 20) (.tmp 21) 27 3 66 _ 152 rfl Try.underlying27 Try.underlying3 info66 rfl (by decide) (by omega) (.slice none 0 0) [] (⟨#[]⟩, 0, 0) m (fun _ => True) rfl rfl rfl (fun _ _ => trivial) (Kd.R_nil _ _ _ _ _) ?a0 (Below.refl _ _) (Nat.le_refl _) ?aS ?_; (case a0 => assumption); (case aS => rw [List.length_nil]; omega); intro v1 w1 ho hb hg hat; obtain ⟨A1, c1, hv1⟩ := Kd.R_slice ho; subst hv1; have HO1 := Aside0.mk ho; have HB1 := Aside0.mk hb; clear ho hb hg hat))
    go_ret
    exact ⟨_, rfl, by have h := Kd.R_take HO1.out (m := 0) (Nat.zero_le _); simpa using h, HB1.out⟩
  · have hm0 : m = 0 := by omega
    subst hm0
    go_enter Try.func47, Try.ntmps47
    go_wp2
    go_ret
    exact ⟨_, rfl, Kd.R_nil _ _ _ _ _, Below.refl _ _⟩
/-- The sum of the lists' lengths. -/
def lens (ll : List (List (ByteArray × Int × Int))) : Nat := (ll.map List.length).sum
theorem lens_step (ll : List (List (ByteArray × Int × Int))) (j : Nat) (h : j < ll.length) : lens (ll.take (j + 1)) = lens (ll.take j) + (ll.getD j []).length := by
  unfold lens
  rw [List.take_succ_eq_append_getElem h, List.map_append, List.sum_append, List.getD_eq_getElem?_getD, List.getElem?_eq_getElem h]
  simp
theorem lens_take_le (ll : List (List (ByteArray × Int × Int))) (j : Nat) : lens (ll.take j) ≤ lens ll := by
  unfold lens
  have h : ((ll.take j ++ ll.drop j).map List.length).sum = (ll.map List.length).sum := by rw [List.take_append_drop]
  rw [List.map_append, List.sum_append] at h
  omega
theorem flat_step (ll : List (List (ByteArray × Int × Int))) (j : Nat) (h : j < ll.length) : (ll.take (j + 1)).flatten = (ll.take j).flatten ++ ll.getD j [] := by
  rw [List.take_succ_eq_append_getElem h, List.flatten_append, List.getD_eq_getElem?_getD, List.getElem?_eq_getElem h]
  simp
theorem flat_len (ll : List (List (ByteArray × Int × Int))) : ll.flatten.length = lens ll := by
  unfold lens
  rw [List.length_flatten]
set_option maxHeartbeats 1600000 in
set_option maxRecDepth 100000 in
theorem concat_calls (A : Option Addr) (n cp : Nat) (ll : List (List (ByteArray × Int × Int))) (w : World) (hr : Kd.C (Kd.slice 66 kV) w A n ll) (hn : n ≤ 20) (hs : lens ll ≤ 100) :
    Calls Try.prog 36 #[.slice A n cp] w fun e w' => ∃ v : Value, e = .returned v ∧ Kd.R kV 66 w' w.heap.size (fun _ => True) v ll.flatten ∧ Below w.heap.size w w' := by
  have hl : ll.length = n := hr.1
  have HR := Aside0.mk hr
  have HL := Aside0.mk hl
  clear hl hr
  go_enter Try.func36, Try.ntmps36
  go_wp2
  go_loopw [3, 11] (fun t i wr => ∃ j : Nat, j ≤ n ∧ i = .int .i64 j ∧ t = .int .i64 (lens (ll.take j)) ∧ w = wr) (fun _ i _ => n - (intOf i).toNat)
  case atStart => exact ⟨0, Nat.zero_le _, rfl, rfl, rfl⟩
  case round =>
    obtain ⟨j, hj, rfl, rfl, rfl⟩ := hrel
    by_cases hlt : j < n
    · obtain ⟨ad, cs, rfl, _, hK, hcell⟩ := Kd.C_get HR.out [] (j : Int) (by omega) (by omega)
      obtain ⟨A2, c2, hcs, hle, hC⟩ := hK
      subst hcs
      have hx0 := hcell 0 _ rfl
      rw [show (Kd.slice 66 kV).sz = 1 from rfl, Nat.mul_one, Nat.add_zero, Int.toNat_natCast] at hx0
      have hst := lens_step ll j (by have := HL.out; omega)
      have htl := lens_take_le ll (j + 1)
      obtain ⟨q, hq⟩ : ∃ q, q = (ll.getD j []).length := ⟨_, rfl⟩
      rw [← hq] at hx0
      obtain ⟨p, hp⟩ : ∃ p, p = lens (ll.take j) := ⟨_, rfl⟩
      rw [← hp, ← hq] at hst
      rw [← hp]
      have HST := Aside0.mk hst
      have HP := Aside0.mk hp
      have b0 : p + q ≤ 100 := by omega
      clear hst hp hq hcell hC hle htl
      have hb1 : (0 ≤ (j : Int)) = True := eq_true (by omega)
      have hb2 : ((j : Int) < (n : Int)) = True := eq_true (by omega)
      go_wp2
      go_roundw
      case rel => exact ⟨j + 1, by omega, by go_num, by rw [HST.out]; go_num, trivial⟩
      case measure => simp [intOf]; omega
    · have hjn : ll.take j = ll := List.take_of_length_le (by have := HL.out; omega)
      rw [hjn]
      obtain ⟨p, hp⟩ : ∃ p, p = lens ll := ⟨_, rfl⟩
      rw [← hp] at hs ⊢
      have HP := Aside0.mk hp
      clear hp hjn
      go_wp2_with (go_at_call 47; refine (grow_calls (p : Int) _ (by omega) (by omega)).mono ?_; rintro e w1 ⟨v1, rfl, ho, hb⟩; have HO1 := Aside0.mk ho; have HB1 := Aside0.mk hb; clear ho hb)
      go_loopw [6, 27] (fun v i w2 => ∃ j : Nat, j ≤ n ∧ i = .int .i64 j ∧ Aside0 (Kd.R kV 66 w2 w.heap.size (fun _ => True) v (ll.take j).flatten) ∧ Aside0 (Below w.heap.size w w2)) (fun _ i _ => n - (intOf i).toNat)
      case atStart => exact ⟨0, Nat.zero_le _, rfl, HO1, HB1⟩
      case round =>
        obtain ⟨j2, hj2, rfl, HO, HB⟩ := hrel
        by_cases hlt2 : j2 < n
        · obtain ⟨ad, cs, rfl, _, hK, hcell⟩ := Kd.C_get HR.out [] (j2 : Int) (by omega) (by omega)
          obtain ⟨A2, c2, hcs, hle, hC⟩ := hK
          subst hcs
          have hx0 := hcell 0 _ rfl
          rw [show (Kd.slice 66 kV).sz = 1 from rfl, Nat.mul_one, Nat.add_zero, Int.toNat_natCast] at hx0
          replace hx0 := (HB.out.cell (World.block_lt_of_cell? w _ hx0)).trans hx0
          have hfl := flat_step ll j2 (by have := HL.out; omega)
          have hll := flat_len (ll.take (j2 + 1))
          have htl := lens_take_le ll (j2 + 1)
          rw [hfl, List.length_append] at hll
          rw [Int.toNat_natCast] at hC
          obtain ⟨ys, hy⟩ : ∃ ys, ys = ll.getD j2 [] := ⟨_, rfl⟩
          rw [← hy] at hx0 hC hfl hll
          obtain ⟨xs, hx⟩ : ∃ xs, xs = (ll.take j2).flatten := ⟨_, rfl⟩
          rw [← hx] at HO hfl hll
          have b0 : xs.length + ys.length ≤ 100 := by have := HP.out; omega
          obtain ⟨q, hq⟩ : ∃ q, q = ys.length := ⟨_, rfl⟩
          rw [← hq] at hx0
          have HC := Aside0.mk (Kd.C_below hC HB.out)
          have HF := Aside0.mk hfl
          have HQ := Aside0.mk hq
          have B0 := Aside0.mk b0
          clear hfl hll htl hy hx hC hcell hle hq b0
          have hb1 : (0 ≤ (j2 : Int)) = True := eq_true (by omega)
          have hb2 : ((j2 : Int) < (n : Int)) = True := eq_true (by omega)
          go_wp2_with (first | (at_builtin; refine Kd.R_append_rows kV (Rr := fun x cs => cs = vcells x) (w0 := w) w.heap.size rfl (.tmp 31) (.tmp 32) 27 66 _ 152 rfl Try.underlying27 info66 rfl (by decide) (by omega) u6 xs ys A2 q c2 (fun _ => True) (fun _ => False) rfl rfl HO.out ?aR (fun _ _ h => h) (fun _ h => h.elim) (fun _ _ => trivial) HB.out HB.out.size ?aS ?_; (case aR => rw [HQ.out]; exact HC.out); (case aS => have := B0.out; have := HQ.out; omega); intro v2 w3 ho hb hg hat; have HO2 := Aside0.mk ho; have HB2 := Aside0.mk hb; clear ho hb hg hat))
          go_roundw
          case rel => exact ⟨j2 + 1, by omega, by go_num, ⟨by rw [HF.out]; exact HO2.out⟩, HB2⟩
          case measure => simp [intOf]; omega
        · go_wp2
          go_ret
          exact ⟨_, rfl, by rw [show ll.flatten = (ll.take j2).flatten by rw [List.take_of_length_le (by have := HL.out; omega)]]; exact HO.out, HB.out⟩
section
variable {P : Program} {ops : Array Oper} {rest : List Oper} {o : Oper} {a : Act} {Q : Exit → Act → World → Prop} {α : Type}
/-- append(v, x), x in a block of its own whose number is told by an equation. -/
theorem R_append' (d : Kd α) {w0 W : World} (base : Nat) (hgd : o.guard = none) (s x : Operand) (t e : TypeId) (z : Value) (bytes : Nat)
    (ho : o.op = .call { callee := .builtin .append, args := #[s, x], argTypes := #[t, t] })
    (ht : P.underlying t = some (.slice e)) (hinfo : (P.info? e).map (fun i => (i.zero, i.size, i.bytes)) = some (some z, d.sz, bytes)) (hz : z.cells.size = d.sz) (hs0 : 0 < d.sz) (hb0 : 0 < bytes)
    (v : Value) (xs : List α) (p : α) (cs : List Value) (ok okp : Nat → Prop) (g : Nat) (hs : a.eval s = v) (hx : a.eval x = .slice (some ⟨g, 0, none⟩) 1 1) (hg : g = W.heap.size) (hp : d.M W base okp p cs) (hokp : ∀ k, okp k → ok k ∧ some k ≠ v.ownBlock) (hfresh : ∀ k, W.heap.size ≤ k → ok k)
    (HO : d.R e W base ok v xs) (HB : Below base w0 W) (hbase : base ≤ W.heap.size) (hl : (xs.length + 1) * bytes ≤ 140737488355328)
    (h : ∀ v1 w1, d.R e w1 base ok v1 (xs ++ [p]) → Below base w0 w1 → W.grownBy w1 v.ownBlock → (v1.ownBlock = v.ownBlock ∨ ∃ b, v1.ownBlock = some b ∧ W.heap.size ≤ b) → wpList P ops Q rest (a.put o.dst v1) w1) :
    wpList P ops Q (o :: rest) a (W.alloc (.cells cs.toArray e)) := by
  subst hg
  exact Kd.R_append d base hgd s x t e z bytes ho ht hinfo hz hs0 hb0 v xs p cs ok okp hs hx hp hokp hfresh HO HB hbase hl h
end

end Go.Proofs.Ytfadafgnahhmdaa.X
