/-
  No cell of these rows narrows 'for every input' (looked for: loops, veiled, ifaces, maps, wideKeys, modest, calm, conditions, laid).
  DERIVED. THE GIVEN ROWS OF THIS SEAT. 10 by the template 'for every input the law returns true; each argument reads behind the call as it read before'; 0 by the template 'total and deterministic' (their statements: YtfadafgnahhmdaaTotals.lean).
  GIVEN WITH THE SEED: the statements are not yours to turn. If you find one false, say at which input.
  Laid BY PROGRAM, IN A SANDBOX (cutbox-rows.mjs): the forced cells as the released guide's own fill.sh prints them over the translation f374813e80b0ef11… (all of the seat's roots in one cut). By AI agents, Wed Nov 11 2026. No macro, syntax, notation, axiom, sorry.
-/
import Derived.Test.YtfadafgnahhmdaaChecked
import GoSem.Claim
import GoSem.ClaimJoined
import GoSem.ClaimMapViews
import Derived.JoinedTies
import Derived.KernelRfl
namespace Go.Proofs.Ytfadafgnahhmdaa
/- THE CELL 'sum', in the pinned program and in every row, IS THE sha256 OF THE DUMP (.gsa) THAT YtfadafgnahhmdaaProg.lean LOADS. Nothing in Lean hashes anything: it is a label: what it is worth is what the hold of that sum in a sandbox is worth. -/
noncomputable def Try.pinned : Pinned := { name := "ytfadafgnahhmdaa", sum := "f374813e80b0ef118c0b0e8171a6420323ca284f8c7b410cf7174de7fa7805a4", checked := Try.checked }
namespace Rows
def none {H : Type} : Left H := { results := [], args := [] }

/-- 'relaylaw10.BlocksTells': WHATEVER THE INPUT: true; the input reads as it did. -/
def blocksTellsSpec : ChangeSpec := { name := "blocksTells", fn := fun _ => fun
  | [d1, d2] => { results := [.lit (.bool true)], args := [d1, d2] }
  | _ => none }
def blocksTellsRow : OpenClaim := { program := "ytfadafgnahhmdaa", sum := "f374813e80b0ef118c0b0e8171a6420323ca284f8c7b410cf7174de7fa7805a4", func := "relay/relaylaw10.BlocksTells", spec := "blocksTells", apart := false }
def BlocksTellsSaid : Prop := blocksTellsRow.holds Try.pinned (OpenSpec.ofChange blocksTellsSpec)

/-- ITS FALSE NEIGHBOUR: 'it returns false'. Refute it at one input. -/
def blocksTellsWrong : ChangeSpec := { name := "blocksTells", fn := fun _ => fun
  | [d1, d2] => { results := [.lit (.bool false)], args := [d1, d2] }
  | _ => none }
def BlocksTellsWrongFalsely : Prop := blocksTellsRow.holds Try.pinned (OpenSpec.ofChange blocksTellsWrong)

/-- 'relaylaw10.BlocksWins': WHATEVER THE INPUT: true; the input reads as it did. -/
def blocksWinsSpec : ChangeSpec := { name := "blocksWins", fn := fun _ => fun
  | [d1, d2] => { results := [.lit (.bool true)], args := [d1, d2] }
  | _ => none }
def blocksWinsRow : OpenClaim := { program := "ytfadafgnahhmdaa", sum := "f374813e80b0ef118c0b0e8171a6420323ca284f8c7b410cf7174de7fa7805a4", func := "relay/relaylaw10.BlocksWins", spec := "blocksWins", inPlace := ["math.Float64frombits"], unfollowed := true, recurses := true, apart := false }
def BlocksWinsSaid : Prop := blocksWinsRow.holds Try.pinned (OpenSpec.ofChange blocksWinsSpec)

/-- ITS FALSE NEIGHBOUR: 'it returns false'. Refute it at one input. -/
def blocksWinsWrong : ChangeSpec := { name := "blocksWins", fn := fun _ => fun
  | [d1, d2] => { results := [.lit (.bool false)], args := [d1, d2] }
  | _ => none }
def BlocksWinsWrongFalsely : Prop := blocksWinsRow.holds Try.pinned (OpenSpec.ofChange blocksWinsWrong)

/-- 'relaylaw10.BlocksSteps': WHATEVER THE INPUT: true; the input reads as it did. -/
def blocksStepsSpec : ChangeSpec := { name := "blocksSteps", fn := fun _ => fun
  | [d1, d2, d3] => { results := [.lit (.bool true)], args := [d1, d2, d3] }
  | _ => none }
def blocksStepsRow : OpenClaim := { program := "ytfadafgnahhmdaa", sum := "f374813e80b0ef118c0b0e8171a6420323ca284f8c7b410cf7174de7fa7805a4", func := "relay/relaylaw10.BlocksSteps", spec := "blocksSteps", inPlace := ["math.Float64frombits"], unfollowed := true, recurses := true, apart := false }
def BlocksStepsSaid : Prop := blocksStepsRow.holds Try.pinned (OpenSpec.ofChange blocksStepsSpec)

/-- ITS FALSE NEIGHBOUR: 'it returns false'. Refute it at one input. -/
def blocksStepsWrong : ChangeSpec := { name := "blocksSteps", fn := fun _ => fun
  | [d1, d2, d3] => { results := [.lit (.bool false)], args := [d1, d2, d3] }
  | _ => none }
def BlocksStepsWrongFalsely : Prop := blocksStepsRow.holds Try.pinned (OpenSpec.ofChange blocksStepsWrong)

/-- 'relaylaw10.BlocksEdges': WHATEVER THE INPUT: true; the input reads as it did. -/
def blocksEdgesSpec : ChangeSpec := { name := "blocksEdges", fn := fun _ => fun
  | [d] => { results := [.lit (.bool true)], args := [d] }
  | _ => none }
def blocksEdgesRow : OpenClaim := { program := "ytfadafgnahhmdaa", sum := "f374813e80b0ef118c0b0e8171a6420323ca284f8c7b410cf7174de7fa7805a4", func := "relay/relaylaw10.BlocksEdges", spec := "blocksEdges", inPlace := ["math.Float64frombits"], unfollowed := true, recurses := true, apart := false }
def BlocksEdgesSaid : Prop := blocksEdgesRow.holds Try.pinned (OpenSpec.ofChange blocksEdgesSpec)

/-- ITS FALSE NEIGHBOUR: 'it returns false'. Refute it at one input. -/
def blocksEdgesWrong : ChangeSpec := { name := "blocksEdges", fn := fun _ => fun
  | [d] => { results := [.lit (.bool false)], args := [d] }
  | _ => none }
def BlocksEdgesWrongFalsely : Prop := blocksEdgesRow.holds Try.pinned (OpenSpec.ofChange blocksEdgesWrong)

/-- 'relaylaw10.BlocksCounts': WHATEVER THE INPUT: true; the input reads as it did. -/
def blocksCountsSpec : ChangeSpec := { name := "blocksCounts", fn := fun _ => fun
  | [d1, d2, d3] => { results := [.lit (.bool true)], args := [d1, d2, d3] }
  | _ => none }
def blocksCountsRow : OpenClaim := { program := "ytfadafgnahhmdaa", sum := "f374813e80b0ef118c0b0e8171a6420323ca284f8c7b410cf7174de7fa7805a4", func := "relay/relaylaw10.BlocksCounts", spec := "blocksCounts", inPlace := ["math.Float64frombits"], unfollowed := true, recurses := true, apart := false }
def BlocksCountsSaid : Prop := blocksCountsRow.holds Try.pinned (OpenSpec.ofChange blocksCountsSpec)

/-- ITS FALSE NEIGHBOUR: 'it returns false'. Refute it at one input. -/
def blocksCountsWrong : ChangeSpec := { name := "blocksCounts", fn := fun _ => fun
  | [d1, d2, d3] => { results := [.lit (.bool false)], args := [d1, d2, d3] }
  | _ => none }
def BlocksCountsWrongFalsely : Prop := blocksCountsRow.holds Try.pinned (OpenSpec.ofChange blocksCountsWrong)

/-- 'relaylaw10.BlocksSums': WHATEVER THE INPUT: true; the input reads as it did. -/
def blocksSumsSpec : ChangeSpec := { name := "blocksSums", fn := fun _ => fun
  | [d1, d2, d3] => { results := [.lit (.bool true)], args := [d1, d2, d3] }
  | _ => none }
def blocksSumsRow : OpenClaim := { program := "ytfadafgnahhmdaa", sum := "f374813e80b0ef118c0b0e8171a6420323ca284f8c7b410cf7174de7fa7805a4", func := "relay/relaylaw10.BlocksSums", spec := "blocksSums", inPlace := ["math.Float64frombits"], unfollowed := true, recurses := true, apart := false }
def BlocksSumsSaid : Prop := blocksSumsRow.holds Try.pinned (OpenSpec.ofChange blocksSumsSpec)

/-- ITS FALSE NEIGHBOUR: 'it returns false'. Refute it at one input. -/
def blocksSumsWrong : ChangeSpec := { name := "blocksSums", fn := fun _ => fun
  | [d1, d2, d3] => { results := [.lit (.bool false)], args := [d1, d2, d3] }
  | _ => none }
def BlocksSumsWrongFalsely : Prop := blocksSumsRow.holds Try.pinned (OpenSpec.ofChange blocksSumsWrong)

/-- 'relaylaw10.BlocksDelays': WHATEVER THE INPUT: true; the input reads as it did. -/
def blocksDelaysSpec : ChangeSpec := { name := "blocksDelays", fn := fun _ => fun
  | [d1, d2] => { results := [.lit (.bool true)], args := [d1, d2] }
  | _ => none }
def blocksDelaysRow : OpenClaim := { program := "ytfadafgnahhmdaa", sum := "f374813e80b0ef118c0b0e8171a6420323ca284f8c7b410cf7174de7fa7805a4", func := "relay/relaylaw10.BlocksDelays", spec := "blocksDelays", inPlace := ["math.Float64frombits"], unfollowed := true, recurses := true, apart := false }
def BlocksDelaysSaid : Prop := blocksDelaysRow.holds Try.pinned (OpenSpec.ofChange blocksDelaysSpec)

/-- ITS FALSE NEIGHBOUR: 'it returns false'. Refute it at one input. -/
def blocksDelaysWrong : ChangeSpec := { name := "blocksDelays", fn := fun _ => fun
  | [d1, d2] => { results := [.lit (.bool false)], args := [d1, d2] }
  | _ => none }
def BlocksDelaysWrongFalsely : Prop := blocksDelaysRow.holds Try.pinned (OpenSpec.ofChange blocksDelaysWrong)

/-- 'relaylaw10.BlocksPulses': WHATEVER THE INPUT: true; the input reads as it did. -/
def blocksPulsesSpec : ChangeSpec := { name := "blocksPulses", fn := fun _ => fun
  | [d1, d2] => { results := [.lit (.bool true)], args := [d1, d2] }
  | _ => none }
def blocksPulsesRow : OpenClaim := { program := "ytfadafgnahhmdaa", sum := "f374813e80b0ef118c0b0e8171a6420323ca284f8c7b410cf7174de7fa7805a4", func := "relay/relaylaw10.BlocksPulses", spec := "blocksPulses", inPlace := ["math.Float64frombits"], unfollowed := true, recurses := true, apart := false }
def BlocksPulsesSaid : Prop := blocksPulsesRow.holds Try.pinned (OpenSpec.ofChange blocksPulsesSpec)

/-- ITS FALSE NEIGHBOUR: 'it returns false'. Refute it at one input. -/
def blocksPulsesWrong : ChangeSpec := { name := "blocksPulses", fn := fun _ => fun
  | [d1, d2] => { results := [.lit (.bool false)], args := [d1, d2] }
  | _ => none }
def BlocksPulsesWrongFalsely : Prop := blocksPulsesRow.holds Try.pinned (OpenSpec.ofChange blocksPulsesWrong)

/-- 'relaylaw10.BlocksElapsed': WHATEVER THE INPUT: true; the input reads as it did. -/
def blocksElapsedSpec : ChangeSpec := { name := "blocksElapsed", fn := fun _ => fun
  | [d1, d2, d3] => { results := [.lit (.bool true)], args := [d1, d2, d3] }
  | _ => none }
def blocksElapsedRow : OpenClaim := { program := "ytfadafgnahhmdaa", sum := "f374813e80b0ef118c0b0e8171a6420323ca284f8c7b410cf7174de7fa7805a4", func := "relay/relaylaw10.BlocksElapsed", spec := "blocksElapsed", inPlace := ["math.Float64frombits"], unfollowed := true, recurses := true, apart := false }
def BlocksElapsedSaid : Prop := blocksElapsedRow.holds Try.pinned (OpenSpec.ofChange blocksElapsedSpec)

/-- ITS FALSE NEIGHBOUR: 'it returns false'. Refute it at one input. -/
def blocksElapsedWrong : ChangeSpec := { name := "blocksElapsed", fn := fun _ => fun
  | [d1, d2, d3] => { results := [.lit (.bool false)], args := [d1, d2, d3] }
  | _ => none }
def BlocksElapsedWrongFalsely : Prop := blocksElapsedRow.holds Try.pinned (OpenSpec.ofChange blocksElapsedWrong)

/-- 'relaylaw10.BlocksLives': WHATEVER THE INPUT: true; the input reads as it did. -/
def blocksLivesSpec : ChangeSpec := { name := "blocksLives", fn := fun _ => fun
  | [d1, d2] => { results := [.lit (.bool true)], args := [d1, d2] }
  | _ => none }
def blocksLivesRow : OpenClaim := { program := "ytfadafgnahhmdaa", sum := "f374813e80b0ef118c0b0e8171a6420323ca284f8c7b410cf7174de7fa7805a4", func := "relay/relaylaw10.BlocksLives", spec := "blocksLives", inPlace := ["math.Float64frombits"], unfollowed := true, recurses := true, apart := false }
def BlocksLivesSaid : Prop := blocksLivesRow.holds Try.pinned (OpenSpec.ofChange blocksLivesSpec)

/-- ITS FALSE NEIGHBOUR: 'it returns false'. Refute it at one input. -/
def blocksLivesWrong : ChangeSpec := { name := "blocksLives", fn := fun _ => fun
  | [d1, d2] => { results := [.lit (.bool false)], args := [d1, d2] }
  | _ => none }
def BlocksLivesWrongFalsely : Prop := blocksLivesRow.holds Try.pinned (OpenSpec.ofChange blocksLivesWrong)

/- THE SECOND FORM. 'bulk': how many values and letters a reading holds, each counted each time it is reached (what is shared counts as often as it is met; a slice's spare places count too). A statement '..UptoSaid' is the law's where the arguments, and the package variables that the reading takes, are together of bulk at most 1048576: NARROWER than '..Said'. Prove '..Said' where nothing that the law and all that it calls make is longer than what came in: it says more and counts as full. Else prove '..UptoSaid'. A law counts once. -/
mutual
def uptoBulk {H : Type} : DataW H → Nat
  | .lit (.string bytes) => bytes.length + 1
  | .lit _ => 1
  | .nil => 1
  | .ptr d => uptoBulk d + 1
  | .slice elems spare => uptoBulkAll elems + uptoBulkAll spare + 1
  | .agg parts => uptoBulkAll parts + 1
  | .iface _ d => uptoBulk d + 1
  | .map entries => uptoBulkEntries entries + 1
  | .held _ => 1
def uptoBulkAll {H : Type} : List (DataW H) → Nat
  | [] => 0
  | d :: r => uptoBulk d + uptoBulkAll r
def uptoBulkEntries {H : Type} : List (Lit × DataW H) → Nat
  | [] => 0
  | x :: r => uptoBulkEntry x + uptoBulkEntries r
def uptoBulkEntry {H : Type} : Lit × DataW H → Nat
  | (.string bytes, d) => bytes.length + uptoBulk d + 1
  | (_, d) => uptoBulk d + 1
 end
def uptoSmall : (H : Type) → List (DataW H) → Bool := fun _ ds => decide (uptoBulkAll ds ≤ 1048576)
def OpenSpec.upto (s : _root_.Go.ChangeSpec) : _root_.Go.OpenSpec := { _root_.Go.OpenSpec.ofChange s with cond := some uptoSmall }

/-- 'relaylaw10.BlocksTells', WHERE WHAT IT READS IS OF BULK AT MOST 1048576: true; the input reads as it did. -/
def blocksTellsUptoRow : OpenClaim := { program := "ytfadafgnahhmdaa", sum := "f374813e80b0ef118c0b0e8171a6420323ca284f8c7b410cf7174de7fa7805a4", func := "relay/relaylaw10.BlocksTells", spec := "blocksTells", apart := false, narrowed := true }
def BlocksTellsUptoSaid : Prop := blocksTellsUptoRow.holds Try.pinned (OpenSpec.upto blocksTellsSpec)

/-- 'relaylaw10.BlocksWins', WHERE WHAT IT READS IS OF BULK AT MOST 1048576: true; the input reads as it did. -/
def blocksWinsUptoRow : OpenClaim := { program := "ytfadafgnahhmdaa", sum := "f374813e80b0ef118c0b0e8171a6420323ca284f8c7b410cf7174de7fa7805a4", func := "relay/relaylaw10.BlocksWins", spec := "blocksWins", inPlace := ["math.Float64frombits"], unfollowed := true, recurses := true, apart := false, narrowed := true }
def BlocksWinsUptoSaid : Prop := blocksWinsUptoRow.holds Try.pinned (OpenSpec.upto blocksWinsSpec)

/-- 'relaylaw10.BlocksSteps', WHERE WHAT IT READS IS OF BULK AT MOST 1048576: true; the input reads as it did. -/
def blocksStepsUptoRow : OpenClaim := { program := "ytfadafgnahhmdaa", sum := "f374813e80b0ef118c0b0e8171a6420323ca284f8c7b410cf7174de7fa7805a4", func := "relay/relaylaw10.BlocksSteps", spec := "blocksSteps", inPlace := ["math.Float64frombits"], unfollowed := true, recurses := true, apart := false, narrowed := true }
def BlocksStepsUptoSaid : Prop := blocksStepsUptoRow.holds Try.pinned (OpenSpec.upto blocksStepsSpec)

/-- 'relaylaw10.BlocksEdges', WHERE WHAT IT READS IS OF BULK AT MOST 1048576: true; the input reads as it did. -/
def blocksEdgesUptoRow : OpenClaim := { program := "ytfadafgnahhmdaa", sum := "f374813e80b0ef118c0b0e8171a6420323ca284f8c7b410cf7174de7fa7805a4", func := "relay/relaylaw10.BlocksEdges", spec := "blocksEdges", inPlace := ["math.Float64frombits"], unfollowed := true, recurses := true, apart := false, narrowed := true }
def BlocksEdgesUptoSaid : Prop := blocksEdgesUptoRow.holds Try.pinned (OpenSpec.upto blocksEdgesSpec)

/-- 'relaylaw10.BlocksCounts', WHERE WHAT IT READS IS OF BULK AT MOST 1048576: true; the input reads as it did. -/
def blocksCountsUptoRow : OpenClaim := { program := "ytfadafgnahhmdaa", sum := "f374813e80b0ef118c0b0e8171a6420323ca284f8c7b410cf7174de7fa7805a4", func := "relay/relaylaw10.BlocksCounts", spec := "blocksCounts", inPlace := ["math.Float64frombits"], unfollowed := true, recurses := true, apart := false, narrowed := true }
def BlocksCountsUptoSaid : Prop := blocksCountsUptoRow.holds Try.pinned (OpenSpec.upto blocksCountsSpec)

/-- 'relaylaw10.BlocksSums', WHERE WHAT IT READS IS OF BULK AT MOST 1048576: true; the input reads as it did. -/
def blocksSumsUptoRow : OpenClaim := { program := "ytfadafgnahhmdaa", sum := "f374813e80b0ef118c0b0e8171a6420323ca284f8c7b410cf7174de7fa7805a4", func := "relay/relaylaw10.BlocksSums", spec := "blocksSums", inPlace := ["math.Float64frombits"], unfollowed := true, recurses := true, apart := false, narrowed := true }
def BlocksSumsUptoSaid : Prop := blocksSumsUptoRow.holds Try.pinned (OpenSpec.upto blocksSumsSpec)

/-- 'relaylaw10.BlocksDelays', WHERE WHAT IT READS IS OF BULK AT MOST 1048576: true; the input reads as it did. -/
def blocksDelaysUptoRow : OpenClaim := { program := "ytfadafgnahhmdaa", sum := "f374813e80b0ef118c0b0e8171a6420323ca284f8c7b410cf7174de7fa7805a4", func := "relay/relaylaw10.BlocksDelays", spec := "blocksDelays", inPlace := ["math.Float64frombits"], unfollowed := true, recurses := true, apart := false, narrowed := true }
def BlocksDelaysUptoSaid : Prop := blocksDelaysUptoRow.holds Try.pinned (OpenSpec.upto blocksDelaysSpec)

/-- 'relaylaw10.BlocksPulses', WHERE WHAT IT READS IS OF BULK AT MOST 1048576: true; the input reads as it did. -/
def blocksPulsesUptoRow : OpenClaim := { program := "ytfadafgnahhmdaa", sum := "f374813e80b0ef118c0b0e8171a6420323ca284f8c7b410cf7174de7fa7805a4", func := "relay/relaylaw10.BlocksPulses", spec := "blocksPulses", inPlace := ["math.Float64frombits"], unfollowed := true, recurses := true, apart := false, narrowed := true }
def BlocksPulsesUptoSaid : Prop := blocksPulsesUptoRow.holds Try.pinned (OpenSpec.upto blocksPulsesSpec)

/-- 'relaylaw10.BlocksElapsed', WHERE WHAT IT READS IS OF BULK AT MOST 1048576: true; the input reads as it did. -/
def blocksElapsedUptoRow : OpenClaim := { program := "ytfadafgnahhmdaa", sum := "f374813e80b0ef118c0b0e8171a6420323ca284f8c7b410cf7174de7fa7805a4", func := "relay/relaylaw10.BlocksElapsed", spec := "blocksElapsed", inPlace := ["math.Float64frombits"], unfollowed := true, recurses := true, apart := false, narrowed := true }
def BlocksElapsedUptoSaid : Prop := blocksElapsedUptoRow.holds Try.pinned (OpenSpec.upto blocksElapsedSpec)

/-- 'relaylaw10.BlocksLives', WHERE WHAT IT READS IS OF BULK AT MOST 1048576: true; the input reads as it did. -/
def blocksLivesUptoRow : OpenClaim := { program := "ytfadafgnahhmdaa", sum := "f374813e80b0ef118c0b0e8171a6420323ca284f8c7b410cf7174de7fa7805a4", func := "relay/relaylaw10.BlocksLives", spec := "blocksLives", inPlace := ["math.Float64frombits"], unfollowed := true, recurses := true, apart := false, narrowed := true }
def BlocksLivesUptoSaid : Prop := blocksLivesUptoRow.holds Try.pinned (OpenSpec.upto blocksLivesSpec)

end Rows
end Go.Proofs.Ytfadafgnahhmdaa
