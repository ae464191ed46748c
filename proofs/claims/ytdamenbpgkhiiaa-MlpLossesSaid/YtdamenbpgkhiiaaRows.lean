/-
  No cell of these rows narrows 'for every input' (looked for: loops, veiled, ifaces, maps, wideKeys, modest, calm, conditions, laid).
  DERIVED. THE GIVEN ROWS OF THIS SEAT. 9 by the template 'for every input the law returns true; each argument reads behind the call as it read before'; 0 by the template 'total and deterministic' (their statements: YtdamenbpgkhiiaaTotals.lean).
  GIVEN WITH THE SEED: the statements are not yours to turn. If you find one false, say at which input.
  Laid BY PROGRAM, IN A SANDBOX (cutbox-rows.mjs): the forced cells as the released guide's own fill.sh prints them over the translation d72c8f395229d9c7… (all of the seat's roots in one cut). By AI agents, Wed Nov 11 2026. No macro, syntax, notation, axiom, sorry.
-/
import Derived.Test.YtdamenbpgkhiiaaChecked
import GoSem.Claim
import GoSem.ClaimJoined
import GoSem.ClaimMapViews
import Derived.JoinedTies
import Derived.KernelRfl
namespace Go.Proofs.Ytdamenbpgkhiiaa
/- THE CELL 'sum', in the pinned program and in every row, IS THE sha256 OF THE DUMP (.gsa) THAT YtdamenbpgkhiiaaProg.lean LOADS. Nothing in Lean hashes anything: it is a label: what it is worth is what the hold of that sum in a sandbox is worth. -/
noncomputable def Try.pinned : Pinned := { name := "ytdamenbpgkhiiaa", sum := "d72c8f395229d9c713df84d6f0f0713a47405b3cbbf86e9fee7623bb7e56a8a9", checked := Try.checked }
namespace Rows
def none {H : Type} : Left H := { results := [], args := [] }

/-- 'regattalaw22.ConfigChecks': WHATEVER THE INPUT: true; the input reads as it did. -/
def configChecksSpec : ChangeSpec := { name := "configChecks", fn := fun _ => fun
  | [d1, d2] => { results := [.lit (.bool true)], args := [d1, d2] }
  | _ => none }
def configChecksRow : OpenClaim := { program := "ytdamenbpgkhiiaa", sum := "d72c8f395229d9c713df84d6f0f0713a47405b3cbbf86e9fee7623bb7e56a8a9", func := "regatta/regattalaw22.ConfigChecks", spec := "configChecks", inPlace := ["math.Float64frombits", "math.Float64bits", "math/bits.Sub64", "math/bits.Add64"], unfollowed := true, recurses := true, apart := false }
def ConfigChecksSaid : Prop := configChecksRow.holds Try.pinned (OpenSpec.ofChange configChecksSpec)

/-- ITS FALSE NEIGHBOUR: 'it returns false'. Refute it at one input. -/
def configChecksWrong : ChangeSpec := { name := "configChecks", fn := fun _ => fun
  | [d1, d2] => { results := [.lit (.bool false)], args := [d1, d2] }
  | _ => none }
def ConfigChecksWrongFalsely : Prop := configChecksRow.holds Try.pinned (OpenSpec.ofChange configChecksWrong)

/-- 'regattalaw22.ConfigRooms': WHATEVER THE INPUT: true; the input reads as it did. -/
def configRoomsSpec : ChangeSpec := { name := "configRooms", fn := fun _ => fun
  | [d1, d2] => { results := [.lit (.bool true)], args := [d1, d2] }
  | _ => none }
def configRoomsRow : OpenClaim := { program := "ytdamenbpgkhiiaa", sum := "d72c8f395229d9c713df84d6f0f0713a47405b3cbbf86e9fee7623bb7e56a8a9", func := "regatta/regattalaw22.ConfigRooms", spec := "configRooms", inPlace := ["math.Float64frombits", "math.Float64bits", "math/bits.Sub64", "math/bits.Add64"], unfollowed := true, recurses := true, apart := false }
def ConfigRoomsSaid : Prop := configRoomsRow.holds Try.pinned (OpenSpec.ofChange configRoomsSpec)

/-- ITS FALSE NEIGHBOUR: 'it returns false'. Refute it at one input. -/
def configRoomsWrong : ChangeSpec := { name := "configRooms", fn := fun _ => fun
  | [d1, d2] => { results := [.lit (.bool false)], args := [d1, d2] }
  | _ => none }
def ConfigRoomsWrongFalsely : Prop := configRoomsRow.holds Try.pinned (OpenSpec.ofChange configRoomsWrong)

/-- 'regattalaw22.ConfigNoughts': WHATEVER THE INPUT: true; the input reads as it did. -/
def configNoughtsSpec : ChangeSpec := { name := "configNoughts", fn := fun _ => fun
  | [d1, d2, d3] => { results := [.lit (.bool true)], args := [d1, d2, d3] }
  | _ => none }
def configNoughtsRow : OpenClaim := { program := "ytdamenbpgkhiiaa", sum := "d72c8f395229d9c713df84d6f0f0713a47405b3cbbf86e9fee7623bb7e56a8a9", func := "regatta/regattalaw22.ConfigNoughts", spec := "configNoughts", inPlace := ["math.Float64frombits", "math.Float64bits", "math/bits.Sub64", "math/bits.Add64"], unfollowed := true, recurses := true, apart := false }
def ConfigNoughtsSaid : Prop := configNoughtsRow.holds Try.pinned (OpenSpec.ofChange configNoughtsSpec)

/-- ITS FALSE NEIGHBOUR: 'it returns false'. Refute it at one input. -/
def configNoughtsWrong : ChangeSpec := { name := "configNoughts", fn := fun _ => fun
  | [d1, d2, d3] => { results := [.lit (.bool false)], args := [d1, d2, d3] }
  | _ => none }
def ConfigNoughtsWrongFalsely : Prop := configNoughtsRow.holds Try.pinned (OpenSpec.ofChange configNoughtsWrong)

/-- 'regattalaw07.MlpStill': WHATEVER THE INPUT: true; the input reads as it did. -/
def mlpStillSpec : ChangeSpec := { name := "mlpStill", fn := fun _ => fun
  | [d1, d2] => { results := [.lit (.bool true)], args := [d1, d2] }
  | _ => none }
def mlpStillRow : OpenClaim := { program := "ytdamenbpgkhiiaa", sum := "d72c8f395229d9c713df84d6f0f0713a47405b3cbbf86e9fee7623bb7e56a8a9", func := "regatta/regattalaw07.MlpStill", spec := "mlpStill", inPlace := ["math/bits.Add64", "math/bits.Sub64"], unfollowed := true, recurses := true, apart := false }
def MlpStillSaid : Prop := mlpStillRow.holds Try.pinned (OpenSpec.ofChange mlpStillSpec)

/-- ITS FALSE NEIGHBOUR: 'it returns false'. Refute it at one input. -/
def mlpStillWrong : ChangeSpec := { name := "mlpStill", fn := fun _ => fun
  | [d1, d2] => { results := [.lit (.bool false)], args := [d1, d2] }
  | _ => none }
def MlpStillWrongFalsely : Prop := mlpStillRow.holds Try.pinned (OpenSpec.ofChange mlpStillWrong)

/-- 'regattalaw07.MlpHidden': WHATEVER THE INPUT: true; the input reads as it did. -/
def mlpHiddenSpec : ChangeSpec := { name := "mlpHidden", fn := fun _ => fun
  | [d1, d2, d3] => { results := [.lit (.bool true)], args := [d1, d2, d3] }
  | _ => none }
def mlpHiddenRow : OpenClaim := { program := "ytdamenbpgkhiiaa", sum := "d72c8f395229d9c713df84d6f0f0713a47405b3cbbf86e9fee7623bb7e56a8a9", func := "regatta/regattalaw07.MlpHidden", spec := "mlpHidden", inPlace := ["math/bits.Add64", "math/bits.Sub64"], unfollowed := true, recurses := true, apart := false }
def MlpHiddenSaid : Prop := mlpHiddenRow.holds Try.pinned (OpenSpec.ofChange mlpHiddenSpec)

/-- ITS FALSE NEIGHBOUR: 'it returns false'. Refute it at one input. -/
def mlpHiddenWrong : ChangeSpec := { name := "mlpHidden", fn := fun _ => fun
  | [d1, d2, d3] => { results := [.lit (.bool false)], args := [d1, d2, d3] }
  | _ => none }
def MlpHiddenWrongFalsely : Prop := mlpHiddenRow.holds Try.pinned (OpenSpec.ofChange mlpHiddenWrong)

/-- 'regattalaw07.MlpShut': WHATEVER THE INPUT: true; the input reads as it did. -/
def mlpShutSpec : ChangeSpec := { name := "mlpShut", fn := fun _ => fun
  | [d1, d2] => { results := [.lit (.bool true)], args := [d1, d2] }
  | _ => none }
def mlpShutRow : OpenClaim := { program := "ytdamenbpgkhiiaa", sum := "d72c8f395229d9c713df84d6f0f0713a47405b3cbbf86e9fee7623bb7e56a8a9", func := "regatta/regattalaw07.MlpShut", spec := "mlpShut", inPlace := ["math/bits.Add64", "math/bits.Sub64"], unfollowed := true, recurses := true, apart := false }
def MlpShutSaid : Prop := mlpShutRow.holds Try.pinned (OpenSpec.ofChange mlpShutSpec)

/-- ITS FALSE NEIGHBOUR: 'it returns false'. Refute it at one input. -/
def mlpShutWrong : ChangeSpec := { name := "mlpShut", fn := fun _ => fun
  | [d1, d2] => { results := [.lit (.bool false)], args := [d1, d2] }
  | _ => none }
def MlpShutWrongFalsely : Prop := mlpShutRow.holds Try.pinned (OpenSpec.ofChange mlpShutWrong)

/-- 'regattalaw07.MlpCounts': WHATEVER THE INPUT: true; the input reads as it did. -/
def mlpCountsSpec : ChangeSpec := { name := "mlpCounts", fn := fun _ => fun
  | [d] => { results := [.lit (.bool true)], args := [d] }
  | _ => none }
def mlpCountsRow : OpenClaim := { program := "ytdamenbpgkhiiaa", sum := "d72c8f395229d9c713df84d6f0f0713a47405b3cbbf86e9fee7623bb7e56a8a9", func := "regatta/regattalaw07.MlpCounts", spec := "mlpCounts", inPlace := ["math/bits.Add64", "math/bits.Sub64"], unfollowed := true, recurses := true, apart := false }
def MlpCountsSaid : Prop := mlpCountsRow.holds Try.pinned (OpenSpec.ofChange mlpCountsSpec)

/-- ITS FALSE NEIGHBOUR: 'it returns false'. Refute it at one input. -/
def mlpCountsWrong : ChangeSpec := { name := "mlpCounts", fn := fun _ => fun
  | [d] => { results := [.lit (.bool false)], args := [d] }
  | _ => none }
def MlpCountsWrongFalsely : Prop := mlpCountsRow.holds Try.pinned (OpenSpec.ofChange mlpCountsWrong)

/-- 'regattalaw07.MlpForward': WHATEVER THE INPUT: true; the input reads as it did. -/
def mlpForwardSpec : ChangeSpec := { name := "mlpForward", fn := fun _ => fun
  | [d1, d2] => { results := [.lit (.bool true)], args := [d1, d2] }
  | _ => none }
def mlpForwardRow : OpenClaim := { program := "ytdamenbpgkhiiaa", sum := "d72c8f395229d9c713df84d6f0f0713a47405b3cbbf86e9fee7623bb7e56a8a9", func := "regatta/regattalaw07.MlpForward", spec := "mlpForward", inPlace := ["math/bits.Add64", "math/bits.Sub64"], unfollowed := true, recurses := true, apart := false }
def MlpForwardSaid : Prop := mlpForwardRow.holds Try.pinned (OpenSpec.ofChange mlpForwardSpec)

/-- ITS FALSE NEIGHBOUR: 'it returns false'. Refute it at one input. -/
def mlpForwardWrong : ChangeSpec := { name := "mlpForward", fn := fun _ => fun
  | [d1, d2] => { results := [.lit (.bool false)], args := [d1, d2] }
  | _ => none }
def MlpForwardWrongFalsely : Prop := mlpForwardRow.holds Try.pinned (OpenSpec.ofChange mlpForwardWrong)

/-- 'regattalaw07.MlpLosses': WHATEVER THE INPUT: true; the input reads as it did. -/
def mlpLossesSpec : ChangeSpec := { name := "mlpLosses", fn := fun _ => fun
  | [d1, d2, d3] => { results := [.lit (.bool true)], args := [d1, d2, d3] }
  | _ => none }
def mlpLossesRow : OpenClaim := { program := "ytdamenbpgkhiiaa", sum := "d72c8f395229d9c713df84d6f0f0713a47405b3cbbf86e9fee7623bb7e56a8a9", func := "regatta/regattalaw07.MlpLosses", spec := "mlpLosses", inPlace := ["math/bits.Add64", "math/bits.Sub64"], unfollowed := true, recurses := true, apart := false }
def MlpLossesSaid : Prop := mlpLossesRow.holds Try.pinned (OpenSpec.ofChange mlpLossesSpec)

/-- ITS FALSE NEIGHBOUR: 'it returns false'. Refute it at one input. -/
def mlpLossesWrong : ChangeSpec := { name := "mlpLosses", fn := fun _ => fun
  | [d1, d2, d3] => { results := [.lit (.bool false)], args := [d1, d2, d3] }
  | _ => none }
def MlpLossesWrongFalsely : Prop := mlpLossesRow.holds Try.pinned (OpenSpec.ofChange mlpLossesWrong)

/- THE SECOND FORM. 'bulk': how many values and letters a reading holds, each counted each time it is reached (what is shared counts as often as it is met; a slice's spare places count too). A statement '..UptoSaid' is the law's where the arguments, and the package variables that the reading takes, are together of bulk at most 1048576: NARROWER than '..Said'. Prove '..Said' where nothing that the law and all that it calls make is longer than what came in: it says more and counts as full. Else prove '..UptoSaid'. A law counts once. -/
mutual
def uptoBulk {H : Type} : DataW H → Nat
  | .lit (.string bytes) => bytes.length + 1
  | .lit _ => 1
  | .nil => 1
  | .ptr d => uptoBulk d + 1
  | .slice elems spare => uptoBulkAll elems + uptoBulkAll spare + 1
  | .agg parts => uptoBulkAll parts + 1
  | .iface _ d => uptoBulk d + 1
  | .map entries => uptoBulkEntries entries + 1
  | .held _ => 1
def uptoBulkAll {H : Type} : List (DataW H) → Nat
  | [] => 0
  | d :: r => uptoBulk d + uptoBulkAll r
def uptoBulkEntries {H : Type} : List (Lit × DataW H) → Nat
  | [] => 0
  | x :: r => uptoBulkEntry x + uptoBulkEntries r
def uptoBulkEntry {H : Type} : Lit × DataW H → Nat
  | (.string bytes, d) => bytes.length + uptoBulk d + 1
  | (_, d) => uptoBulk d + 1
 end
def uptoSmall : (H : Type) → List (DataW H) → Bool := fun _ ds => decide (uptoBulkAll ds ≤ 1048576)
def OpenSpec.upto (s : _root_.Go.ChangeSpec) : _root_.Go.OpenSpec := { _root_.Go.OpenSpec.ofChange s with cond := some uptoSmall }

/-- 'regattalaw22.ConfigChecks', WHERE WHAT IT READS IS OF BULK AT MOST 1048576: true; the input reads as it did. -/
def configChecksUptoRow : OpenClaim := { program := "ytdamenbpgkhiiaa", sum := "d72c8f395229d9c713df84d6f0f0713a47405b3cbbf86e9fee7623bb7e56a8a9", func := "regatta/regattalaw22.ConfigChecks", spec := "configChecks", inPlace := ["math.Float64frombits", "math.Float64bits", "math/bits.Sub64", "math/bits.Add64"], unfollowed := true, recurses := true, apart := false, narrowed := true }
def ConfigChecksUptoSaid : Prop := configChecksUptoRow.holds Try.pinned (OpenSpec.upto configChecksSpec)

/-- 'regattalaw22.ConfigRooms', WHERE WHAT IT READS IS OF BULK AT MOST 1048576: true; the input reads as it did. -/
def configRoomsUptoRow : OpenClaim := { program := "ytdamenbpgkhiiaa", sum := "d72c8f395229d9c713df84d6f0f0713a47405b3cbbf86e9fee7623bb7e56a8a9", func := "regatta/regattalaw22.ConfigRooms", spec := "configRooms", inPlace := ["math.Float64frombits", "math.Float64bits", "math/bits.Sub64", "math/bits.Add64"], unfollowed := true, recurses := true, apart := false, narrowed := true }
def ConfigRoomsUptoSaid : Prop := configRoomsUptoRow.holds Try.pinned (OpenSpec.upto configRoomsSpec)

/-- 'regattalaw22.ConfigNoughts', WHERE WHAT IT READS IS OF BULK AT MOST 1048576: true; the input reads as it did. -/
def configNoughtsUptoRow : OpenClaim := { program := "ytdamenbpgkhiiaa", sum := "d72c8f395229d9c713df84d6f0f0713a47405b3cbbf86e9fee7623bb7e56a8a9", func := "regatta/regattalaw22.ConfigNoughts", spec := "configNoughts", inPlace := ["math.Float64frombits", "math.Float64bits", "math/bits.Sub64", "math/bits.Add64"], unfollowed := true, recurses := true, apart := false, narrowed := true }
def ConfigNoughtsUptoSaid : Prop := configNoughtsUptoRow.holds Try.pinned (OpenSpec.upto configNoughtsSpec)

/-- 'regattalaw07.MlpStill', WHERE WHAT IT READS IS OF BULK AT MOST 1048576: true; the input reads as it did. -/
def mlpStillUptoRow : OpenClaim := { program := "ytdamenbpgkhiiaa", sum := "d72c8f395229d9c713df84d6f0f0713a47405b3cbbf86e9fee7623bb7e56a8a9", func := "regatta/regattalaw07.MlpStill", spec := "mlpStill", inPlace := ["math/bits.Add64", "math/bits.Sub64"], unfollowed := true, recurses := true, apart := false, narrowed := true }
def MlpStillUptoSaid : Prop := mlpStillUptoRow.holds Try.pinned (OpenSpec.upto mlpStillSpec)

/-- 'regattalaw07.MlpHidden', WHERE WHAT IT READS IS OF BULK AT MOST 1048576: true; the input reads as it did. -/
def mlpHiddenUptoRow : OpenClaim := { program := "ytdamenbpgkhiiaa", sum := "d72c8f395229d9c713df84d6f0f0713a47405b3cbbf86e9fee7623bb7e56a8a9", func := "regatta/regattalaw07.MlpHidden", spec := "mlpHidden", inPlace := ["math/bits.Add64", "math/bits.Sub64"], unfollowed := true, recurses := true, apart := false, narrowed := true }
def MlpHiddenUptoSaid : Prop := mlpHiddenUptoRow.holds Try.pinned (OpenSpec.upto mlpHiddenSpec)

/-- 'regattalaw07.MlpShut', WHERE WHAT IT READS IS OF BULK AT MOST 1048576: true; the input reads as it did. -/
def mlpShutUptoRow : OpenClaim := { program := "ytdamenbpgkhiiaa", sum := "d72c8f395229d9c713df84d6f0f0713a47405b3cbbf86e9fee7623bb7e56a8a9", func := "regatta/regattalaw07.MlpShut", spec := "mlpShut", inPlace := ["math/bits.Add64", "math/bits.Sub64"], unfollowed := true, recurses := true, apart := false, narrowed := true }
def MlpShutUptoSaid : Prop := mlpShutUptoRow.holds Try.pinned (OpenSpec.upto mlpShutSpec)

/-- 'regattalaw07.MlpCounts', WHERE WHAT IT READS IS OF BULK AT MOST 1048576: true; the input reads as it did. -/
def mlpCountsUptoRow : OpenClaim := { program := "ytdamenbpgkhiiaa", sum := "d72c8f395229d9c713df84d6f0f0713a47405b3cbbf86e9fee7623bb7e56a8a9", func := "regatta/regattalaw07.MlpCounts", spec := "mlpCounts", inPlace := ["math/bits.Add64", "math/bits.Sub64"], unfollowed := true, recurses := true, apart := false, narrowed := true }
def MlpCountsUptoSaid : Prop := mlpCountsUptoRow.holds Try.pinned (OpenSpec.upto mlpCountsSpec)

/-- 'regattalaw07.MlpForward', WHERE WHAT IT READS IS OF BULK AT MOST 1048576: true; the input reads as it did. -/
def mlpForwardUptoRow : OpenClaim := { program := "ytdamenbpgkhiiaa", sum := "d72c8f395229d9c713df84d6f0f0713a47405b3cbbf86e9fee7623bb7e56a8a9", func := "regatta/regattalaw07.MlpForward", spec := "mlpForward", inPlace := ["math/bits.Add64", "math/bits.Sub64"], unfollowed := true, recurses := true, apart := false, narrowed := true }
def MlpForwardUptoSaid : Prop := mlpForwardUptoRow.holds Try.pinned (OpenSpec.upto mlpForwardSpec)

/-- 'regattalaw07.MlpLosses', WHERE WHAT IT READS IS OF BULK AT MOST 1048576: true; the input reads as it did. -/
def mlpLossesUptoRow : OpenClaim := { program := "ytdamenbpgkhiiaa", sum := "d72c8f395229d9c713df84d6f0f0713a47405b3cbbf86e9fee7623bb7e56a8a9", func := "regatta/regattalaw07.MlpLosses", spec := "mlpLosses", inPlace := ["math/bits.Add64", "math/bits.Sub64"], unfollowed := true, recurses := true, apart := false, narrowed := true }
def MlpLossesUptoSaid : Prop := mlpLossesUptoRow.holds Try.pinned (OpenSpec.upto mlpLossesSpec)

end Rows
end Go.Proofs.Ytdamenbpgkhiiaa
