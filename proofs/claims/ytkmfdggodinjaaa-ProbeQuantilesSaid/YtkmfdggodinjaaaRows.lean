/-
  No cell of these rows narrows 'for every input' (looked for: loops, veiled, ifaces, maps, wideKeys, modest, calm, conditions, laid).
  DERIVED. THE GIVEN ROWS OF THIS SEAT. 5 by the template 'for every input the law returns true; each argument reads behind the call as it read before'; 0 by the template 'total and deterministic' (their statements: YtkmfdggodinjaaaTotals.lean).
  GIVEN WITH THE SEED: the statements are not yours to turn. If you find one false, say at which input.
  Laid BY PROGRAM, IN A SANDBOX (cutbox-rows.mjs): the forced cells as the released guide's own fill.sh prints them over the translation 56c1104c50b8b26b… (all of the seat's roots in one cut). By AI agents, Wed Nov 11 2026. No macro, syntax, notation, axiom, sorry.
-/
import Derived.Test.YtkmfdggodinjaaaChecked
import GoSem.Claim
import GoSem.ClaimJoined
import GoSem.ClaimMapViews
import Derived.JoinedTies
import Derived.KernelRfl
namespace Go.Proofs.Ytkmfdggodinjaaa
/- THE CELL 'sum', in the pinned program and in every row, IS THE sha256 OF THE DUMP (.gsa) THAT YtkmfdggodinjaaaProg.lean LOADS. Nothing in Lean hashes anything: it is a label: what it is worth is what the hold of that sum in a sandbox is worth. -/
noncomputable def Try.pinned : Pinned := { name := "ytkmfdggodinjaaa", sum := "56c1104c50b8b26b284a6a25ac571f794312f7d77c322e00fb444e5ce38bf5a1", checked := Try.checked }
namespace Rows
def none {H : Type} : Left H := { results := [], args := [] }

/-- 'regattalaw29.ProbeHistograms': WHATEVER THE INPUT: true; the input reads as it did. -/
def probeHistogramsSpec : ChangeSpec := { name := "probeHistograms", fn := fun _ => fun
  | [d1, d2] => { results := [.lit (.bool true)], args := [d1, d2] }
  | _ => none }
def probeHistogramsRow : OpenClaim := { program := "ytkmfdggodinjaaa", sum := "56c1104c50b8b26b284a6a25ac571f794312f7d77c322e00fb444e5ce38bf5a1", func := "regatta/regattalaw29.ProbeHistograms", spec := "probeHistograms", inPlace := ["math/bits.Add64", "math/bits.Sub64"], named := ["math/bits.divideError", "math/bits.overflowError"], apart := false }
def ProbeHistogramsSaid : Prop := probeHistogramsRow.holds Try.pinned (OpenSpec.ofChange probeHistogramsSpec)

/-- ITS FALSE NEIGHBOUR: 'it returns false'. Refute it at one input. -/
def probeHistogramsWrong : ChangeSpec := { name := "probeHistograms", fn := fun _ => fun
  | [d1, d2] => { results := [.lit (.bool false)], args := [d1, d2] }
  | _ => none }
def ProbeHistogramsWrongFalsely : Prop := probeHistogramsRow.holds Try.pinned (OpenSpec.ofChange probeHistogramsWrong)

/-- 'regattalaw29.ProbeSpreads': WHATEVER THE INPUT: true; the input reads as it did. -/
def probeSpreadsSpec : ChangeSpec := { name := "probeSpreads", fn := fun _ => fun
  | [d] => { results := [.lit (.bool true)], args := [d] }
  | _ => none }
def probeSpreadsRow : OpenClaim := { program := "ytkmfdggodinjaaa", sum := "56c1104c50b8b26b284a6a25ac571f794312f7d77c322e00fb444e5ce38bf5a1", func := "regatta/regattalaw29.ProbeSpreads", spec := "probeSpreads", inPlace := ["math/bits.Add64", "math/bits.Sub64", "math.Float64bits"], named := ["math/bits.divideError", "math/bits.overflowError"], apart := false }
def ProbeSpreadsSaid : Prop := probeSpreadsRow.holds Try.pinned (OpenSpec.ofChange probeSpreadsSpec)

/-- ITS FALSE NEIGHBOUR: 'it returns false'. Refute it at one input. -/
def probeSpreadsWrong : ChangeSpec := { name := "probeSpreads", fn := fun _ => fun
  | [d] => { results := [.lit (.bool false)], args := [d] }
  | _ => none }
def ProbeSpreadsWrongFalsely : Prop := probeSpreadsRow.holds Try.pinned (OpenSpec.ofChange probeSpreadsWrong)

/-- 'regattalaw29.ProbeQuantiles': WHATEVER THE INPUT: true; the input reads as it did. -/
def probeQuantilesSpec : ChangeSpec := { name := "probeQuantiles", fn := fun _ => fun
  | [d1, d2, d3] => { results := [.lit (.bool true)], args := [d1, d2, d3] }
  | _ => none }
def probeQuantilesRow : OpenClaim := { program := "ytkmfdggodinjaaa", sum := "56c1104c50b8b26b284a6a25ac571f794312f7d77c322e00fb444e5ce38bf5a1", func := "regatta/regattalaw29.ProbeQuantiles", spec := "probeQuantiles", inPlace := ["math/bits.Add64", "math/bits.Sub64"], unfollowed := true, recurses := true, named := ["math/bits.divideError", "math/bits.overflowError"], apart := false }
def ProbeQuantilesSaid : Prop := probeQuantilesRow.holds Try.pinned (OpenSpec.ofChange probeQuantilesSpec)

/-- ITS FALSE NEIGHBOUR: 'it returns false'. Refute it at one input. -/
def probeQuantilesWrong : ChangeSpec := { name := "probeQuantiles", fn := fun _ => fun
  | [d1, d2, d3] => { results := [.lit (.bool false)], args := [d1, d2, d3] }
  | _ => none }
def ProbeQuantilesWrongFalsely : Prop := probeQuantilesRow.holds Try.pinned (OpenSpec.ofChange probeQuantilesWrong)

/-- 'regattalaw29.ProbeOrders': WHATEVER THE INPUT: true; the input reads as it did. -/
def probeOrdersSpec : ChangeSpec := { name := "probeOrders", fn := fun _ => fun
  | [d1, d2, d3] => { results := [.lit (.bool true)], args := [d1, d2, d3] }
  | _ => none }
def probeOrdersRow : OpenClaim := { program := "ytkmfdggodinjaaa", sum := "56c1104c50b8b26b284a6a25ac571f794312f7d77c322e00fb444e5ce38bf5a1", func := "regatta/regattalaw29.ProbeOrders", spec := "probeOrders", inPlace := ["math/bits.Add64", "math/bits.Sub64"], unfollowed := true, recurses := true, named := ["math/bits.divideError", "math/bits.overflowError"], apart := false }
def ProbeOrdersSaid : Prop := probeOrdersRow.holds Try.pinned (OpenSpec.ofChange probeOrdersSpec)

/-- ITS FALSE NEIGHBOUR: 'it returns false'. Refute it at one input. -/
def probeOrdersWrong : ChangeSpec := { name := "probeOrders", fn := fun _ => fun
  | [d1, d2, d3] => { results := [.lit (.bool false)], args := [d1, d2, d3] }
  | _ => none }
def ProbeOrdersWrongFalsely : Prop := probeOrdersRow.holds Try.pinned (OpenSpec.ofChange probeOrdersWrong)

/-- 'regattalaw29.ProbeMeets': WHATEVER THE INPUT: true; the input reads as it did. -/
def probeMeetsSpec : ChangeSpec := { name := "probeMeets", fn := fun _ => fun
  | [d1, d2, d3] => { results := [.lit (.bool true)], args := [d1, d2, d3] }
  | _ => none }
def probeMeetsRow : OpenClaim := { program := "ytkmfdggodinjaaa", sum := "56c1104c50b8b26b284a6a25ac571f794312f7d77c322e00fb444e5ce38bf5a1", func := "regatta/regattalaw29.ProbeMeets", spec := "probeMeets", inPlace := ["math/bits.Add64", "math/bits.Sub64"], unfollowed := true, recurses := true, named := ["math/bits.divideError", "math/bits.overflowError"], apart := false }
def ProbeMeetsSaid : Prop := probeMeetsRow.holds Try.pinned (OpenSpec.ofChange probeMeetsSpec)

/-- ITS FALSE NEIGHBOUR: 'it returns false'. Refute it at one input. -/
def probeMeetsWrong : ChangeSpec := { name := "probeMeets", fn := fun _ => fun
  | [d1, d2, d3] => { results := [.lit (.bool false)], args := [d1, d2, d3] }
  | _ => none }
def ProbeMeetsWrongFalsely : Prop := probeMeetsRow.holds Try.pinned (OpenSpec.ofChange probeMeetsWrong)

/- THE SECOND FORM. 'bulk': how many values and letters a reading holds, each counted each time it is reached (what is shared counts as often as it is met; a slice's spare places count too). A statement '..UptoSaid' is the law's where the arguments, and the package variables that the reading takes, are together of bulk at most 1048576: NARROWER than '..Said'. Prove '..Said' where nothing that the law and all that it calls make is longer than what came in: it says more and counts as full. Else prove '..UptoSaid'. A law counts once. -/
mutual
def uptoBulk {H : Type} : DataW H → Nat
  | .lit (.string bytes) => bytes.length + 1
  | .lit _ => 1
  | .nil => 1
  | .ptr d => uptoBulk d + 1
  | .slice elems spare => uptoBulkAll elems + uptoBulkAll spare + 1
  | .agg parts => uptoBulkAll parts + 1
  | .iface _ d => uptoBulk d + 1
  | .map entries => uptoBulkEntries entries + 1
  | .held _ => 1
def uptoBulkAll {H : Type} : List (DataW H) → Nat
  | [] => 0
  | d :: r => uptoBulk d + uptoBulkAll r
def uptoBulkEntries {H : Type} : List (Lit × DataW H) → Nat
  | [] => 0
  | x :: r => uptoBulkEntry x + uptoBulkEntries r
def uptoBulkEntry {H : Type} : Lit × DataW H → Nat
  | (.string bytes, d) => bytes.length + uptoBulk d + 1
  | (_, d) => uptoBulk d + 1
 end
def uptoSmall : (H : Type) → List (DataW H) → Bool := fun _ ds => decide (uptoBulkAll ds ≤ 1048576)
def OpenSpec.upto (s : _root_.Go.ChangeSpec) : _root_.Go.OpenSpec := { _root_.Go.OpenSpec.ofChange s with cond := some uptoSmall }

/-- 'regattalaw29.ProbeHistograms', WHERE WHAT IT READS IS OF BULK AT MOST 1048576: true; the input reads as it did. -/
def probeHistogramsUptoRow : OpenClaim := { program := "ytkmfdggodinjaaa", sum := "56c1104c50b8b26b284a6a25ac571f794312f7d77c322e00fb444e5ce38bf5a1", func := "regatta/regattalaw29.ProbeHistograms", spec := "probeHistograms", inPlace := ["math/bits.Add64", "math/bits.Sub64"], named := ["math/bits.divideError", "math/bits.overflowError"], apart := false, narrowed := true }
def ProbeHistogramsUptoSaid : Prop := probeHistogramsUptoRow.holds Try.pinned (OpenSpec.upto probeHistogramsSpec)

/-- 'regattalaw29.ProbeSpreads', WHERE WHAT IT READS IS OF BULK AT MOST 1048576: true; the input reads as it did. -/
def probeSpreadsUptoRow : OpenClaim := { program := "ytkmfdggodinjaaa", sum := "56c1104c50b8b26b284a6a25ac571f794312f7d77c322e00fb444e5ce38bf5a1", func := "regatta/regattalaw29.ProbeSpreads", spec := "probeSpreads", inPlace := ["math/bits.Add64", "math/bits.Sub64", "math.Float64bits"], named := ["math/bits.divideError", "math/bits.overflowError"], apart := false, narrowed := true }
def ProbeSpreadsUptoSaid : Prop := probeSpreadsUptoRow.holds Try.pinned (OpenSpec.upto probeSpreadsSpec)

/-- 'regattalaw29.ProbeQuantiles', WHERE WHAT IT READS IS OF BULK AT MOST 1048576: true; the input reads as it did. -/
def probeQuantilesUptoRow : OpenClaim := { program := "ytkmfdggodinjaaa", sum := "56c1104c50b8b26b284a6a25ac571f794312f7d77c322e00fb444e5ce38bf5a1", func := "regatta/regattalaw29.ProbeQuantiles", spec := "probeQuantiles", inPlace := ["math/bits.Add64", "math/bits.Sub64"], unfollowed := true, recurses := true, named := ["math/bits.divideError", "math/bits.overflowError"], apart := false, narrowed := true }
def ProbeQuantilesUptoSaid : Prop := probeQuantilesUptoRow.holds Try.pinned (OpenSpec.upto probeQuantilesSpec)

/-- 'regattalaw29.ProbeOrders', WHERE WHAT IT READS IS OF BULK AT MOST 1048576: true; the input reads as it did. -/
def probeOrdersUptoRow : OpenClaim := { program := "ytkmfdggodinjaaa", sum := "56c1104c50b8b26b284a6a25ac571f794312f7d77c322e00fb444e5ce38bf5a1", func := "regatta/regattalaw29.ProbeOrders", spec := "probeOrders", inPlace := ["math/bits.Add64", "math/bits.Sub64"], unfollowed := true, recurses := true, named := ["math/bits.divideError", "math/bits.overflowError"], apart := false, narrowed := true }
def ProbeOrdersUptoSaid : Prop := probeOrdersUptoRow.holds Try.pinned (OpenSpec.upto probeOrdersSpec)

/-- 'regattalaw29.ProbeMeets', WHERE WHAT IT READS IS OF BULK AT MOST 1048576: true; the input reads as it did. -/
def probeMeetsUptoRow : OpenClaim := { program := "ytkmfdggodinjaaa", sum := "56c1104c50b8b26b284a6a25ac571f794312f7d77c322e00fb444e5ce38bf5a1", func := "regatta/regattalaw29.ProbeMeets", spec := "probeMeets", inPlace := ["math/bits.Add64", "math/bits.Sub64"], unfollowed := true, recurses := true, named := ["math/bits.divideError", "math/bits.overflowError"], apart := false, narrowed := true }
def ProbeMeetsUptoSaid : Prop := probeMeetsUptoRow.holds Try.pinned (OpenSpec.upto probeMeetsSpec)

end Rows
end Go.Proofs.Ytkmfdggodinjaaa
