/-
  Worlds, step by step backwards: tactics for a cell that is as it was, and for old blocks that are.
-/
import Derived.Test.YtkmfdggodinjaaaBase
import Derived.Deep.RegionHeld3
import Derived.Deep.DeepCutAuto
import Derived.Deep.CutBlock
import Derived.StillTailTactics
namespace Go.Proofs.Ytkmfdggodinjaaa
open Go.RowKit
set_option linter.unusedVariables false
set_option linter.unusedSimpArgs false

theorem alloc_swap {w : World} {o o' : Obj} {b i : Nat} (h : b < w.heap.size) : (w.alloc o).cell? ⟨b, i, none⟩ = (w.alloc o').cell? ⟨b, i, none⟩ := by
  rw [World.cell?_alloc_past _ _ _ h, World.cell?_alloc_past _ _ _ h]

end Go.Proofs.Ytkmfdggodinjaaa
