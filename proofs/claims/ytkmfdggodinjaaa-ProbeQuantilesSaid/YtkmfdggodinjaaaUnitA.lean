/-
  Layer fix: the unit's counter: taking a result, counting.
-/
import Derived.Test.YtkmfdggodinjaaaFixA
namespace Go.Proofs.Ytkmfdggodinjaaa
open Go.RowKit
set_option linter.unusedVariables false
set_option linter.unusedSimpArgs false
set_option maxRecDepth 8000

/-- A unit in memory that has counted n. -/
structure UAt (w : World) (b : Nat) (n : Int) : Prop where
  cell : w.cell? ⟨b, 0, none⟩ = some (.int .i64 n)
  frozen : w.frozen? ⟨b, 0, none⟩ = false

/-- What a unit has counted behind one result more. -/
def upC (n : Int) (over : Bool) : Int := if over then wrap64 (n + 1) else n

theorem UAt.lt {w : World} {b : Nat} {n : Int} (h : UAt w b n) : b < w.heap.size := World.block_lt_of_cell? _ _ h.cell
theorem UAt.kept {w w' : World} {b : Nat} {n : Int} (h : UAt w b n) (hb : Below w.heap.size w w') : UAt w' b n :=
  ⟨(hb.cell (p := ⟨b, 0, none⟩) h.lt).trans h.cell, (hb.frozen (p := ⟨b, 0, none⟩) h.lt).trans h.frozen⟩

set_option maxRecDepth 100000 in
set_option maxHeartbeats 800000 in
theorem Take_nil (x : Int) (o : Bool) (w : World) :
    Calls Try.prog 59 #[.pointer none, .int .i64 x, .bool o] w fun e w' => e = .returned (.int .i64 x) ∧ w = w' := by
  go_enter Try.func59, Try.ntmps59
  go_wp2
  go_ret
  exact ⟨rfl, rfl⟩

set_option maxRecDepth 100000 in
set_option maxHeartbeats 800000 in
theorem Take_any (b : Nat) (n x : Int) (o : Bool) (w : World) (h : UAt w b n) :
    Calls Try.prog 59 #[.pointer (some ⟨b, 0, none⟩), .int .i64 x, .bool o] w fun e w' => e = .returned (.int .i64 x) ∧ Chg (fun k => k = b) w w' ∧ UAt w' b (upC n o) := by
  obtain ⟨hc, hf⟩ := h
  cases o with
  | false =>
    go_enter Try.func59, Try.ntmps59
    go_wp2
    go_ret
    exact ⟨rfl, Chg.refl _ _, ⟨hc, hf⟩⟩
  | true =>
    go_enter Try.func59, Try.ntmps59
    go_wp2
    go_ret
    refine ⟨rfl, ⟨rfl, rfl, rfl, by simp, fun k hk hs => Below.heap_setCell _ _ _ _ hs⟩, ⟨?_, ?_⟩⟩
    · exact World.cell?_setCell_same' _ _ _ (by rw [hc]; rfl)
    · simp [hf]

set_option maxRecDepth 100000 in
set_option maxHeartbeats 800000 in
theorem tCount_any (b : Nat) (n : Int) (w : World) (h : UAt w b n) :
    Calls Try.prog 75 #[.pointer (some ⟨b, 0, none⟩)] w fun e w' => e = .returned (.int .i64 n) ∧ w = w' := by
  obtain ⟨hc, hf⟩ := h
  go_enter Try.func75, Try.ntmps75
  go_wp2
  go_ret
  exact ⟨rfl, rfl⟩

set_option maxRecDepth 100000 in
set_option maxHeartbeats 800000 in
theorem Count_any (b : Nat) (n : Int) (w : World) (h : UAt w b n) :
    Calls Try.prog 46 #[.pointer (some ⟨b, 0, none⟩)] w fun e w' => e = .returned (.int .i64 n) ∧ w = w' := by
  have HT := Lib.hid (tCount_any b n w h)
  clear h
  go_enter Try.func46, Try.ntmps46
  go_wp2_with fail
  ((with_reducible refine (HT.out).mono ?_); rintro e w1 ⟨rfl, rfl⟩)
  go_wp2
  go_ret
  exact ⟨rfl, rfl⟩
end Go.Proofs.Ytkmfdggodinjaaa
