/-
  Layer mlp: the gradient: the walk.
-/
import Derived.Test.YtkmfdggodinjaaaMlpH
namespace Go.Proofs.Ytkmfdggodinjaaa
open Go.RowKit
set_option linter.unusedVariables false
set_option linter.unusedSimpArgs false

theorem upon_of {P : Program} {o : Oper} {a : Act} {next : Act → World → Prop} {Q : Exit → Act → World → Prop} {r : Result Next} {w' : World} {f : FuncId} {args : Array Value} (hr : r = .ok (.enter f args) w')
    (h : Calls P f args w' fun
      | .returned v, w'' => next (a.put o.dst v) w''
      | .panicked chain, w'' => Q (.panic chain) a w''
      | .outgrown, _ => LetsOut Q) : Oper.upon P o a next Q r := by
  rw [hr, Oper.upon_enter]
  exact h
theorem eFss1 : ∃ i0, Try.prog.info? 22 = some i0 ∧ i0.zero = some (.slice none 0 0) ∧ i0.size = 1 ∧ i0.bytes = 24 := info_parts eFss.inf
theorem made_nil : ∀ m, m ≤ 5 → (madeCells #[Value.slice none 0 0] m).toList = List.replicate m (.slice none 0 0)
  | 0, _ => by kernel_rfl
  | 1, _ => by kernel_rfl
  | 2, _ => by kernel_rfl
  | 3, _ => by kernel_rfl
  | 4, _ => by kernel_rfl
  | 5, _ => by kernel_rfl
  | m + 6, h => absurd h (by omega)

/-- A row of another type beside one that grows. -/
theorem kept_two {w W w6 : World} {B B' : Nat} {E E' : TypeId} {vP v : Value} {nP n : Nat} {xs ys : List Value} (hP : w.ownsRow B E 1 vP nP xs) (hv : w.ownsRow B' E' 1 v n ys) (hne : E ≠ E') (hb : Below w.heap.size w W) (hg : W.grownBy w6 v.ownBlock) : w6.ownsRow B E 1 vP nP xs :=
  World.ownsRow.kept (ownsRow_kept hP hb) hg (own_ne hP hv hne)
theorem chg_two {S : Nat → Prop} {a w W w6 : World} {B' : Nat} {E' : TypeId} {v : Value} {n : Nat} {ys : List Value} (h : Chg S a w) (hv : w.ownsRow B' E' 1 v n ys) (hB : a.heap.size ≤ B') (hb : Below w.heap.size w W) (hg : W.grownBy w6 v.ownBlock) : Chg S a w6 :=
  Chg.grownOf (h.then_below hb h.size) (ownsRow_kept hv hb) hg hB
/-- One of many owned slices, as it is read. -/
theorem OwS.rd {w : World} {B : Nat} {E : TypeId} {xs : List Value} {ll : List (List Int)} (h : OwS w B E .i64 xs ll) {i n : Nat} (hi : i < ll.length) (hn : (ll[i]?.getD []).length = n) (hm : n ≤ 140737488351232) :
    ∃ a c, xs[i]? = some (.slice a n c) ∧ Rd w .i64 a n (ll[i]?.getD []) ∧ (∀ y, a = some y → B ≤ y.block ∧ y.block < w.heap.size) := by
  have hov := h.2 i hi
  obtain ⟨a, c, hx, _, ha⟩ := ownsRow_form hov
  have h3 : i < xs.length := by rw [h.1]; exact hi
  subst hn
  refine ⟨a, c, ?_, ?_, fun y hy => ⟨(ha y hy).1, (ha y hy).2.1⟩⟩
  · rw [List.getElem?_eq_getElem h3] at hx ⊢
    simpa using hx
  · rw [hx] at hov
    exact Ow.rd (a := a) (c := c) hov hm
end Go.Proofs.Ytkmfdggodinjaaa
