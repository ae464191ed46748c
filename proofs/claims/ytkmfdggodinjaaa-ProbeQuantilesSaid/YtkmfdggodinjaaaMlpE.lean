/-
  Layer mlp: the values of a net at an input.
-/
import Derived.Test.YtkmfdggodinjaaaMlpD
namespace Go.Proofs.Ytkmfdggodinjaaa
open Go.RowKit
set_option linter.unusedVariables false
set_option linter.unusedSimpArgs false

theorem eFss : Elem Try.prog 53 22 1 24 (.slice none 0 0) := ⟨Try.underlying53, by kernel_rfl, rfl, by omega⟩

/-! ### what a net comes to -/
def relu1 (x : Int) : Int := if x < 0 then 0 else x
def relu (l : List Int) : List Int := l.map relu1
/-- A layer's matrix, and its offsets. -/
def lA (s p : List Int) (i : Nat) : List Int := (p.take (fst s i + szN s (i + 1) * szN s i)).drop (fst s i)
def lB (s p : List Int) (i : Nat) : List Int := (p.take (fst s i + szN s (i + 1) * szN s i + szN s (i + 1))).drop (fst s i + szN s (i + 1) * szN s i)
/-- The values layer by layer; the sums ahead of them. -/
def val (s p x : List Int) : Nat → List Int
  | 0 => x
  | i + 1 => if i + 2 < s.length then relu ((sumsO (szN s i) (lA s p i) (lB s p i) (val s p x i) (szN s (i + 1))).map near32) else (sumsO (szN s i) (lA s p i) (lB s p i) (val s p x i) (szN s (i + 1))).map near32
def vsum (s p x : List Int) (i : Nat) : List Int := sumsO (szN s i) (lA s p i) (lB s p i) (val s p x i) (szN s (i + 1))
def cntV (n : Int) (s p x : List Int) : Nat → Int
  | 0 => n
  | k + 1 => cntL (cntV n s p x k) (vsum s p x k)
def vals (s p x : List Int) (k : Nat) : List (List Int) := (List.range k).map (val s p x)
theorem vals_succ (s p x : List Int) (k : Nat) : vals s p x (k + 1) = vals s p x k ++ [val s p x k] := by simp [vals, List.range_succ]
theorem val_len {s p x : List Int} (hx : x.length = szN s 0) : ∀ i, (val s p x i).length = szN s i
  | 0 => hx
  | i + 1 => by simp only [val]; split <;> simp [relu, sumsO]

theorem A64_near (l : List Int) : A64 (l.map near32) := fun i => by
  rw [List.getElem?_map]
  cases l[i]? with
  | none => unfold I64; simp
  | some v => exact clampI_I64 _
theorem A64_relu {l : List Int} (h : A64 l) : A64 (relu l) := fun i => by
  have := h i
  unfold relu
  rw [List.getElem?_map]
  cases e : l[i]? with
  | none => unfold I64; simp
  | some v => rw [e] at this; simp only [Option.map_some, Option.getD_some] at *; unfold relu1; split <;> (unfold I64 at *; omega)
theorem A64_sub {l : List Int} (h : A64 l) (i j : Nat) : A64 ((l.take j).drop i) := fun k => by
  rw [List.getElem?_drop, List.getElem?_take]
  split
  · exact h _
  · unfold I64; simp
theorem A64_val {s p x : List Int} (hx : A64 x) : ∀ i, A64 (val s p x i)
  | 0 => hx
  | i + 1 => by simp only [val]; split; exact A64_relu (A64_near _); exact A64_near _

/-- Layers' cells in memory, at block g; their parameters at block b from o on. -/
def LaysAt (w : World) (g b o : Nat) (s : List Int) (m : Nat) : Prop := ∀ i, i < m → ∀ t, t < 4 → w.cell? ⟨g, i * 4 + t, none⟩ = (layC b o s i)[t]?
theorem LaysAt.chg {S : Nat → Prop} {w w' : World} {g b o m : Nat} {s : List Int} (h : LaysAt w g b o s m) (hc : Chg S w w') (hg : g < w.heap.size) (hS : ¬ S g) : LaysAt w' g b o s m :=
  fun i hi t ht => (hc.cell hg hS).trans (h i hi t ht)

theorem ownsRow_set {w : World} {B : Nat} {E : TypeId} {g n c : Nat} {xs : List Value} (h : w.ownsRow B E 1 (.slice (some ⟨g, 0, none⟩) n c) n xs) {i : Nat} (hi : i < n) (u : Value) :
    (w.setCell ⟨g, i, none⟩ u).ownsRow B E 1 (.slice (some ⟨g, 0, none⟩) n c) n (xs.set i u) := by
  rcases h.2 with ⟨e, _⟩ | ⟨g', cap, cur, e, hb, hgg, hc, hm, hs, htk⟩
  · cases e
  · simp only [Value.slice.injEq, Option.some.injEq, Addr.mk.injEq, true_and] at e
    obtain ⟨⟨rfl, _⟩, rfl⟩ := e
    refine ⟨by simpa using h.1, .inr ⟨g, c, _, rfl, hb, Go.heap_setCell_same w g i cur E u hgg, hc, hm, by simpa using hs, ?_⟩⟩
    rw [← htk, Array.toList_setIfInBounds, List.take_set]

/-- The first k numbers bent. -/
theorem relu_step (l : List Int) (k : Nat) (hk : k < l.length) : (relu (l.take k) ++ l.drop k).set k (relu1 (l[k]?.getD 0)) = relu (l.take (k + 1)) ++ l.drop (k + 1) := by
  have h1 : (relu (l.take k)).length = k := by simp [relu]; omega
  rw [List.set_append_right _ _ (by omega), h1, Nat.sub_self, List.drop_eq_getElem_cons hk, List.set_cons_zero, List.take_succ_eq_append_getElem hk]
  simp only [relu, List.map_append, List.map_cons, List.map_nil, List.append_assoc, List.cons_append, List.nil_append, List.getElem?_eq_getElem hk, Option.getD_some]
theorem relu_at (l : List Int) (k : Nat) (hk : k < l.length) : (relu (l.take k) ++ l.drop k)[k]? = some (l[k]?.getD 0) := by
  have h1 : (relu (l.take k)).length = k := by simp [relu]; omega
  rw [List.getElem?_append_right (by omega), h1, Nat.sub_self]
  simp [List.getElem?_eq_getElem hk]
theorem set_map (l : List Int) (k : Nat) (z : Int) : (l.map (Value.int .i64)).set k (.int .i64 z) = (l.set k z).map (Value.int .i64) := by rw [List.map_set]
end Go.Proofs.Ytkmfdggodinjaaa
