/-
  Layer mlp: the gradient, as a plain law; what a loop that writes one row's cell leaves.
-/
import Derived.Test.YtkmfdggodinjaaaMlpG
namespace Go.Proofs.Ytkmfdggodinjaaa
open Go.RowKit
set_option linter.unusedVariables false
set_option linter.unusedSimpArgs false

theorem of_sq (w : World) : Calls Try.prog 102 #[.int .i64 1] w fun e w' => e = .returned (.tuple #[.iface 185 (.agg #[]), .bool true]) ∧ w = w' := by
  go_enter Try.func102, Try.ntmps102
  go_wp2
  go_ret2
  exact ⟨rfl, rfl⟩

theorem uMul_nil (x y : Int) (w : World) (hx : I64 x) (hy : I64 y) :
    Calls Try.prog 150 #[.pointer none, .int .i64 x, .int .i64 y] w fun e w' => e = .returned (.int .i64 (near32 (x * y))) ∧ Below w.heap.size w w' :=
  (uMul_u none 0 x y w (Un.none _ _) hx hy).mono fun e w' h => ⟨h.1, h.2.1.below (Nat.le_refl _) (fun k hk => by cases hk)⟩

/-! ### the gradient -/
def prods (s v : List Int) : List Int := s.flatMap fun a => v.map fun b => near32 (a * b)
/-- The slope behind layer m - 1 - k. -/
def slv (s p x t : List Int) (m : Nat) : Nat → List Int
  | 0 => subs (val s p x m) t (szN s m)
  | k + 1 => backs (slv s p x t m k) (lA s p (m - 1 - k)) (szN s (m - 1 - k + 1)) (szN s (m - 1 - k)) (val s p x (m - 1 - k)) (szN s (m - 1 - k))
def partS (s p x t : List Int) (m j : Nat) : List Int := prods (slv s p x t m (m - 1 - j)) (val s p x j) ++ slv s p x t m (m - 1 - j)
def gradS (s p x t : List Int) (m : Nat) : List Int := (List.range m).flatMap (partS s p x t m)
/-- The parts, of which the last k are made. -/
def plS (s p x t : List Int) (m k : Nat) : List (List Int) := (List.range m).map fun j => if j + k < m then [] else partS s p x t m j

theorem slv_len (s p x t : List Int) (m : Nat) : ∀ k, k ≤ m → (slv s p x t m k).length = szN s (m - k)
  | 0, _ => by simp [slv, subs]
  | k + 1, h => by
    simp only [slv, backs, List.length_map, List.length_range]
    rw [show m - 1 - k = m - (k + 1) by omega]
theorem A64_backs (sl A : List Int) (R C : Nat) (v : List Int) (k : Nat) : A64 (backs sl A R C v k) := fun i => by
  unfold backs
  rw [List.getElem?_map]
  cases (List.range k)[i]? with
  | none => unfold I64; simp
  | some z =>
    simp only [Option.map_some, Option.getD_some, backO]
    split
    · unfold I64; omega
    · exact clampI_I64 _
theorem A64_slv (s p x t : List Int) (m : Nat) : ∀ k, A64 (slv s p x t m k)
  | 0 => A64_subs _ _ _
  | k + 1 => A64_backs _ _ _ _ _ _
theorem prods_len (s v : List Int) : (prods s v).length = s.length * v.length := by
  induction s with
  | nil => simp [prods]
  | cons a s ih =>
    have : prods (a :: s) v = (v.map fun b => near32 (a * b)) ++ prods s v := rfl
    rw [this, List.length_append, ih, List.length_map, List.length_cons, Nat.add_mul]; omega
theorem prods_step (s v : List Int) (o : Nat) (h : o < s.length) : prods (s.take (o + 1)) v = prods (s.take o) v ++ v.map (fun b => near32 (s[o]?.getD 0 * b)) := by
  unfold prods
  rw [List.take_succ_eq_append_getElem h, List.flatMap_append, List.getElem?_eq_getElem h]
  simp
theorem map_step (f : Int → Int) (v : List Int) (a : Nat) (h : a < v.length) : (v.take (a + 1)).map f = (v.take a).map f ++ [f (v[a]?.getD 0)] := by
  rw [List.take_succ_eq_append_getElem h, List.map_append, List.getElem?_eq_getElem h]
  simp
theorem plS_set (s p x t : List Int) (m k : Nat) (hk : k < m) : plS s p x t m (k + 1) = (plS s p x t m k).set (m - 1 - k) (partS s p x t m (m - 1 - k)) := by
  apply List.ext_getElem (by simp [plS])
  intro i h1 h2
  simp only [plS, List.getElem_map, List.getElem_range, List.getElem_set]
  have hi : i < m := by simpa [plS] using h1
  by_cases e : m - 1 - k = i
  · rw [if_pos e, if_neg (by omega), e]
  · rw [if_neg e]
    by_cases e2 : i + k < m
    · rw [if_pos e2, if_pos (by omega)]
    · rw [if_neg e2, if_neg (by omega)]

/-! ### one row's cell is written -/
theorem ownsRow_chgP {w w' : World} {B B' P m c n : Nat} {E E' : TypeId} {v : Value} {xs ys : List Value} (h : w.ownsRow B E 1 v n xs) (hP : w.ownsRow B' E' 1 (.slice (some ⟨P, 0, none⟩) m c) m ys) (hne : E ≠ E') (hc : Chg (fun k => k = P) w w') : w'.ownsRow B E 1 v n xs := by
  have hn := own_ne h hP hne
  refine ⟨h.1, ?_⟩
  rcases h.2 with hn' | ⟨g, cap, cur, rfl, hb, hgg, rest⟩
  · exact .inl hn'
  · refine .inr ⟨g, cap, cur, rfl, hb, (hc.block g (lt_of_block hgg) (fun e => ?_)).trans hgg, rest⟩
    subst e
    simp [Value.ownBlock] at hn
theorem OwS.chgP {w w' : World} {B B' P m c : Nat} {E E' : TypeId} {k : IntKind} {xs ys : List Value} {ll : List (List Int)} (h : OwS w B E k xs ll) (hP : w.ownsRow B' E' 1 (.slice (some ⟨P, 0, none⟩) m c) m ys) (hne : E ≠ E') (hc : Chg (fun k => k = P) w w') : OwS w' B E k xs ll :=
  ⟨h.1, fun i hi => ownsRow_chgP (h.2 i hi) hP hne hc⟩
theorem OwS.set {w : World} {B : Nat} {E : TypeId} {k : IntKind} {xs : List Value} {ll : List (List Int)} (h : OwS w B E k xs ll) {i : Nat} {v : Value} {l : List Int} (hv : Ow w B E k v l) : OwS w B E k (xs.set i v) (ll.set i l) := by
  refine ⟨by simp [h.1], fun j hj => ?_⟩
  simp at hj
  by_cases e : i = j
  · subst e
    rw [List.getElem?_set_self (by rw [h.1]; exact hj), List.getElem?_set_self hj]
    exact hv
  · rw [List.getElem?_set_ne e, List.getElem?_set_ne e]
    exact h.2 j hj
theorem set_self {xs : List Value} {i : Nat} {v : Value} (h : xs[i]? = some v) : xs.set i v = xs := by
  apply List.ext_getElem? 
  intro j
  by_cases e : i = j
  · subst e
    have := (List.getElem?_eq_some_iff.1 h).1
    rw [List.getElem?_set_self this, h]
  · rw [List.getElem?_set_ne e]
end Go.Proofs.Ytkmfdggodinjaaa
