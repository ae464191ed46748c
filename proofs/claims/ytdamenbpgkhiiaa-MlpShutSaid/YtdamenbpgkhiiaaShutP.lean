/-
  A hidden output that is shut gets no gradient: the plain law.
-/
import Derived.Test.YtdamenbpgkhiiaaLawC
namespace Go.Proofs.Ytdamenbpgkhiiaa
open Go.RowKit
set_option linter.unusedVariables false
set_option linter.unusedSimpArgs false

theorem prods_get (v : List Int) (k : Nat) (hk : k < v.length) : ∀ (s : List Int) (i : Nat), i < s.length → (prods s v)[i * v.length + k]?.getD 0 = near32 (s[i]?.getD 0 * v[k]?.getD 0)
  | [], i, h => absurd h (by simp)
  | a :: s, 0, _ => by
    have e : prods (a :: s) v = (v.map fun b => near32 (a * b)) ++ prods s v := rfl
    rw [e, Nat.zero_mul, Nat.zero_add, List.getElem?_append_left (by simpa using hk)]
    simp [List.getElem?_eq_getElem hk]
  | a :: s, i + 1, h => by
    have e : prods (a :: s) v = (v.map fun b => near32 (a * b)) ++ prods s v := rfl
    rw [e, List.getElem?_append_right (by rw [List.length_map, Nat.add_mul]; omega), List.length_map, show (i + 1) * v.length + k - v.length = i * v.length + k by rw [Nat.add_mul]; omega]
    rw [prods_get v k hk s i (by simpa using h)]
    rfl
theorem mul_lt_of {i n k m : Nat} (h : i < n) (hk : k < m) : i * m + k < n * m := by
  have := Nat.mul_le_mul_right m (show i + 1 ≤ n by omega)
  rw [Nat.add_mul] at this
  omega
theorem getD_app_l {a b : List Int} {i : Nat} (h : i < a.length) : (a ++ b)[i]?.getD 0 = a[i]?.getD 0 := by rw [List.getElem?_append_left h]
theorem getD_app_r {a b : List Int} {i j : Nat} (h : i = a.length + j) : (a ++ b)[i]?.getD 0 = b[j]?.getD 0 := by subst h; rw [List.getElem?_append_right (by omega), Nat.add_sub_cancel_left]

theorem gradS_two (s p x t : List Int) : gradS s p x t 2 = partS s p x t 2 0 ++ partS s p x t 2 1 := by
  simp [gradS, List.range_succ, List.flatMap_append]

theorem slv1_zero {s p x t : List Int} {i : Nat} (hi : i < szN s 1) (hz : (val s p x 1)[i]?.getD 0 = 0) : (slv s p x t 2 1)[i]?.getD 0 = 0 := by
  show (backs (slv s p x t 2 0) (lA s p 1) (szN s 2) (szN s 1) (val s p x 1) (szN s 1))[i]?.getD 0 = 0
  unfold backs
  rw [List.getElem?_map, List.getElem?_range hi]
  simp only [Option.map_some, Option.getD_some, backO]
  rw [if_pos (by omega)]
section
variable {s p x t : List Int} (hx : x.length = szN s 0) {i : Nat} (hi : i < szN s 1) (hz : (val s p x 1)[i]?.getD 0 = 0)
include hx hi hz
theorem shut_1 {k : Nat} (hk : k < szN s 0) : (gradS s p x t 2)[i * szN s 0 + k]?.getD 0 = 0 := by
  have h1 : (slv s p x t 2 1).length = szN s 1 := slv_len s p x t 2 1 (by omega)
  have h2 := mul_lt_of hi hk
  rw [gradS_two, getD_app_l (by unfold partS; rw [List.length_append, prods_len, h1]; show _ < szN s 1 * (val s p x 0).length + _; rw [val_len hx]; omega)]
  unfold partS
  show (prods (slv s p x t 2 1) x ++ slv s p x t 2 1)[i * szN s 0 + k]?.getD 0 = 0
  rw [getD_app_l (by rw [prods_len, h1, hx]; exact h2)]
  have := prods_get x k (by rw [hx]; exact hk) (slv s p x t 2 1) i (by rw [h1]; exact hi)
  rw [hx] at this
  rw [this, slv1_zero hi hz, Int.zero_mul]
  exact near_zero
theorem shut_3 : (gradS s p x t 2)[szN s 0 * szN s 1 + i]?.getD 0 = 0 := by
  have h1 : (slv s p x t 2 1).length = szN s 1 := slv_len s p x t 2 1 (by omega)
  rw [gradS_two, getD_app_l (by unfold partS; rw [List.length_append, prods_len, h1]; show _ < szN s 1 * (val s p x 0).length + _; rw [val_len hx, Nat.mul_comm]; omega)]
  unfold partS
  show (prods (slv s p x t 2 1) x ++ slv s p x t 2 1)[szN s 0 * szN s 1 + i]?.getD 0 = 0
  rw [getD_app_r (j := i) (by rw [prods_len, h1, hx, Nat.mul_comm])]
  exact slv1_zero hi hz
theorem shut_2 {o : Nat} (ho : o < szN s 2) : (gradS s p x t 2)[szN s 0 * szN s 1 + szN s 1 + o * szN s 1 + i]?.getD 0 = 0 := by
  have h1 : (slv s p x t 2 1).length = szN s 1 := slv_len s p x t 2 1 (by omega)
  have h0 : (slv s p x t 2 0).length = szN s 2 := slv_len s p x t 2 0 (by omega)
  have hv := val_len (s := s) (p := p) (x := x) hx 1
  have h2 := mul_lt_of ho hi
  rw [gradS_two, getD_app_r (j := o * szN s 1 + i) (by
    unfold partS
    rw [List.length_append, prods_len]
    show _ = (slv s p x t 2 1).length * (val s p x 0).length + (slv s p x t 2 1).length + _
    rw [val_len hx, h1, Nat.mul_comm]; omega)]
  unfold partS
  show (prods (slv s p x t 2 0) (val s p x 1) ++ slv s p x t 2 0)[o * szN s 1 + i]?.getD 0 = 0
  rw [getD_app_l (by rw [prods_len, h0, hv]; exact h2)]
  have := prods_get (val s p x 1) i (by rw [hv]; exact hi) (slv s p x t 2 0) o (by rw [h0]; exact ho)
  rw [hv] at this
  rw [this, hz, Int.mul_zero]
  exact near_zero
end
end Go.Proofs.Ytdamenbpgkhiiaa
