/-
  Two hidden outputs that change places: the plain law.
-/
import Derived.Test.YtdamenbpgkhiiaaLawC
namespace Go.Proofs.Ytdamenbpgkhiiaa
open Go.RowKit
set_option linter.unusedVariables false
set_option linter.unusedSimpArgs false

def tau (i j o : Nat) : Nat := if o = i then j else if o = j then i else o
theorem tau_lt {i j o n : Nat} (hi : i < n) (hj : j < n) (ho : o < n) : tau i j o < n := by unfold tau; split <;> (try split) <;> omega
def dsum (f : Nat → Int) : Nat → Int
  | 0 => 0
  | k + 1 => dsum f k + f k
theorem dotS_sum (a x : List Int) (off : Nat) : ∀ n, dotS a x off n = dsum (fun k => a[off + k]?.getD 0 * x[k]?.getD 0) n
  | 0 => rfl
  | n + 1 => by simp only [dotS, dsum]; rw [dotS_sum a x off n]
theorem dsum_congr {f g : Nat → Int} : ∀ n, (∀ k, k < n → f k = g k) → dsum f n = dsum g n
  | 0, _ => rfl
  | n + 1, h => by simp only [dsum]; rw [dsum_congr n (fun k hk => h k (by omega)), h n (by omega)]
theorem dsum_tau (f : Nat → Int) {i j : Nat} (hij : i ≠ j) : ∀ k, dsum (fun q => f (tau i j q)) k = dsum f k + (if i < k then f j - f i else 0) + (if j < k then f i - f j else 0)
  | 0 => by simp [dsum]
  | k + 1 => by
    simp only [dsum]
    rw [dsum_tau f hij k]
    by_cases h1 : k = i
    · subst h1
      have e : tau k j k = j := by unfold tau; rw [if_pos rfl]
      rw [e, if_neg (Nat.lt_irrefl k), if_pos (Nat.lt_succ_self k)]
      by_cases h2 : j < k
      · rw [if_pos h2, if_pos (by omega)]; omega
      · rw [if_neg h2, if_neg (by omega)]; omega
    · by_cases h2 : k = j
      · subst h2
        have e : tau i k k = i := by unfold tau; rw [if_neg h1, if_pos rfl]
        rw [e, if_neg (Nat.lt_irrefl k), if_pos (Nat.lt_succ_self k)]
        by_cases h3 : i < k
        · rw [if_pos h3, if_pos (by omega)]; omega
        · rw [if_neg h3, if_neg (by omega)]; omega
      · have e : tau i j k = k := by unfold tau; rw [if_neg h1, if_neg h2]
        have e1 : (i < k + 1) ↔ (i < k) := by omega
        have e2 : (j < k + 1) ↔ (j < k) := by omega
        rw [e]
        simp only [e1, e2]
        omega
theorem dsum_swap (f : Nat → Int) {i j n : Nat} (hij : i ≠ j) (hi : i < n) (hj : j < n) : dsum (fun q => f (tau i j q)) n = dsum f n := by
  rw [dsum_tau f hij n, if_pos hi, if_pos hj]; omega

theorem hA_at {s p : List Int} {l j : Nat} (hj : j < szN s (l + 1) * szN s l) : (lA s p l)[j]?.getD 0 = p[fst s l + j]?.getD 0 := by
  unfold lA
  rw [List.getElem?_drop, List.getElem?_take, if_pos (by omega)]
theorem hB_at {s p : List Int} {l j : Nat} (hj : j < szN s (l + 1)) : (lB s p l)[j]?.getD 0 = p[fst s l + szN s (l + 1) * szN s l + j]?.getD 0 := by
  unfold lB
  rw [List.getElem?_drop, List.getElem?_take, if_pos (by omega)]
theorem row_lt {o k n m : Nat} (h : o < n) (hk : k < m) : o * m + k < n * m := by
  have := Nat.mul_le_mul_right m (show o + 1 ≤ n by omega)
  rw [Nat.add_mul] at this
  omega

/-- The same net, two hidden outputs of which have changed places, comes to the same. -/
theorem hid_val {s p p' x : List Int} {i j : Nat} (hs : s.length = 3) (hx : x.length = szN s 0) (hij : i ≠ j) (hi : i < szN s 1) (hj : j < szN s 1)
    (H1 : ∀ o k, o < szN s 1 → k < szN s 0 → p'[o * szN s 0 + k]?.getD 0 = p[tau i j o * szN s 0 + k]?.getD 0)
    (H2 : ∀ o, o < szN s 1 → p'[szN s 1 * szN s 0 + o]?.getD 0 = p[szN s 1 * szN s 0 + tau i j o]?.getD 0)
    (H3 : ∀ o c, o < szN s 2 → c < szN s 1 → p'[fst s 1 + (o * szN s 1 + c)]?.getD 0 = p[fst s 1 + (o * szN s 1 + tau i j c)]?.getD 0)
    (H4 : ∀ o, o < szN s 2 → p'[fst s 1 + szN s 2 * szN s 1 + o]?.getD 0 = p[fst s 1 + szN s 2 * szN s 1 + o]?.getD 0) :
    val s p' x 2 = val s p x 2 := by
  have hv : ∀ o, o < szN s 1 → (val s p' x 1)[o]?.getD 0 = (val s p x 1)[tau i j o]?.getD 0 := fun o ho => by
    have ht := tau_lt hi hj ho
    have e : ∀ (q : List Int) (u : Nat), u < szN s 1 → (val s q x 1)[u]?.getD 0 = relu1 (near32 (sumO (szN s 0) (lA s q 0) (lB s q 0) x u)) := fun q u hu => by
      simp only [val]
      rw [if_pos (by omega)]
      simp [relu, sumsO, List.getElem?_map, List.getElem?_range hu]
    rw [e p' o ho, e p _ ht]
    unfold sumO
    rw [hB_at (s := s) (p := p') (l := 0) ho, hB_at (s := s) (p := p) (l := 0) ht, dotS_sum, dotS_sum]
    have h2 := H2 o ho
    simp only [fst, Nat.zero_add] at h2 ⊢
    rw [h2]
    congr 3
    refine dsum_congr _ (fun k hk => ?_)
    rw [hA_at (s := s) (p := p') (l := 0) (row_lt ho hk), hA_at (s := s) (p := p) (l := 0) (row_lt ht hk)]
    simp only [fst, Nat.zero_add]
    rw [H1 o k ho hk]
  have e2 : ∀ (q : List Int), val s q x 2 = (sumsO (szN s 1) (lA s q 1) (lB s q 1) (val s q x 1) (szN s 2)).map near32 := fun q => by
    show (if 1 + 2 < s.length then _ else _) = _
    rw [if_neg (by omega)]
  rw [e2 p', e2 p]
  unfold sumsO
  rw [List.map_map, List.map_map]
  refine List.map_congr_left (fun o ho => ?_)
  have ho' : o < szN s 2 := List.mem_range.1 ho
  show near32 (sumO _ _ _ _ o) = near32 (sumO _ _ _ _ o)
  unfold sumO
  rw [hB_at (s := s) (p := p') (l := 1) ho', hB_at (s := s) (p := p) (l := 1) ho', dotS_sum, dotS_sum]
  have h4 := H4 o ho'
  simp only [Nat.reduceAdd] at h4 ⊢
  rw [h4]
  congr 2
  rw [← dsum_swap (fun k => (lA s p 1)[o * szN s 1 + k]?.getD 0 * (val s p x 1)[k]?.getD 0) hij hi hj]
  refine dsum_congr _ (fun k hk => ?_)
  have ht := tau_lt hi hj hk
  rw [hv k hk, hA_at (s := s) (p := p') (l := 1) (row_lt ho' hk), hA_at (s := s) (p := p) (l := 1) (row_lt ho' ht), H3 o k ho' hk]
end Go.Proofs.Ytdamenbpgkhiiaa
