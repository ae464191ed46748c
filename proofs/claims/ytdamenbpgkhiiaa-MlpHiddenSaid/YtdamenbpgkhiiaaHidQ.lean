/-
  Two hidden outputs that change places: what the law's loops write.
-/
import Derived.Test.YtdamenbpgkhiiaaHidP
namespace Go.Proofs.Ytdamenbpgkhiiaa
open Go.RowKit
set_option linter.unusedVariables false
set_option linter.unusedSimpArgs false

def sw (l p : List Int) (a b : Nat) : List Int := (l.set a (p[b]?.getD 0)).set b (p[a]?.getD 0)
theorem sw_len (l p : List Int) (a b : Nat) : (sw l p a b).length = l.length := by simp [sw]
theorem sw_at {l p : List Int} {a b : Nat} (ha : a < l.length) (hb : b < l.length) (c : Nat) : (sw l p a b)[c]?.getD 0 = if c = b then p[a]?.getD 0 else if c = a then p[b]?.getD 0 else l[c]?.getD 0 := by
  unfold sw
  by_cases h1 : c = b
  · subst h1
    rw [if_pos rfl, List.getElem?_set_self (by simpa using hb)]
    rfl
  · rw [if_neg h1, List.getElem?_set_ne (by omega)]
    by_cases h2 : c = a
    · subst h2
      rw [if_pos rfl, List.getElem?_set_self ha]
      rfl
    · rw [if_neg h2, List.getElem?_set_ne (by omega)]
theorem row_inj {r c j k m : Nat} (hc : c < m) (hk : k < m) (h : r * m + c = j * m + k) : r = j ∧ c = k := by
  have h1 : r = j := by
    rcases Nat.lt_trichotomy r j with h2 | h2 | h2
    · have := Nat.mul_le_mul_right m (show r + 1 ≤ j by omega)
      rw [Nat.add_mul] at this; omega
    · exact h2
    · have := Nat.mul_le_mul_right m (show j + 1 ≤ r by omega)
      rw [Nat.add_mul] at this; omega
  subst h1
  exact ⟨rfl, by omega⟩

def L1 (p : List Int) (n0 i j : Nat) : Nat → List Int
  | 0 => p
  | k + 1 => sw (L1 p n0 i j k) p (i * n0 + k) (j * n0 + k)
def L2 (p : List Int) (n0 A i j : Nat) : List Int := sw (L1 p n0 i j n0) p (A + i) (A + j)
def L3 (p : List Int) (n0 A n1 B i j : Nat) : Nat → List Int
  | 0 => L2 p n0 A i j
  | o + 1 => sw (L3 p n0 A n1 B i j o) p (B + o * n1 + i) (B + o * n1 + j)
theorem L1_len (p : List Int) (n0 i j : Nat) : ∀ k, (L1 p n0 i j k).length = p.length
  | 0 => rfl
  | k + 1 => by simp only [L1]; rw [sw_len, L1_len p n0 i j k]
theorem L2_len (p : List Int) (n0 A i j : Nat) : (L2 p n0 A i j).length = p.length := by unfold L2; rw [sw_len, L1_len]
theorem L3_len (p : List Int) (n0 A n1 B i j : Nat) : ∀ o, (L3 p n0 A n1 B i j o).length = p.length
  | 0 => L2_len p n0 A i j
  | o + 1 => by simp only [L3]; rw [sw_len, L3_len p n0 A n1 B i j o]

section
variable {p : List Int} {n0 n1 n2 i j : Nat} (hij : i ≠ j) (hi : i < n1) (hj : j < n1)
include hij hi hj

theorem L1_row (hp : n1 * n0 ≤ p.length) {r c : Nat} (hr : r < n1) (hc : c < n0) : ∀ k, k ≤ n0 → (L1 p n0 i j k)[r * n0 + c]?.getD 0 = if c < k then p[tau i j r * n0 + c]?.getD 0 else p[r * n0 + c]?.getD 0
  | 0, _ => by simp [L1]
  | k + 1, hk => by
    have hik := row_lt hi (show k < n0 by omega)
    have hjk := row_lt hj (show k < n0 by omega)
    have ih := L1_row hp hr hc k (by omega)
    simp only [L1]
    rw [sw_at (by rw [L1_len]; omega) (by rw [L1_len]; omega)]
    by_cases h1 : r * n0 + c = j * n0 + k
    · obtain ⟨rfl, rfl⟩ := row_inj hc (by omega) h1
      rw [if_pos rfl, if_pos (by omega)]
      have e : tau i r r = i := by unfold tau; rw [if_neg (by omega), if_pos rfl]
      rw [e]
    · rw [if_neg h1]
      by_cases h2 : r * n0 + c = i * n0 + k
      · obtain ⟨rfl, rfl⟩ := row_inj hc (by omega) h2
        rw [if_pos rfl, if_pos (by omega)]
        have e : tau r j r = j := by unfold tau; rw [if_pos rfl]
        rw [e]
      · rw [if_neg h2, ih]
        by_cases h3 : c < k
        · rw [if_pos h3, if_pos (by omega)]
        · rw [if_neg h3]
          by_cases h4 : c = k
          · subst h4
            rw [if_pos (by omega)]
            have e : tau i j r = r := by
              unfold tau
              rw [if_neg (fun h => h2 (by rw [h])), if_neg (fun h => h1 (by rw [h]))]
            rw [e]
          · rw [if_neg (by omega)]
theorem L1_far (hp : n1 * n0 ≤ p.length) {x : Nat} (hx : n1 * n0 ≤ x) : ∀ k, k ≤ n0 → (L1 p n0 i j k)[x]?.getD 0 = p[x]?.getD 0
  | 0, _ => rfl
  | k + 1, hk => by
    have hik := row_lt hi (show k < n0 by omega)
    have hjk := row_lt hj (show k < n0 by omega)
    have h0 := hij
    simp only [L1]
    rw [sw_at (by rw [L1_len]; omega) (by rw [L1_len]; omega), if_neg (by omega), if_neg (by omega)]
    exact L1_far hp hx k (by omega)

theorem L2_low (hp : n1 * n0 + n1 ≤ p.length) {x : Nat} (hx : x < n1 * n0) : (L2 p n0 (n1 * n0) i j)[x]?.getD 0 = (L1 p n0 i j n0)[x]?.getD 0 := by
  have h0 := hij
  unfold L2
  rw [sw_at (by rw [L1_len]; omega) (by rw [L1_len]; omega), if_neg (by omega), if_neg (by omega)]
theorem L2_mid (hp : n1 * n0 + n1 ≤ p.length) {o : Nat} (ho : o < n1) : (L2 p n0 (n1 * n0) i j)[n1 * n0 + o]?.getD 0 = p[n1 * n0 + tau i j o]?.getD 0 := by
  unfold L2
  rw [sw_at (by rw [L1_len]; omega) (by rw [L1_len]; omega)]
  by_cases h1 : o = j
  · subst h1
    have e : tau i o o = i := by unfold tau; rw [if_neg (by omega), if_pos rfl]
    rw [if_pos rfl, e]
  · rw [if_neg (by omega)]
    by_cases h2 : o = i
    · subst h2
      have e : tau o j o = j := by unfold tau; rw [if_pos rfl]
      rw [if_pos rfl, e]
    · have e : tau i j o = o := by unfold tau; rw [if_neg h2, if_neg h1]
      rw [if_neg (by omega), L1_far hij hi hj (by omega) (by omega) n0 (Nat.le_refl _), e]
theorem L2_far (hp : n1 * n0 + n1 ≤ p.length) {x : Nat} (hx : n1 * n0 + n1 ≤ x) : (L2 p n0 (n1 * n0) i j)[x]?.getD 0 = p[x]?.getD 0 := by
  unfold L2
  rw [sw_at (by rw [L1_len]; omega) (by rw [L1_len]; omega), if_neg (by omega), if_neg (by omega)]
  exact L1_far hij hi hj (by omega) (by omega) n0 (Nat.le_refl _)

theorem L3_low (hp : n1 * n0 + n1 + n2 * n1 ≤ p.length) {x : Nat} (hx : x < n1 * n0 + n1) : ∀ o, o ≤ n2 → (L3 p n0 (n1 * n0) n1 (n1 * n0 + n1) i j o)[x]?.getD 0 = (L2 p n0 (n1 * n0) i j)[x]?.getD 0
  | 0, _ => rfl
  | o + 1, ho => by
    have h1 := row_lt (show o < n2 by omega) hi
    have h2 := row_lt (show o < n2 by omega) hj
    have h0 := hij
    simp only [L3]
    rw [sw_at (by rw [L3_len]; omega) (by rw [L3_len]; omega), if_neg (by omega), if_neg (by omega)]
    exact L3_low hp hx o (by omega)
theorem L3_far (hp : n1 * n0 + n1 + n2 * n1 ≤ p.length) {x : Nat} (hx : n1 * n0 + n1 + n2 * n1 ≤ x) : ∀ o, o ≤ n2 → (L3 p n0 (n1 * n0) n1 (n1 * n0 + n1) i j o)[x]?.getD 0 = p[x]?.getD 0
  | 0, _ => L2_far hij hi hj (by omega) (by omega)
  | o + 1, ho => by
    have h1 := row_lt (show o < n2 by omega) hi
    have h2 := row_lt (show o < n2 by omega) hj
    simp only [L3]
    rw [sw_at (by rw [L3_len]; omega) (by rw [L3_len]; omega), if_neg (by omega), if_neg (by omega)]
    exact L3_far hp hx o (by omega)
theorem L3_row (hp : n1 * n0 + n1 + n2 * n1 ≤ p.length) {r c : Nat} (hr : r < n2) (hc : c < n1) : ∀ o, o ≤ n2 → (L3 p n0 (n1 * n0) n1 (n1 * n0 + n1) i j o)[n1 * n0 + n1 + (r * n1 + c)]?.getD 0 = if r < o then p[n1 * n0 + n1 + (r * n1 + tau i j c)]?.getD 0 else p[n1 * n0 + n1 + (r * n1 + c)]?.getD 0
  | 0, _ => by rw [if_neg (Nat.not_lt_zero _)]; exact L2_far hij hi hj (by omega) (by omega)
  | o + 1, ho => by
    have h1 := row_lt (show o < n2 by omega) hi
    have h2 := row_lt (show o < n2 by omega) hj
    have ih := L3_row hp hr hc o (by omega)
    simp only [L3]
    rw [sw_at (by rw [L3_len]; omega) (by rw [L3_len]; omega)]
    by_cases h3 : r * n1 + c = o * n1 + j
    · obtain ⟨rfl, rfl⟩ := row_inj hc hj h3
      rw [if_pos (by omega), if_pos (by omega)]
      have e : tau i c c = i := by unfold tau; rw [if_neg (by omega), if_pos rfl]
      rw [e, Nat.add_assoc (n1 * n0 + n1)]
    · rw [if_neg (by omega)]
      by_cases h4 : r * n1 + c = o * n1 + i
      · obtain ⟨rfl, rfl⟩ := row_inj hc hi h4
        rw [if_pos (by omega), if_pos (by omega)]
        have e : tau c j c = j := by unfold tau; rw [if_pos rfl]
        rw [e, Nat.add_assoc (n1 * n0 + n1)]
      · rw [if_neg (by omega), ih]
        by_cases h5 : r < o
        · rw [if_pos h5, if_pos (by omega)]
        · rw [if_neg h5]
          by_cases h6 : r = o
          · subst h6
            rw [if_pos (by omega)]
            have e : tau i j c = c := by
              unfold tau
              rw [if_neg (fun h => h4 (by rw [h])), if_neg (fun h => h3 (by rw [h]))]
            rw [e]
          · rw [if_neg (by omega)]
end

theorem hid_same {s p x : List Int} {i j : Nat} (hs : s.length = 3) (hx : x.length = szN s 0) (hij : i ≠ j) (hi : i < szN s 1) (hj : j < szN s 1)
    (hp : szN s 1 * szN s 0 + szN s 1 + szN s 2 * szN s 1 ≤ p.length) :
    val s (L3 p (szN s 0) (szN s 1 * szN s 0) (szN s 1) (szN s 1 * szN s 0 + szN s 1) i j (szN s 2)) x 2 = val s p x 2 := by
  have hf : fst s 1 = szN s 1 * szN s 0 + szN s 1 := by
    have := fst_succ s 0
    simp only [Nat.zero_add, show fst s 0 = 0 from rfl] at this
    exact this
  refine hid_val hs hx hij hi hj (fun o k ho hk => ?_) (fun o ho => ?_) (fun o c ho hc => ?_) (fun o ho => ?_)
  · have h1 := row_lt ho hk
    rw [L3_low hij hi hj hp (by omega) _ (Nat.le_refl _), L2_low hij hi hj (by omega) h1, L1_row hij hi hj (by omega) ho hk _ (Nat.le_refl _), if_pos hk]
  · rw [L3_low hij hi hj hp (by omega) _ (Nat.le_refl _), L2_mid hij hi hj (by omega) ho]
  · rw [hf, L3_row hij hi hj hp ho hc _ (Nat.le_refl _), if_pos ho]
  · rw [hf, L3_far hij hi hj hp (by omega) _ (Nat.le_refl _)]
end Go.Proofs.Ytdamenbpgkhiiaa
