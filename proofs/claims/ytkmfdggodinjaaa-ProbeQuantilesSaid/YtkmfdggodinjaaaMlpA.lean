/-
  Layer mlp: sizes, shapes, copies.
-/
import Derived.Test.YtkmfdggodinjaaaOwnS
namespace Go.Proofs.Ytkmfdggodinjaaa
open Go.RowKit
set_option linter.unusedVariables false
set_option linter.unusedSimpArgs false

/-! ### sizes -/
def okS (s : List Int) : Prop := 2 ≤ s.length ∧ s.length ≤ 6 ∧ ∀ j, j < s.length → 1 ≤ s[j]?.getD 0 ∧ s[j]?.getD 0 ≤ 64
instance (s : List Int) : Decidable (okS s) := by unfold okS; exact inferInstance
def szN (s : List Int) (i : Nat) : Nat := (s[i]?.getD 0).toNat
/-- Where a layer's parameters begin. -/
def fst (s : List Int) : Nat → Nat
  | 0 => 0
  | i + 1 => fst s i + szN s (i + 1) * (szN s i + 1)
def cntN (s : List Int) : Nat := fst s (s.length - 1)
def cnt (s : List Int) : Int × Int := if okS s then ((cntN s : Int), 0) else (0, 70)

theorem okS.szv {s : List Int} (h : okS s) {i : Nat} (hi : i < s.length) : s[i]?.getD 0 = (szN s i : Int) ∧ 1 ≤ szN s i ∧ szN s i ≤ 64 := by
  have := h.2.2 i hi
  unfold szN
  omega
theorem fst_bd {s : List Int} {m : Nat} (h : ∀ j, j < m → s[j]?.getD 0 ≤ 64) : ∀ k, k < m → fst s k ≤ k * 4160
  | 0, _ => by simp [fst]
  | k + 1, hk => by
    have h1 := fst_bd h k (by omega)
    have h2 := h (k + 1) hk
    have h3 := h k (by omega)
    have h4 : szN s (k + 1) * (szN s k + 1) ≤ 64 * 65 := Nat.mul_le_mul (by unfold szN; omega) (by unfold szN; omega)
    simp only [fst]
    omega

theorem okS_bad {s : List Int} {k : Nat} (hk : k < s.length) (h : s[k]?.getD 0 < 1 ∨ 64 < s[k]?.getD 0) : ¬ okS s := fun g => by have := g.2.2 k hk; omega

def okTo (s : List Int) (k : Nat) : Prop := ∀ j, j < k → 1 ≤ s[j]?.getD 0 ∧ s[j]?.getD 0 ≤ 64
theorem okTo_succ {s : List Int} {k : Nat} (h : okTo s k) (h1 : 1 ≤ s[k]?.getD 0) (h2 : s[k]?.getD 0 ≤ 64) : okTo s (k + 1) := fun j hj => by
  by_cases e : j = k
  · subst e; exact ⟨h1, h2⟩
  · exact h j (by omega)

set_option maxHeartbeats 800000 in
set_option maxRecDepth 20000 in
theorem mCount_any (a : Option Addr) (n c : Nat) (l : List Int) (w : World) (h : Rd w .i64 a n l) :
    Calls Try.prog 67 #[.slice a n c] w fun e w' => e = .returned (.tuple #[.int .i64 (cnt l).1, .int .i64 (cnt l).2]) ∧ w = w' := by
  have hl := h.1
  have hn := h.2.1
  by_cases h1 : n < 2
  · have e : cnt l = (0, 70) := by unfold cnt; rw [if_neg (by unfold okS; omega)]
    rw [e]
    clear h hl e
    go_enter Try.func67, Try.ntmps67
    go_wp2
    go_ret2
    exact ⟨rfl, rfl⟩
  by_cases h2 : n > 6
  · have e : cnt l = (0, 70) := by unfold cnt; rw [if_neg (by unfold okS; omega)]
    rw [e]
    clear h hl e
    go_enter Try.func67, Try.ntmps67
    go_wp2
    go_ret2
    exact ⟨rfl, rfl⟩
  have H := Lib.hid h; clear h
  have HL := Lib.hid hl; clear hl
  go_enter Try.func67, Try.ntmps67
  go_wp2
  go_loopw [4, 17] (fun v i wr => ∃ k : Nat, k ≤ n ∧ i = .int .i64 k ∧ v = .int .i64 (fst l (k - 1)) ∧ Hid (okTo l k) ∧ w = wr) (fun _ i _ => n - (intOf i).toNat)
  case atStart => exact ⟨0, Nat.zero_le _, rfl, rfl, fun j hj => absurd hj (by omega), rfl⟩
  case round =>
    obtain ⟨k, hk, rfl, rfl, ho, rfl⟩ := hrel
    by_cases hlt : k < n
    · obtain ⟨b, o, rfl, _, hcell⟩ := H.out.at hlt
      by_cases b1 : l[k]?.getD 0 < 1
      · have e : cnt l = (0, 70) := by unfold cnt; rw [if_neg (okS_bad (by have := HL.out; omega) (.inl b1))]
        have He := Lib.hid e; clear e
        generalize l[k]?.getD 0 = x at *
        go_wp2
        go_ret2
        exact ⟨by rw [He.out]; rfl, rfl⟩
      by_cases b2 : l[k]?.getD 0 > 64
      · have e : cnt l = (0, 70) := by unfold cnt; rw [if_neg (okS_bad (by have := HL.out; omega) (.inr b2))]
        have He := Lib.hid e; clear e
        generalize l[k]?.getD 0 = x at *
        go_wp2
        go_ret2
        exact ⟨by rw [He.out]; rfl, rfl⟩
      have Ho := Lib.hid (okTo_succ ho.out (by omega) (by omega))
      by_cases k0 : k = 0
      · subst k0
        rw [Nat.add_zero] at hcell
        generalize l[0]?.getD 0 = x at *
        have ef : fst l (0 - 1) = 0 := rfl
        go_wp2
        go_roundw
        case rel => exact ⟨1, by omega, by go_num, rfl, Ho.out, by first | rfl | trivial⟩
        case measure => simp [intOf]; omega
      · obtain ⟨j, rfl⟩ : ∃ j, k = j + 1 := ⟨k - 1, by omega⟩
        obtain ⟨b', o', e', _, hcell'⟩ := H.out.at (i := j) (by omega)
        cases e'
        have hsz1 : l[j + 1]?.getD 0 = (szN l (j + 1) : Int) := by unfold szN; omega
        have hoj := ho.out j (by omega)
        have hsz0 : l[j]?.getD 0 = (szN l j : Int) := by unfold szN; omega
        have hb1 : szN l (j + 1) ≤ 64 := by unfold szN; omega
        have hb0 : szN l j ≤ 64 := by unfold szN; omega
        have hp1 : 1 ≤ szN l (j + 1) := by unfold szN; omega
        have hfb := fst_bd (s := l) (m := j + 1) (fun i hi => (ho.out i hi).2) j (by omega)
        have hmul : szN l (j + 1) * (szN l j + 1) ≤ 64 * 65 := Nat.mul_le_mul hb1 (by omega)
        have Hf : Hid (fst l (j + 1 + 1 - 1) = fst l (j + 1 - 1) + szN l (j + 1) * (szN l j + 1)) := Lib.hid rfl
        have e1 : j + 1 - 1 = j := rfl
        rw [e1] at Hf ⊢
        rw [hsz1] at hcell
        rw [hsz0] at hcell'
        clear b1 b2 hsz1 hsz0 hoj
        generalize szN l (j + 1) = p at *
        generalize szN l j = q at *
        generalize hF : fst l j = f at *
        have hpq : (p : Int) * ((q : Int) + 1) = ((p * (q + 1) : Nat) : Int) := by simp
        generalize p * (q + 1) = r at *
        have hj6 : j ≤ 6 := by omega
        go_wp2
        go_roundw
        case rel => exact ⟨j + 1 + 1, by omega, by go_num, by rw [Hf.out]; go_num, Ho.out, by first | rfl | trivial⟩
        case measure => simp [intOf]; omega
    · obtain rfl : k = n := by omega
      have e : cnt l = (((fst l (k - 1) : Nat) : Int), 0) := by
        unfold cnt cntN
        rw [if_pos ⟨by have := HL.out; omega, by have := HL.out; omega, by rw [HL.out]; exact ho.out⟩, HL.out]
      have He := Lib.hid e; clear e
      go_wp2
      go_ret2
      exact ⟨by rw [He.out]; rfl, rfl⟩

def shp (s : List Int) (np : Nat) : Int := if okS s then (if np = cntN s then 0 else 40) else 70

set_option maxHeartbeats 800000 in
set_option maxRecDepth 20000 in
theorem shaped_any (a : Option Addr) (n c : Nat) (l : List Int) (b : Option Addr) (m d : Nat) (w : World) (h : Rd w .i64 a n l) (hm : m ≤ 140737488351232) :
    Calls Try.prog 40 #[.slice a n c, .slice b m d] w fun e w' => e = .returned (.int .i64 (shp l m)) ∧ w = w' := by
  have HC := Lib.hid (mCount_any a n c l w h)
  by_cases h1 : okS l
  · have e : cnt l = ((cntN l : Int), 0) := by unfold cnt; rw [if_pos h1]
    rw [e] at HC
    by_cases h2 : m = cntN l
    · have e2 : shp l m = 0 := by unfold shp; rw [if_pos h1, if_pos h2]
      rw [e2]
      subst h2
      clear h h1 e e2
      generalize cntN l = r at *
      go_enter Try.func40, Try.ntmps40
      go_wp2_with first
        | ((with_reducible refine (HC.out).mono ?_); rintro e w1 ⟨rfl, rfl⟩)
        | fail
      go_ret
      exact ⟨rfl, rfl⟩
    · have e2 : shp l m = 40 := by unfold shp; rw [if_pos h1, if_neg h2]
      rw [e2]
      clear h h1 e e2
      generalize cntN l = r at *
      have hne : ((m : Int) != (r : Int)) = true := by simpa using (by omega : ¬ (m : Int) = r)
      have hne2 : ((m : Int) == (r : Int)) = false := by simpa using (by omega : ¬ (m : Int) = r)
      go_enter Try.func40, Try.ntmps40
      go_wp2_with first
        | ((with_reducible refine (HC.out).mono ?_); rintro e w1 ⟨rfl, rfl⟩)
        | fail
      go_ret
      exact ⟨rfl, rfl⟩
  · have e : cnt l = (0, 70) := by unfold cnt; rw [if_neg h1]
    have e2 : shp l m = 70 := by unfold shp; rw [if_neg h1]
    rw [e] at HC
    rw [e2]
    clear h h1 e e2
    go_enter Try.func40, Try.ntmps40
    go_wp2_with first
      | ((with_reducible refine (HC.out).mono ?_); rintro e w1 ⟨rfl, rfl⟩)
      | fail
    go_ret
    exact ⟨rfl, rfl⟩

theorem eFs : Elem Try.prog 22 23 1 8 (.int .i64 0) := ⟨Try.underlying22, by kernel_rfl, rfl, by omega⟩

set_option maxHeartbeats 400000 in
theorem clone_any (a : Option Addr) (n c : Nat) (l : List Int) (w : World) (h : Rd w .i64 a n l) (hn : n ≤ 1000000000) (hnone : a = none → c = 0) :
    Calls Try.prog 68 #[.slice a n c] w fun e w' => ∃ v, e = .returned v ∧ Ow w' w.heap.size 23 .i64 v l ∧ Below w.heap.size w w' := by
  have H := Lib.hid h; clear h
  have Hnone := Lib.hid hnone; clear hnone
  go_enter Try.func68, Try.ntmps68
  go_wp2_with (at_builtin; refine wpl_appN eFs rfl _ _ rfl w.heap.size _ 0 [] rfl (World.ownsRow_lit _ #[] 0 (Nat.le_refl _) (by unfold maxLen; omega) rfl) .i64 _ _ _ l rfl ?c1 ?c2 ?c3 ?c4 ?c5 ?_)
  case c1 => exact H.out.kept ((Below.refl _ _).alloc (Nat.le_refl _) _)
  case c2 => exact Hnone.out
  case c3 => unfold maxLen; omega
  case c4 => omega
  case c5 => simp
  intro v' w' hown hg
  have hb := Below.grownOf ((Below.refl w.heap.size w).alloc (Nat.le_refl _) (.cells #[] 23)) (World.ownsRow_lit (base := w.heap.size) (size := 1) w #[] 0 (Nat.le_refl _) (by unfold maxLen; omega) rfl) hg (by simp)
  have Hb := Lib.hid hb
  have Ho := Lib.hid hown
  clear hb hown hg
  go_wp2
  go_ret
  exact ⟨_, rfl, by have := Ho.out; have h1 := H.out.1; subst h1; simpa [Ow] using this, Hb.out⟩
end Go.Proofs.Ytkmfdggodinjaaa
