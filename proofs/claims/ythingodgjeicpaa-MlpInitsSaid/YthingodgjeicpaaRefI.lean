/-
  regattaref02: sums of what is above and below 0, apart: what they come to. regattaref04: results taken.
-/
import Derived.Test.YthingodgjeicpaaRefH
import Derived.Test.YthingodgjeicpaaUnitA
namespace Go.Proofs.Ythingodgjeicpaa
open Go.RowKit
set_option linter.unusedVariables false
set_option linter.unusedSimpArgs false

/-- What is above 0 and what is below come to v; neither is above B. -/
def SP (p n v B : Int) : Prop := 0 ≤ p ∧ p ≤ B ∧ 0 ≤ n ∧ n ≤ B ∧ p - n = v
theorem SP.zero : SP 0 0 0 0 := by unfold SP; omega
theorem SP.swap {p n v B : Int} (h : SP p n v B) : SP n p (-v) B := by unfold SP at *; omega
theorem SP.u192 {p n v B : Int} (h : SP p n v B) (hB : B ≤ 1569275433846670190958947355801916604025588861116008628224) : U192 p ∧ U192 n ∧ absN (p - n) < 3138550867693340381917894711603833208051177722232017256448 := by
  unfold SP at h; unfold U192 absN; refine ⟨by omega, by omega, ?_⟩; split <;> omega

theorem absN_mul_bd {a b : Int} (ha : I64 a) (hb : I64 b) : 0 ≤ absN a * absN b ∧ absN a * absN b ≤ 85070591730234615865843651857942052864 := by
  have h1 := absN_bd ha
  have h2 := absN_bd hb
  exact mul_lim h1.1 h2.1 h1.2 h2.2

theorem absN_neg {a : Int} (h : a < 0) : absN a = -a := by unfold absN; rw [if_pos h]
theorem absN_pos {a : Int} (h : ¬ a < 0) : absN a = a := by unfold absN; rw [if_neg h]


theorem bAdd0_sp (p n a v B : Int) (w : World) (h : SP p n v B) (ha : I64 a) :
    Calls Try.prog 38 #[SG p n, .int .i64 a, .int .i64 0] w fun e w' => ∃ p' n', e = .returned (SG p' n') ∧ SP p' n' (v + a) (B + 39614081257132168796771975168) ∧ Below w.heap.size w w' := by
  have hb := absN_bd ha
  by_cases h0 : a < 0
  · refine (bAdd0_neg p n a w ha h0).mono ?_
    rintro e w' ⟨rfl, hw⟩
    refine ⟨_, _, rfl, ?_, hw⟩
    rw [absN_neg h0] at *
    unfold SP at *; unfold I64 at ha
    omega
  · refine (bAdd0_pos p n a w ha h0).mono ?_
    rintro e w' ⟨rfl, hw⟩
    refine ⟨_, _, rfl, ?_, hw⟩
    rw [absN_pos h0] at *
    unfold SP at *; unfold I64 at ha
    omega


theorem bAdd1_sp (p n a v B : Int) (w : World) (h : SP p n v B) (ha : I64 a) :
    Calls Try.prog 38 #[SG p n, .int .i64 a, .int .i64 1] w fun e w' => ∃ p' n', e = .returned (SG p' n') ∧ SP p' n' (v + a * 4294967296) (B + 39614081257132168796771975168) ∧ Below w.heap.size w w' := by
  have hb := absN_bd ha
  by_cases h0 : a < 0
  · refine (bAdd1_neg p n a w ha h0).mono ?_
    rintro e w' ⟨rfl, hw⟩
    refine ⟨_, _, rfl, ?_, hw⟩
    rw [absN_neg h0] at *
    unfold SP at *; unfold I64 at ha
    omega
  · refine (bAdd1_pos p n a w ha h0).mono ?_
    rintro e w' ⟨rfl, hw⟩
    refine ⟨_, _, rfl, ?_, hw⟩
    rw [absN_pos h0] at *
    unfold SP at *; unfold I64 at ha
    omega
end Go.Proofs.Ythingodgjeicpaa
