/-
  Layer mlp: what Forward refuses. regattaref04: two lists that are the same.
-/
import Derived.Test.YthingodgjeicpaaLawD
namespace Go.Proofs.Ythingodgjeicpaa
open Go.RowKit
set_option linter.unusedVariables false
set_option linter.unusedSimpArgs false

set_option maxHeartbeats 1600000 in
theorem rSame_any (a b : Option Addr) (n ca cb : Nat) (l : List Int) (w : World) (ha : Rd w .i64 a n l) (hb : Rd w .i64 b n l) :
    Calls Try.prog 8 #[.slice a n ca, .slice b n cb] w fun e w' => e = .returned (.bool true) ∧ Drew w w' := by
  have HA := Lib.hid ha; have HB := Lib.hid hb
  have hn := ha.2.1
  clear ha hb
  go_enter Try.func8, Try.ntmps8
  go_wp2
  go_loopw [5] (fun k wr => ∃ i : Nat, i ≤ n ∧ k = .int .i64 i ∧ Hid (Drew w wr)) (fun k _ => n - (intOf k).toNat)
  case atStart => exact ⟨0, Nat.zero_le _, rfl, Drew.refl _⟩
  case round =>
    obtain ⟨i, hi, rfl, hq⟩ := hrel
    obtain ⟨nd, rfl⟩ := hq.out
    by_cases hlt : i < n
    · obtain ⟨ba, oa, rfl, hba, hca⟩ := HA.out.at hlt
      obtain ⟨bb, ob, rfl, hbb, hcb⟩ := HB.out.at hlt
      generalize l[i]?.getD 0 = z at *
      have hi0 : (0 : Int) ≤ (i : Int) := by omega
      have hin : (i : Int) < (n : Int) := by omega
      go_wp2
      go_quiet (fail)
      go_wp2
      go_roundw
      case rel => exact ⟨i + 1, by omega, by go_num, Lib.hid ((Drew.refl _).drewN _)⟩
      case measure => simp [intOf]; omega
    · obtain rfl : i = n := by omega
      go_wp2
      go_ret
      exact ⟨rfl, ⟨nd, rfl⟩⟩
end Go.Proofs.Ythingodgjeicpaa
