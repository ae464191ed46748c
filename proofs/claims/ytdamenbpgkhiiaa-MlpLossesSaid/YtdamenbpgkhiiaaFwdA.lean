/-
  Layer mlp: what Forward refuses. regattaref04: two lists that are the same.
-/
import Derived.Test.YtdamenbpgkhiiaaLawD
namespace Go.Proofs.Ytdamenbpgkhiiaa
open Go.RowKit
set_option linter.unusedVariables false
set_option linter.unusedSimpArgs false

set_option maxHeartbeats 800000 in
theorem Forward_bad (u : Value) (aS : Option Addr) (ns cS : Nat) (s : List Int) (ap : Option Addr) (np cp : Nat) (ax : Option Addr) (nx cx : Nat) (w : World) (e : Int) (hs : Rd w .i64 aS ns s) (hm : np ≤ 140737488351232) (he : shp s np = e) (h0 : e ≠ 0) :
    Calls Try.prog 32 #[u, .slice aS ns cS, .slice ap np cp, .slice ax nx cx] w fun r w' => r = .returned (.tuple #[.slice none 0 0, .int .i64 e]) ∧ w = w' := by
  have HSh := Lib.hid (shaped_any aS ns cS s ap np cp w hs hm)
  rw [he] at HSh
  have hne : (e == 0) = false := by simpa using h0
  have hne2 : (e != 0) = true := by simpa using h0
  clear hs he h0
  go_enter Try.func32, Try.ntmps32
  go_wp2_with first
    | ((with_reducible refine (HSh.out).mono ?_); rintro r w1 ⟨rfl, rfl⟩)
    | fail
  go_ret2
  exact ⟨rfl, rfl⟩

set_option maxHeartbeats 800000 in
theorem Forward_long (u : Value) (aS : Option Addr) (ns cS : Nat) (s : List Int) (ap : Option Addr) (np cp : Nat) (ax : Option Addr) (nx cx : Nat) (w : World) (hs : Rd w .i64 aS ns s) (hm : np ≤ 140737488351232) (he : shp s np = 0) (hok : okS s) (hx : nx ≠ szN s 0) :
    Calls Try.prog 32 #[u, .slice aS ns cS, .slice ap np cp, .slice ax nx cx] w fun r w' => r = .returned (.tuple #[.slice none 0 0, .int .i64 40]) ∧ w = w' := by
  have HSh := Lib.hid (shaped_any aS ns cS s ap np cp w hs hm)
  rw [he] at HSh
  have h2 := hok.1
  rw [hs.1] at h2
  obtain ⟨bs, os, rfl, hbs, hcs⟩ := hs.at (i := 0) (by omega)
  have hs0 := hok.szv (i := 0) (by rw [hs.1]; omega)
  rw [hs0.1, Nat.add_zero] at hcs
  have hne : ((nx : Int) != (szN s 0 : Int)) = true := by simpa using (by omega : ¬ (nx : Int) = szN s 0)
  have hne2 : ((nx : Int) == (szN s 0 : Int)) = false := by simpa using (by omega : ¬ (nx : Int) = szN s 0)
  clear hs he hok hs0 hx
  generalize szN s 0 = q0 at *
  go_enter Try.func32, Try.ntmps32
  go_wp2_with first
    | ((with_reducible refine (HSh.out).mono ?_); rintro r w1 ⟨rfl, rfl⟩)
    | fail
  go_ret2
  exact ⟨rfl, rfl⟩

set_option maxHeartbeats 1600000 in
theorem rSame_any (a b : Option Addr) (n ca cb : Nat) (l : List Int) (w : World) (ha : Rd w .i64 a n l) (hb : Rd w .i64 b n l) :
    Calls Try.prog 43 #[.slice a n ca, .slice b n cb] w fun e w' => e = .returned (.bool true) ∧ Drew w w' := by
  have HA := Lib.hid ha; have HB := Lib.hid hb
  have hn := ha.2.1
  clear ha hb
  go_enter Try.func43, Try.ntmps43
  go_wp2
  go_loopw [5] (fun k wr => ∃ i : Nat, i ≤ n ∧ k = .int .i64 i ∧ Hid (Drew w wr)) (fun k _ => n - (intOf k).toNat)
  case atStart => exact ⟨0, Nat.zero_le _, rfl, Drew.refl _⟩
  case round =>
    obtain ⟨i, hi, rfl, hq⟩ := hrel
    obtain ⟨nd, rfl⟩ := hq.out
    by_cases hlt : i < n
    · obtain ⟨ba, oa, rfl, hba, hca⟩ := HA.out.at hlt
      obtain ⟨bb, ob, rfl, hbb, hcb⟩ := HB.out.at hlt
      generalize l[i]?.getD 0 = z at *
      have hi0 : (0 : Int) ≤ (i : Int) := by omega
      have hin : (i : Int) < (n : Int) := by omega
      go_wp2
      go_quiet (fail)
      go_wp2
      go_roundw
      case rel => exact ⟨i + 1, by omega, by go_num, Lib.hid ((Drew.refl _).drewN _)⟩
      case measure => simp [intOf]; omega
    · obtain rfl : i = n := by omega
      go_wp2
      go_ret
      exact ⟨rfl, ⟨nd, rfl⟩⟩
end Go.Proofs.Ytdamenbpgkhiiaa
