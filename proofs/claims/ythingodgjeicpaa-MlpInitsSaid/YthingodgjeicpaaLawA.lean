/-
  regattalaw07's helpers: how many parameters, few, right, short, same; the chapter's example.
-/
import Derived.Test.YthingodgjeicpaaMlpJ
namespace Go.Proofs.Ythingodgjeicpaa
open Go.RowKit
set_option linter.unusedVariables false
set_option linter.unusedSimpArgs false

def rcnt (s : List Int) : Int := if okS s then (cntN s : Int) else -1

set_option maxHeartbeats 800000 in
set_option maxRecDepth 20000 in
theorem rCount_any (a : Option Addr) (n c : Nat) (l : List Int) (w : World) (h : Rd w .i64 a n l) :
    Calls Try.prog 6 #[.slice a n c] w fun e w' => e = .returned (.int .i64 (rcnt l)) ∧ Drew w w' := by
  have hl := h.1
  have hn := h.2.1
  by_cases h1 : n < 2
  · have e : rcnt l = -1 := by unfold rcnt; rw [if_neg (by unfold okS; omega)]
    rw [e]
    clear h hl e
    go_enter Try.func6, Try.ntmps6
    go_wp2
    go_ret
    exact ⟨rfl, Drew.refl _⟩
  by_cases h2 : n > 6
  · have e : rcnt l = -1 := by unfold rcnt; rw [if_neg (by unfold okS; omega)]
    rw [e]
    clear h hl e
    go_enter Try.func6, Try.ntmps6
    go_wp2
    go_ret
    exact ⟨rfl, Drew.refl _⟩
  have H := Lib.hid h; clear h
  have HL := Lib.hid hl; clear hl
  go_enter Try.func6, Try.ntmps6
  go_wp2
  go_loopw [3, 4] (fun v i wr => ∃ k : Nat, k ≤ n ∧ i = .int .i64 k ∧ v = .int .i64 (fst l (k - 1)) ∧ Hid (okTo l k) ∧ Hid (Drew w wr)) (fun _ i _ => n - (intOf i).toNat)
  case atStart => exact ⟨0, Nat.zero_le _, rfl, rfl, fun j hj => absurd hj (by omega), Drew.refl _⟩
  case round =>
    obtain ⟨k, hk, rfl, rfl, ho, hq⟩ := hrel
    obtain ⟨nd, rfl⟩ := hq.out
    by_cases hlt : k < n
    · obtain ⟨b, o, rfl, _, hcell⟩ := H.out.at hlt
      by_cases b1 : l[k]?.getD 0 < 1
      · have e : rcnt l = -1 := by unfold rcnt; rw [if_neg (okS_bad (by have := HL.out; omega) (.inl b1))]
        have He := Lib.hid e; clear e
        generalize l[k]?.getD 0 = x at *
        go_wp2
        go_ret
        exact ⟨by rw [He.out]; rfl, (Drew.refl _).drewN _⟩
      by_cases b2 : l[k]?.getD 0 > 64
      · have e : rcnt l = -1 := by unfold rcnt; rw [if_neg (okS_bad (by have := HL.out; omega) (.inr b2))]
        have He := Lib.hid e; clear e
        generalize l[k]?.getD 0 = x at *
        go_wp2
        go_ret
        exact ⟨by rw [He.out]; rfl, (Drew.refl _).drewN _⟩
      have Ho := Lib.hid (okTo_succ ho.out (by omega) (by omega))
      by_cases k0 : k = 0
      · subst k0
        rw [Nat.add_zero] at hcell
        generalize l[0]?.getD 0 = x at *
        have ef : fst l (0 - 1) = 0 := rfl
        go_wp2
        go_roundw
        case rel => exact ⟨1, by omega, by go_num, rfl, Ho.out, (Drew.refl _).drewN _⟩
        case measure => simp [intOf]; omega
      · obtain ⟨j, rfl⟩ : ∃ j, k = j + 1 := ⟨k - 1, by omega⟩
        obtain ⟨b', o', e', _, hcell'⟩ := H.out.at (i := j) (by omega)
        cases e'
        have hsz1 : l[j + 1]?.getD 0 = (szN l (j + 1) : Int) := by unfold szN; omega
        have hoj := ho.out j (by omega)
        have hsz0 : l[j]?.getD 0 = (szN l j : Int) := by unfold szN; omega
        have hb1 : szN l (j + 1) ≤ 64 := by unfold szN; omega
        have hb0 : szN l j ≤ 64 := by unfold szN; omega
        have hp1 : 1 ≤ szN l (j + 1) := by unfold szN; omega
        have hfb := fst_bd (s := l) (m := j + 1) (fun i hi => (ho.out i hi).2) j (by omega)
        have hmulb : szN l (j + 1) * szN l j ≤ 64 * 64 := Nat.mul_le_mul hb1 hb0
        have Hf : Hid (fst l (j + 1 + 1 - 1) = fst l (j + 1 - 1) + (szN l (j + 1) * szN l j + szN l (j + 1))) := Lib.hid (fst_succ l j)
        have e1 : j + 1 - 1 = j := rfl
        rw [e1] at Hf ⊢
        rw [hsz1] at hcell
        rw [hsz0] at hcell'
        clear b1 b2 hsz1 hsz0 hoj
        generalize szN l (j + 1) = p at *
        generalize szN l j = q at *
        generalize hF : fst l j = f at *
        have hpq : (q : Int) * (p : Int) = ((p * q : Nat) : Int) := by simp [Int.mul_comm]
        generalize p * q = r at *
        have hj6 : j ≤ 6 := by omega
        go_wp2
        go_quiet (fail)
        go_wp2
        go_roundw
        case rel => exact ⟨j + 1 + 1, by omega, by go_num, by rw [Hf.out]; go_num, Ho.out, (Drew.refl _).drewN _⟩
        case measure => simp [intOf]; omega
    · obtain rfl : k = n := by omega
      have e : rcnt l = ((fst l (k - 1) : Nat) : Int) := by
        unfold rcnt cntN
        rw [if_pos ⟨by have := HL.out; omega, by have := HL.out; omega, by rw [HL.out]; exact ho.out⟩, HL.out]
      have He := Lib.hid e; clear e
      go_wp2
      go_ret
      exact ⟨by rw [He.out]; rfl, (Drew.refl _).drewN _⟩

/-! ### few, right, short -/
def fewB (s : List Int) (ns np : Nat) : Bool := decide (ns ≤ 10 ∧ np ≤ 400 ∧ rcnt s ≤ 400)

set_option maxHeartbeats 800000 in
theorem few_any (a : Option Addr) (ns c : Nat) (s : List Int) (ap : Option Addr) (np cp : Nat) (w : World) (h : ns ≤ 10 → Rd w .i64 a ns s) (hm : ns ≤ 9223372036854775807) (hm2 : np ≤ 9223372036854775807) :
    Calls Try.prog 11 #[.agg #[.slice a ns c, .slice ap np cp]] w fun e w' => e = .returned (.bool (fewB s ns np)) ∧ Below w.heap.size w w' := by
  by_cases h1 : ns > 10
  · have e : fewB s ns np = false := by unfold fewB; simp; omega
    rw [e]; clear e h
    go_enter Try.func11, Try.ntmps11
    go_wp2
    go_ret
    exact ⟨rfl, by (repeat first | assumption | exact Below.refl _ _ | refine Below.drew ?_ | refine Below.drewN ?_ _ | refine Below.alloc ?_ (by (first | omega | (simp; done) | (simp; omega))) _ | refine Below.setCell ?_ (by (first | omega | (simp; done) | (simp; omega))) _ | refine Below.trans ?_ (Below.mono (by assumption) (by (first | omega | (simp; done) | (simp; omega)))))⟩
  by_cases h2 : np > 400
  · have e : fewB s ns np = false := by unfold fewB; simp; omega
    rw [e]; clear e h
    go_enter Try.func11, Try.ntmps11
    go_wp2
    go_ret
    exact ⟨rfl, by (repeat first | assumption | exact Below.refl _ _ | refine Below.drew ?_ | refine Below.drewN ?_ _ | refine Below.alloc ?_ (by (first | omega | (simp; done) | (simp; omega))) _ | refine Below.setCell ?_ (by (first | omega | (simp; done) | (simp; omega))) _ | refine Below.trans ?_ (Below.mono (by assumption) (by (first | omega | (simp; done) | (simp; omega)))))⟩
  have HR := Lib.hid (fun w' (hb : Below w.heap.size w w') => rCount_any a ns c s w' ((h (by omega)).kept hb))
  have e : fewB s ns np = decide (rcnt s ≤ 400) := by unfold fewB; exact decide_eq_decide.2 ⟨fun h => h.2.2, fun h => ⟨by omega, by omega, h⟩⟩
  rw [e]; clear e h
  generalize rcnt s = r at *
  go_enter Try.func11, Try.ntmps11
  go_wp2_with first
    | ((with_reducible refine (HR.out _ (by (repeat first | assumption | exact Below.refl _ _ | refine Below.drew ?_ | refine Below.drewN ?_ _ | refine Below.alloc ?_ (by (first | omega | (simp; done) | (simp; omega))) _ | refine Below.setCell ?_ (by (first | omega | (simp; done) | (simp; omega))) _ | refine Below.trans ?_ (Below.mono (by assumption) (by (first | omega | (simp; done) | (simp; omega))))))).mono ?_); rintro e w1 ⟨rfl, ⟨nd, rfl⟩⟩)
    | fail
  go_ret
  exact ⟨rfl, by (repeat first | assumption | exact Below.refl _ _ | refine Below.drew ?_ | refine Below.drewN ?_ _ | refine Below.alloc ?_ (by (first | omega | (simp; done) | (simp; omega))) _ | refine Below.setCell ?_ (by (first | omega | (simp; done) | (simp; omega))) _ | refine Below.trans ?_ (Below.mono (by assumption) (by (first | omega | (simp; done) | (simp; omega)))))⟩

def rightB (s : List Int) (np : Nat) : Bool := decide (okS s ∧ cntN s = np)
end Go.Proofs.Ythingodgjeicpaa
