/-
  chunk.Parts, regattaref20.Parts, regattaref11.Same, slices.Clone at bytes: what each answers, on every input.
-/
import Derived.Test.YtjoddepnopbioaaBase
namespace Go.Proofs.Ytjoddepnopbioaa
open Go.RowKit
set_option linter.unusedVariables false
set_option linter.unusedSimpArgs false

/-! ### the plain law of the parts -/
def parts (bytes size : Int) : Int × Int :=
  if size < 1 ∨ size > 32768 ∨ bytes < 0 then (0, 2)
  else
    let n := if bytes > 0 then (bytes - 1) / size + 1 else 1
    if n > 1024 then (0, 200) else (n, 0)

theorem ediv_ub {a b : Int} (hb : 1 ≤ b) (ha : 0 ≤ a) : 0 ≤ a / b ∧ a / b ≤ a :=
  ⟨Int.ediv_nonneg ha (by omega), Int.ediv_le_self _ ha⟩
theorem parts_bad {n s : Int} (h : s < 1 ∨ s > 32768 ∨ n < 0) : parts n s = (0, 2) := by simp only [parts]; rw [if_pos h]
theorem parts_zero {s : Int} (h1 : ¬ s < 1) (h2 : ¬ s > 32768) : parts 0 s = (1, 0) := by simp only [parts]; rw [if_neg (by omega)]; rfl
theorem parts_many {n s : Int} (h1 : ¬ s < 1) (h2 : ¬ s > 32768) (h3 : 0 < n) (h : 1024 < (n - 1) / s + 1) : parts n s = (0, 200) := by
  simp only [parts]; rw [if_neg (by omega), if_pos h3, if_pos h]
theorem parts_ok {n s : Int} (h1 : ¬ s < 1) (h2 : ¬ s > 32768) (h3 : 0 < n) (h : (n - 1) / s + 1 ≤ 1024) : parts n s = ((n - 1) / s + 1, 0) := by
  simp only [parts]; rw [if_neg (by omega), if_pos h3, if_neg (by omega)]
theorem up_rem {n s : Int} (hs : 0 < s) (h : 0 < n % s) : (n - 1) / s = n / s := by
  have h1 := Int.emod_add_mul_ediv n s
  have h2 := Int.emod_lt_of_pos n hs
  have e : n - 1 = (n % s - 1) + s * (n / s) := by omega
  rw [e, Int.add_mul_ediv_left _ _ (by omega), Int.ediv_eq_zero_of_lt (by omega) (by omega), Int.zero_add]
theorem up_even {n s : Int} (hs : 0 < s) (h : n % s = 0) : (n - 1) / s + 1 = n / s := by
  have h1 := Int.emod_add_mul_ediv n s
  have e : n - 1 = (s - 1) + s * (n / s - 1) := by rw [Int.mul_sub]; omega
  rw [e, Int.add_mul_ediv_left _ _ (by omega), Int.ediv_eq_zero_of_lt (by omega) (by omega)]; omega

set_option maxHeartbeats 400000 in
theorem Parts_any (n s : Int) (w : World) (hn : n ≤ 9223372036854775807) :
    Calls Try.prog 9 #[.int .i64 n, .int .i64 s] w fun e w' => e = .returned (.tuple #[.int .i64 (parts n s).1, .int .i64 (parts n s).2]) ∧ w = w' := by
  by_cases h1 : s < 1
  · rw [parts_bad (.inl h1)]; go_enter Try.func9, Try.ntmps9; go_wp2; go_ret2; exact ⟨rfl, rfl⟩
  by_cases h2 : s > 32768
  · rw [parts_bad (.inr (.inl h2))]; go_enter Try.func9, Try.ntmps9; go_wp2; go_ret2; exact ⟨rfl, rfl⟩
  by_cases h3 : n < 0
  · rw [parts_bad (.inr (.inr h3))]; go_enter Try.func9, Try.ntmps9; go_wp2; go_ret2; exact ⟨rfl, rfl⟩
  by_cases h4 : n > 0
  · have hd := ediv_ub (a := n - 1) (b := s) (by omega) (by omega)
    obtain ⟨hd1, hd2⟩ := hd
    by_cases h5 : (n - 1) / s + 1 ≤ 1024
    · rw [parts_ok h1 h2 h4 h5]; go_enter Try.func9, Try.ntmps9; go_wp2; go_ret2; exact ⟨rfl, rfl⟩
    · rw [parts_many h1 h2 h4 (by omega)]; go_enter Try.func9, Try.ntmps9; go_wp2; go_ret2; exact ⟨rfl, rfl⟩
  · obtain rfl : n = 0 := by omega
    rw [parts_zero h1 h2]; go_enter Try.func9, Try.ntmps9; go_wp2; go_ret2; exact ⟨rfl, rfl⟩

set_option maxHeartbeats 400000 in
theorem RParts_any (n s : Int) (w : World) (hn : n ≤ 9223372036854775807) :
    Calls Try.prog 10 #[.int .i64 n, .int .i64 s] w fun e w' => e = .returned (.tuple #[.int .i64 (parts n s).1, .int .i64 (parts n s).2]) ∧ w = w' := by
  by_cases h1 : s < 1
  · rw [parts_bad (.inl h1)]; go_enter Try.func10, Try.ntmps10; go_wp2; go_ret2; exact ⟨rfl, rfl⟩
  by_cases h2 : s > 32768
  · rw [parts_bad (.inr (.inl h2))]; go_enter Try.func10, Try.ntmps10; go_wp2; go_ret2; exact ⟨rfl, rfl⟩
  by_cases h3 : n < 0
  · rw [parts_bad (.inr (.inr h3))]; go_enter Try.func10, Try.ntmps10; go_wp2; go_ret2; exact ⟨rfl, rfl⟩
  by_cases h0 : n = 0
  · subst h0
    rw [parts_zero h1 h2]
    have hz : (0 : Int) / s = 0 := by simp
    have hy : (0 : Int) % s = 0 := by simp
    go_enter Try.func10, Try.ntmps10; go_wp2; go_ret2; exact ⟨rfl, rfl⟩
  have hd := ediv_ub (a := n) (b := s) (by omega) (by omega)
  obtain ⟨hd1, hd2⟩ := hd
  have hm1 := Int.emod_nonneg n (by omega : s ≠ 0)
  have he : (n == 0) = false := by simpa using h0
  by_cases h4 : n % s > 0
  · have e := up_rem (by omega) h4
    have hd3 : n / s ≤ n - 1 := by rw [← e]; exact (ediv_ub (by omega) (by omega)).2
    by_cases h5 : n / s + 1 ≤ 1024
    · rw [parts_ok h1 h2 (by omega) (by omega), e]; clear e; go_enter Try.func10, Try.ntmps10; go_wp2; go_ret2; exact ⟨rfl, rfl⟩
    · rw [parts_many h1 h2 (by omega) (by omega)]; clear e; go_enter Try.func10, Try.ntmps10; go_wp2; go_ret2; exact ⟨rfl, rfl⟩
  · have e := up_even (by omega) (by omega : n % s = 0)
    by_cases h5 : n / s ≤ 1024
    · rw [parts_ok h1 h2 (by omega) (by omega), e]; clear e; go_enter Try.func10, Try.ntmps10; go_wp2; go_ret2; exact ⟨rfl, rfl⟩
    · rw [parts_many h1 h2 (by omega) (by omega)]; clear e; go_enter Try.func10, Try.ntmps10; go_wp2; go_ret2; exact ⟨rfl, rfl⟩

/-! ### two texts -/
def sameTo (la lb : List Int) (k : Nat) : Prop := ∀ j, j < k → la[j]?.getD 0 = lb[j]?.getD 0
theorem sameTo_succ {la lb : List Int} {k : Nat} (h : sameTo la lb k) (he : la[k]?.getD 0 = lb[k]?.getD 0) : sameTo la lb (k + 1) := by
  intro j hj
  by_cases e : j = k
  · subst e; exact he
  · exact h j (by omega)
theorem sameTo_eq {la lb : List Int} {n : Nat} (h1 : la.length = n) (h2 : lb.length = n) (h : sameTo la lb n) : la = lb := by
  apply List.ext_getElem (by omega)
  intro i hi1 hi2
  have := h i (by omega)
  simpa [List.getElem?_eq_getElem hi1, List.getElem?_eq_getElem hi2] using this

set_option maxHeartbeats 400000 in
theorem Same_any (a b : Option Addr) (n m ca cb : Nat) (la lb : List Int) (w : World) (ha : Rd w .u8 a n la) (hb : Rd w .u8 b m lb) :
    Calls Try.prog 12 #[.slice a n ca, .slice b m cb] w fun e w' => e = .returned (.bool (decide (la = lb))) ∧ Drew w w' := by
  have hn := ha.2.1
  have hm := hb.2.1
  have hla := ha.1
  have hlb := hb.1
  by_cases hnm : n = m
  · subst hnm
    have HA := Lib.hid ha; clear ha
    have HB := Lib.hid hb; clear hb
    have HLA := Lib.hid hla; clear hla
    have HLB := Lib.hid hlb; clear hlb
    go_enter Try.func12, Try.ntmps12
    go_wp2
    go_loopw [5] (fun i wr => ∃ k : Nat, k ≤ n ∧ i = .int .i64 k ∧ Hid (sameTo la lb k) ∧ Hid (Drew w wr)) (fun i _ => n - (intOf i).toNat)
    case atStart => exact ⟨0, Nat.zero_le _, rfl, fun j hj => absurd hj (by omega), Drew.refl _⟩
    case round =>
      obtain ⟨k, hk, rfl, hs, hq⟩ := hrel
      by_cases hlt : k < n
      · obtain ⟨q, rfl⟩ := hq.out
        obtain ⟨ba, oa, rfl, _, hca⟩ := HA.out.at hlt
        obtain ⟨bb, ob, rfl, _, hcb⟩ := HB.out.at hlt
        by_cases he : la[k]?.getD 0 = lb[k]?.getD 0
        · have Hs := Lib.hid (sameTo_succ hs.out he)
          rw [he] at hca
          clear he
          go_wp2
          go_quiet (fail)
          go_wp2
          go_roundw
          case rel => exact ⟨k + 1, by omega, by go_num, Hs.out, (Drew.refl _).drewN _⟩
          case measure => simp [intOf]; omega
        · have Hn : Hid (la ≠ lb) := fun h => he (by rw [h])
          have hne : (la[k]?.getD 0 == lb[k]?.getD 0) = false := by simpa using he
          have hne2 : (la[k]?.getD 0 != lb[k]?.getD 0) = true := by simpa using he
          clear he
          go_wp2
          go_quiet (fail)
          go_wp2
          go_ret
          exact ⟨ret_bool (by simpa using Hn.out), ((Drew.refl _).drewN _).drewN _⟩
      · have hkn : k = n := by omega
        subst hkn
        have He := Lib.hid (sameTo_eq HLA.out HLB.out hs.out)
        obtain ⟨q, rfl⟩ := hq.out
        go_wp2
        go_ret
        exact ⟨ret_bool (by simpa using He.out), (Drew.refl _).drewN _⟩
  · have Hn : Hid (la ≠ lb) := fun h => hnm (by rw [← hla, ← hlb, h])
    have hne : ((n : Int) == (m : Int)) = false := by simpa using (by omega : ¬ (n : Int) = m)
    have hne2 : ((n : Int) != (m : Int)) = true := by simpa using (by omega : ¬ (n : Int) = m)
    clear hla hlb ha hb
    go_enter Try.func12, Try.ntmps12
    go_wp2
    go_ret
    exact ⟨ret_bool (by simpa using Hn.out), Drew.refl _⟩

/-! ### slices.Clone -/
theorem eBs : Elem Try.prog 22 5 1 1 (.int .u8 0) := ⟨Try.underlying22, by kernel_rfl, rfl, by omega⟩

set_option maxHeartbeats 400000 in
theorem Clone_any (a : Option Addr) (n c : Nat) (l : List Int) (w : World) (h : Rd w .u8 a n l) (hnone : a = none → c = 0) :
    Calls Try.prog 24 #[.slice a n c] w fun e w' => ∃ v, e = .returned v ∧ Ow w' w.heap.size 5 .u8 v l ∧ Below w.heap.size w w' := by
  cases a with
  | none =>
    have hn : n = 0 := by
      rcases Nat.eq_zero_or_pos n with h0 | h0
      · exact h0
      · obtain ⟨b, o', e, _⟩ := h.2.2 h0
        cases e
    subst hn
    obtain rfl := hnone rfl
    have hl0 : l = [] := List.eq_nil_of_length_eq_zero h.1
    subst hl0
    have hnn := fun (w : World) (a : Option Addr) (n c : Nat) => Lib.run_eql_slice_nil (P := Try.prog) w 22 5 a n c 0 0 Try.underlying22
    clear h
    go_enter Try.func24, Try.ntmps24
    go_wp2
    go_ret
    exact ⟨_, rfl, World.ownsRow_nil _ _ _ _, Below.refl _ _⟩
  | some ad =>
    have hnn := fun (w : World) (a : Option Addr) (n c : Nat) => Lib.run_eql_slice_nil (P := Try.prog) w 22 5 a n c 0 0 Try.underlying22
    have H := Lib.hid h; clear h
    go_enter Try.func24, Try.ntmps24
    go_wp2_with (at_builtin; refine wpl_appN eBs rfl _ _ rfl w.heap.size _ 0 [] rfl (World.ownsRow_lit _ #[] 0 (Nat.le_refl _) (by unfold maxLen; omega) rfl) .u8 _ _ _ l rfl ?c1 ?c2 ?c3 ?c4 ?c5 ?_)
    case c1 => exact H.out.kept ((Below.refl _ _).alloc (Nat.le_refl _) _)
    case c2 => intro h; cases h
    case c3 => have := H.out.2.1; unfold maxLen; omega
    case c4 => have := H.out.2.1; omega
    case c5 => simp
    intro v' w' hown hg
    have hb := Below.grownOf ((Below.refl w.heap.size w).alloc (Nat.le_refl _) (.cells #[] 5)) (World.ownsRow_lit (base := w.heap.size) (size := 1) w #[] 0 (Nat.le_refl _) (by unfold maxLen; omega) rfl) hg (by simp)
    have Hb := Lib.hid hb
    have Ho := Lib.hid hown
    clear hb hown hg
    go_wp2
    go_ret
    exact ⟨_, rfl, by have := Ho.out; have h1 := H.out.1; subst h1; simpa [Ow] using this, Hb.out⟩
end Go.Proofs.Ytjoddepnopbioaa
