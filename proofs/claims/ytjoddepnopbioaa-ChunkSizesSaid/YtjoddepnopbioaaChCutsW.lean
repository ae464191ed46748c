/-
  The walk of regattalaw20.ChunkCuts.
-/
import Derived.Test.YtjoddepnopbioaaChE
namespace Go.Proofs.Ytjoddepnopbioaa
open Go.RowKit Go.Maps
set_option linter.unusedVariables false
set_option linter.unusedSimpArgs false

theorem parts_cases (n : Nat) (s : Int) : (∃ m s' : Nat, parts n s = ((m : Int), 0) ∧ s = (s' : Int) ∧ 1 ≤ s' ∧ s' ≤ 32768 ∧ 1 ≤ m ∧ m ≤ 1024 ∧ (∀ i : Nat, i < m → i * s' ≤ n) ∧ n ≤ m * s' ∧ (0 < n → (m - 1) * s' < n)) ∨ ∃ e, e ≠ 0 ∧ parts n s = (0, e) := by
  by_cases h1 : s < 1 ∨ s > 32768
  · exact .inr ⟨2, by omega, parts_bad (by omega)⟩
  · obtain ⟨s', rfl⟩ : ∃ s' : Nat, s = s' := ⟨s.toNat, by omega⟩
    by_cases h0 : n = 0
    · subst h0
      refine .inl ⟨1, s', parts_zero (by omega) (by omega), rfl, by omega, by omega, by omega, by omega, ?_, by omega, by omega⟩
      intro i hi
      obtain rfl : i = 0 := by omega
      simp
    · by_cases h2 : 1024 < ((n : Int) - 1) / s' + 1
      · exact .inr ⟨200, by omega, parts_many (by omega) (by omega) (by omega) h2⟩
      · have hs : 0 < s' := by omega
        have e : ((n : Int) - 1) / s' = ((n - 1) / s' : Nat) := by
          rw [Int.natCast_ediv]; congr 1; omega
        have d1 := Nat.div_add_mod (n - 1) s'
        have d2 := Nat.mod_lt (n - 1) hs
        rw [e] at h2
        generalize hq : (n - 1) / s' = q at *
        generalize (n - 1) % s' = r at *
        refine .inl ⟨q + 1, s', ?_, rfl, by omega, by omega, by omega, by omega, fun i hi => ?_, ?_, fun _ => ?_⟩
        · rw [parts_ok (by omega) (by omega) (by omega) (by rw [e]; omega), e]; simp
        · have h3 : i * s' ≤ q * s' := Nat.mul_le_mul_right _ (by omega)
          rw [Nat.mul_comm s'] at d1
          omega
        · rw [Nat.add_mul, Nat.mul_comm _ s']; omega
        · rw [Nat.add_sub_cancel, Nat.mul_comm]; omega

set_option maxHeartbeats 1600000 in
set_option maxRecDepth 100000 in
theorem cuts_walk (a0 : Option Addr) (n c : Nat) (l : List Int) (a1 a2 : Int) (w : World) (hd : n ≤ 3000 → Rd w .u8 a0 n l) (hnone : a0 = none → c = 0) (hc : n ≤ c) (hcm : c ≤ maxLen) (h2 : a2 ≤ 9223372036854775807) :
    Calls Try.prog 3 #[.slice a0 n c, .int .i64 a1, .int .i64 a2] w fun e w' => e = .returned (.bool true) ∧ Below w.heap.size w w' := by
  have hml : c ≤ 9223372036854775807 := by unfold maxLen at hcm; exact hcm
  by_cases hn : 3000 < n
  · clear hd hnone
    go_enter Try.func3, Try.ntmps3
    go_wp2_with (go_at_call 8; refine (awake_any _).mono ?_; rintro e w1 ⟨rfl, hb⟩)
    go_ret
    exact ⟨rfl, hb⟩
  have Hd := Lib.hid (hd (by omega)); clear hd
  have Hcm := Lib.hid hcm; clear hcm
  have Hnone := Lib.hid hnone; clear hnone
  rcases parts_cases n a1 with ⟨m, s', hok, rfl, hs0, hs1, hm0, hm1, hfrom, hnm, _⟩ | ⟨e0, he0, hbad⟩
  · have Hok := Lib.hid hok
    have HR := Lib.hid (fun w => RParts_any n (s' : Int) w (by omega))
    rw [hok] at HR
    clear hok
    have Hfrom := Lib.hid hfrom; clear hfrom
    go_enter Try.func3, Try.ntmps3
    go_wp2_with fail
    refine (awake_any _).mono ?_
    rintro e w1 ⟨rfl, hb1⟩
    have Hb1 := Lib.hid hb1; clear hb1
    go_wp2_with fail
    refine (Parts_any _ _ _ h2).mono ?_
    rintro e w2 ⟨rfl, rfl⟩
    go_wp2_with fail
    refine (RParts_any _ _ _ h2).mono ?_
    rintro e w2 ⟨rfl, rfl⟩
    go_wp2_with fail
    ((with_reducible refine (Cut_any _ _ _ l _ _ (Hd.out.kept Hb1.out) Hnone.out hc Hcm.out m Hok.out (by omega) s' rfl hs0 hs1 Hfrom.out).mono ?_))
    rintro e w2 ⟨v, xs, rfl, hrow, hos, hb2⟩
    obtain ⟨al, cl, rfl, _, _⟩ := ownsRow_form hrow
    have Hrow := Lib.hid hrow
    have Hos := Lib.hid hos
    have Hb2 := Lib.hid (Hb1.out.trans (hb2.mono Hb1.out.size))
    clear hrow hos hb2
    go_wp2_with fail
    refine (HR.out _).mono ?_
    rintro e w3 ⟨rfl, rfl⟩
    go_wp2
    go_loopw [66] (fun i wr => ∃ k : Nat, k ≤ m ∧ i = .int .i64 k ∧ Hid (Below w2.heap.size w2 wr)) (fun i _ => m - (intOf i).toNat)
    case atStart => exact ⟨0, Nat.zero_le _, rfl, Below.refl _ _⟩
    case round =>
      obtain ⟨k, hk, rfl, hbr⟩ := hrel
      by_cases hlt : k < m
      · obtain ⟨g, rfl, _, _, hcell, _⟩ := ownsRow_at (ownsRow_kept Hrow.out hbr.out) hlt
        have hown := (Hos.out.kept hbr.out).2 k (by simpa [pieces] using hlt)
        obtain ⟨ak, ck, hxk, _, _⟩ := ownsRow_form hown
        have hpk : (pieces l s' m)[k]?.getD [] = piece l s' k := by simp [pieces, hlt]
        rw [hxk] at hown
        rw [hpk] at hown hxk
        have hlx := Hrow.out.1
        have hxs : xs[k]? = some (.slice ak (piece l s' k).length ck) := by
          have h3 : k < xs.length := by omega
          rw [List.getElem?_eq_getElem h3] at hxk ⊢
          simpa using hxk
        rw [hxs] at hcell
        have hpl : (piece l s' k).length ≤ 32768 := by unfold piece; simp; omega
        have Hp := Lib.hid (Ow.rd hown (by omega))
        clear hxs hlx hown hxk hpk
        have hks : k * s' ≤ 100000000 := by
          have := Hfrom.out k hlt
          omega
        go_wp2_with fail
        ((with_reducible refine (Part_any _ _ _ l s' k (k * s') _ ((Hd.out.kept Hb2.out).kept hbr.out) rfl hks hs1 (by omega)).mono ?_))
        rintro e w4 ⟨v4, rfl, ho4, hb4⟩
        obtain ⟨a4, c4, rfl, _, _⟩ := ownsRow_form ho4
        have Ho4 := Lib.hid (Ow.rd ho4 (by omega))
        have Hb4 := Lib.hid hb4
        clear ho4 hb4
        go_wp2_with fail
        ((with_reducible refine (Same_any _ _ _ _ _ _ _ _ _ (Hp.out.kept Hb4.out) Ho4.out).mono ?_))
        rintro e w5 ⟨rfl, hq5⟩
        have Hb5 := Lib.hid (hbr.out.trans ((Hb4.out.trans (hq5.below _)).mono hbr.out.size))
        clear hq5
        go_wp2
        go_roundw
        case rel => exact ⟨k + 1, by omega, by go_num, Hb5.out⟩
        case measure => simp [intOf]; omega
      · obtain rfl : k = m := by omega
        have Hfin := Lib.hid (Hb2.out.trans (hbr.out.mono Hb2.out.size))
        go_wp2
        go_ret
        exact ⟨rfl, Hfin.out⟩
  · have Hok := Lib.hid hbad
    have HR := Lib.hid (fun w => RParts_any n a1 w (by omega))
    rw [hbad] at HR
    have He := Lib.hid he0
    clear hbad he0
    go_enter Try.func3, Try.ntmps3
    go_wp2_with fail
    refine (awake_any _).mono ?_
    rintro e w1 ⟨rfl, hb1⟩
    have Hb1 := Lib.hid hb1; clear hb1
    go_wp2_with fail
    refine (Parts_any _ _ _ h2).mono ?_
    rintro e w2 ⟨rfl, rfl⟩
    go_wp2_with fail
    refine (RParts_any _ _ _ h2).mono ?_
    rintro e w2 ⟨rfl, rfl⟩
    go_wp2_with fail
    ((with_reducible refine (Cut_bad _ _ _ _ _ (by omega) _ He.out _ Hok.out).mono ?_))
    rintro e w2 ⟨rfl, rfl⟩
    go_wp2_with fail
    refine (HR.out _).mono ?_
    rintro e w3 ⟨rfl, rfl⟩
    go_wp2
    go_loopw [66] (fun i wr => i = .int .i64 0 ∧ Hid (Below w.heap.size w wr)) (fun _ _ => 0)
    case atStart => exact ⟨rfl, Hb1.out⟩
    case round =>
      obtain ⟨rfl, hbr⟩ := hrel
      go_wp2
      go_ret
      exact ⟨rfl, hbr.out⟩
end Go.Proofs.Ytjoddepnopbioaa
