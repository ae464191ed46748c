/-
  The walk of regattalaw20.ChunkSizes.
-/
import Derived.Test.YtjoddepnopbioaaChCutsW
namespace Go.Proofs.Ytjoddepnopbioaa
open Go.RowKit Go.Maps
set_option linter.unusedVariables false
set_option linter.unusedSimpArgs false

theorem take_piece (l : List Int) (s k : Nat) : l.take (k * s) ++ piece l s k = l.take ((k + 1) * s) := by
  unfold piece
  rw [Nat.add_mul, Nat.one_mul, List.take_add]

set_option maxHeartbeats 1600000 in
set_option maxRecDepth 100000 in
theorem sizes_walk (a0 : Option Addr) (n c : Nat) (l : List Int) (a1 : Int) (w : World) (hd : n ≤ 3000 → Rd w .u8 a0 n l) (hnone : a0 = none → c = 0) (hc : n ≤ c) (hcm : c ≤ maxLen) :
    Calls Try.prog 4 #[.slice a0 n c, .int .i64 a1] w fun e w' => e = .returned (.bool true) ∧ Below w.heap.size w w' := by
  have hml : c ≤ 9223372036854775807 := by unfold maxLen at hcm; exact hcm
  by_cases hn : 3000 < n
  · clear hd hnone
    go_enter Try.func4, Try.ntmps4
    go_wp2_with (go_at_call 8; refine (awake_any _).mono ?_; rintro e w1 ⟨rfl, hb⟩)
    go_ret
    exact ⟨rfl, hb⟩
  have Hd := Lib.hid (hd (by omega)); clear hd
  have Hcm := Lib.hid hcm; clear hcm
  have Hnone := Lib.hid hnone; clear hnone
  rcases parts_cases n a1 with ⟨m, s', hok, rfl, hs0, hs1, hm0, hm1, hfrom, hnm, hlast⟩ | ⟨e0, he0, hbad⟩
  · have Hok := Lib.hid hok
    have HR := Lib.hid (fun w => Parts_any n (s' : Int) w (by omega))
    rw [hok] at HR
    clear hok
    have Hfrom := Lib.hid hfrom; clear hfrom
    have Hlast := Lib.hid hlast; clear hlast
    have Hnm := Lib.hid hnm; clear hnm
    go_enter Try.func4, Try.ntmps4
    go_wp2_with fail
    refine (awake_any _).mono ?_
    rintro e w1 ⟨rfl, hb1⟩
    have Hb1 := Lib.hid hb1; clear hb1
    go_wp2_with fail
    ((with_reducible refine (Cut_any _ _ _ l _ _ (Hd.out.kept Hb1.out) Hnone.out hc Hcm.out m Hok.out (by omega) s' rfl hs0 hs1 Hfrom.out).mono ?_))
    rintro e w2 ⟨v, xs, rfl, hrow, hos, hb2⟩
    obtain ⟨al, cl, rfl, _, _⟩ := ownsRow_form hrow
    have Hrow := Lib.hid hrow
    have Hos := Lib.hid hos
    have Hb2 := Lib.hid (Hb1.out.trans (hb2.mono Hb1.out.size))
    clear hrow hos hb2
    go_wp2_with fail
    refine (HR.out _).mono ?_
    rintro e w3 ⟨rfl, rfl⟩
    go_wp2
    go_loopw [9, 54] (fun v i wr => ∃ k : Nat, k ≤ m ∧ i = .int .i64 k ∧ Hid (Ow wr w2.heap.size 5 .u8 v (l.take (k * s'))) ∧ Hid (Below w2.heap.size w2 wr)) (fun _ i _ => m - (intOf i).toNat)
    case atStart => exact ⟨0, Nat.zero_le _, rfl, (show Ow w2 w2.heap.size 5 .u8 _ _ by simpa [Ow] using (World.ownsRow_nil w2 w2.heap.size 5 1)), Below.refl _ _⟩
    case round =>
      obtain ⟨k, hk, rfl, hall, hbr⟩ := hrel
      by_cases hlt : k < m
      · obtain ⟨g, rfl, _, _, hcell, _⟩ := ownsRow_at (ownsRow_kept Hrow.out hbr.out) hlt
        have hown := (Hos.out.kept hbr.out).2 k (by simpa [pieces] using hlt)
        obtain ⟨ak, ck, hxk, hck, _⟩ := ownsRow_form hown
        have hpk : (pieces l s' m)[k]?.getD [] = piece l s' k := by simp [pieces, hlt]
        rw [hxk] at hown
        rw [hpk] at hown hxk hck
        have hlx := Hrow.out.1
        have hxs : xs[k]? = some (.slice ak (piece l s' k).length ck) := by
          have h3 : k < xs.length := by omega
          rw [List.getElem?_eq_getElem h3] at hxk ⊢
          simpa using hxk
        rw [hxs] at hcell
        have hll := Hd.out.1
        have hplen : (piece l s' k).length = min s' (n - k * s') := by unfold piece; simp [hll]
        have hmul : (k + 1) * s' = k * s' + s' := by rw [Nat.add_mul, Nat.one_mul]
        have hL1 : k + 1 < m → (piece l s' k).length = s' := fun h => by
          have := Hfrom.out (k + 1) h
          omega
        have hL2 : (piece l s' k).length ≤ s' := by omega
        have hL3 : 0 < n → 0 < (piece l s' k).length := fun h => by
          have h1 := Hlast.out h
          have h2 : k * s' ≤ (m - 1) * s' := Nat.mul_le_mul_right _ (by omega)
          omega
        have hnone' : ak = none → ck = 0 := by
          rintro rfl
          rcases hown.2 with ⟨e, _⟩ | ⟨g, cap, cur, e, _⟩
          · simp only [Value.slice.injEq] at e; exact e.2.2
          · simp at e
        have Htp := Lib.hid (take_piece l s' k)
        have Hp := Lib.hid (Ow.rd hown (by omega))
        have Hnone' := Lib.hid hnone'
        have Htl := Lib.hid (show (l.take (k * s')).length ≤ 3000 by simp [hll]; omega)
        clear hxs hlx hown hxk hpk hnone' hplen hmul hll
        generalize hLdef : (piece l s' k).length = L at *
        have HLd := Lib.hid hLdef; clear hLdef
        have Hsz := Lib.hid hbr.out.size
        have hcase : (k + 1 < m ∧ L = s' ∧ 0 < n ∧ 0 < L) ∨ (¬ k + 1 < m ∧ 0 < n ∧ 0 < L) ∨ (¬ k + 1 < m ∧ n ≤ 0 ∧ L ≤ 0) := by
          by_cases h1 : k + 1 < m
          · refine .inl ⟨h1, hL1 h1, ?_, ?_⟩
            · have := Hfrom.out (k + 1) h1
              have h2 : s' ≤ (k + 1) * s' := Nat.le_mul_of_pos_left _ (by omega)
              omega
            · have := hL1 h1; omega
          · by_cases h0 : 0 < n
            · exact .inr (.inl ⟨h1, h0, hL3 h0⟩)
            · have : L ≤ 0 := by
                have h3 := Hp.out.1
                have h4 := HLd.out
                have : (piece l s' k).length ≤ l.length := by unfold piece; simp; omega
                have h5 := Hd.out.1
                omega
              exact .inr (.inr ⟨h1, by omega, this⟩)
        clear hL1 hL3
        rcases hcase with ⟨h1, rfl, h0, hL⟩ | ⟨h1, h0, hL⟩ | ⟨h1, h0, hL⟩
        all_goals
          have hd1 := (show ((m : Int) - 1) = ((m - 1 : Nat) : Int) by omega)
          first
          | (have t1 : ((L : Int) == 0) = false := by (simpa using (by omega : ¬ L = 0)))
          | (have t1 : ((L : Int) == 0) = true := by (simpa using (by omega : L = 0)))
          | (have t1 : ((s' : Int) == 0) = false := by (simpa using (by omega : ¬ s' = 0)))
          go_wp2_with (at_builtin; refine wpl_appN eBs rfl _ _ rfl w2.heap.size _ _ _ rfl hall.out .u8 _ _ _ _ rfl Hp.out Hnone'.out (by have := Htl.out; unfold maxLen; omega) (by have := Htl.out; omega) Hsz.out ?_)
          intro v' w3 hown3 hg3
          have Hb3 := Lib.hid (Below.grownOf hbr.out hall.out hg3 Hsz.out)
          have Ho3 := Lib.hid (Ow.of (k := .u8) (l := l.take _ ++ piece l _ k) (by simpa using hown3))
          clear hown3 hg3
          go_wp2
          go_roundw
          case rel => exact ⟨k + 1, by omega, by go_num, (by rw [← Htp.out]; exact Ho3.out), Hb3.out⟩
          case measure => simp [intOf]; omega
      · obtain rfl : k = m := by omega
        have hfull : l.take (k * s') = l := List.take_of_length_le (by have h1 := Hd.out.1; have h2 := Hnm.out; omega)
        have hall2 := hall.out
        rw [hfull] at hall2
        obtain ⟨av, cv, ev, _, _⟩ := ownsRow_form hall2
        rw [Hd.out.1] at ev
        subst ev
        have Hv := Lib.hid (Ow.rd hall2 (by omega))
        clear hall2
        have Hful := Lib.hid hfull
        clear hfull
        go_wp2_with fail
        ((with_reducible refine (Same_any _ _ _ _ _ _ _ _ _ Hv.out ((Hd.out.kept Hb2.out).kept hbr.out)).mono ?_))
        rintro e w5 ⟨rfl, hq5⟩
        have Hfin := Lib.hid (Hb2.out.trans ((hbr.out.trans (hq5.below _)).mono Hb2.out.size))
        clear hq5
        go_wp2
        go_ret
        exact ⟨ret_bool (by simp), Hfin.out⟩
  · have Hok := Lib.hid hbad
    have HR := Lib.hid (fun w => Parts_any n a1 w (by omega))
    rw [hbad] at HR
    have hne : (e0 == 0) = false := by simpa using he0
    have hne2 : (e0 != 0) = true := by simpa using he0
    have He := Lib.hid he0
    clear hbad he0
    go_enter Try.func4, Try.ntmps4
    go_wp2_with fail
    refine (awake_any _).mono ?_
    rintro e w1 ⟨rfl, hb1⟩
    have Hb1 := Lib.hid hb1; clear hb1
    go_wp2_with fail
    ((with_reducible refine (Cut_bad _ _ _ _ _ (by omega) _ He.out _ Hok.out).mono ?_))
    rintro e w2 ⟨rfl, rfl⟩
    go_wp2_with fail
    refine (HR.out _).mono ?_
    rintro e w3 ⟨rfl, rfl⟩
    go_wp2
    go_ret
    exact ⟨rfl, Hb1.out⟩
end Go.Proofs.Ytjoddepnopbioaa
