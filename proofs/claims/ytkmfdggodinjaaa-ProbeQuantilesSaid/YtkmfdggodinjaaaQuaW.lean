/-
  The walk of regattalaw29.ProbeQuantiles.
-/
import Derived.Test.YtkmfdggodinjaaaSprD
import Derived.Test.YtkmfdggodinjaaaSrtB
import Derived.Test.YtkmfdggodinjaaaSrtC
import Derived.Test.YtkmfdggodinjaaaHisW
namespace Go.Proofs.Ytkmfdggodinjaaa
open Go.RowKit
set_option linter.unusedVariables false
set_option linter.unusedSimpArgs false

theorem placeq_ex {n : Nat} {x d : Int} (h0 : 0 < n) (hd : 0 < d) (h1 : 0 ≤ x) (h2 : x ≤ d) : ∃ k : Nat, (x * ((n : Int) - 1)).tdiv d = (k : Int) ∧ k < n := by
  have hp : 0 ≤ x * ((n : Int) - 1) := Int.mul_nonneg (by omega) (by omega)
  have hq : x * ((n : Int) - 1) ≤ ((n : Int) - 1) * d := by rw [Int.mul_comm ((n : Int) - 1) d]; exact Int.mul_le_mul_of_nonneg_right h2 (by omega)
  have h3 : 0 ≤ x * ((n : Int) - 1) / d := Int.ediv_nonneg hp (by omega)
  have h4 : x * ((n : Int) - 1) / d ≤ (n : Int) - 1 := Int.ediv_le_of_le_mul hd hq
  refine ⟨(x * ((n : Int) - 1) / d).toNat, ?_, ?_⟩
  · rw [Int.tdiv_eq_ediv_of_nonneg hp, Int.toNat_of_nonneg h3]
  · generalize x * ((n : Int) - 1) / d = q at *
    omega
theorem ow_nilQ {w : World} {B : Nat} {E : TypeId} {a : Option Addr} {n c m : Nat} {xs : List Value} (h : w.ownsRow B E 1 (.slice a n c) m xs) : a = none → c = 0 := by
  rcases h.2 with ⟨e, _⟩ | ⟨g, cap, cur, e, _⟩
  · cases e; exact fun _ => rfl
  · cases e; intro h; cases h

def badQ (num den : Int) : Prop := den < 1 ∨ ¬ den < 1 ∧ 1000 < den ∨ ¬ den < 1 ∧ ¬ 1000 < den ∧ num < 0 ∨ ¬ den < 1 ∧ ¬ 1000 < den ∧ ¬ num < 0 ∧ den < num

theorem quant_cases (n : Nat) (l : List Int) (num den : Int) (hn : n ≤ 300) (hll : l.length = n) : ∃ xv ev : Int,
    (∀ a' c' w', Rd w' .i64 a' n l → (a' = none → c' = 0) → Calls Try.prog 17 #[.slice a' n c', .int .i64 num, .int .i64 den] w' fun e w'' => e = .returned (.tuple #[.int .i64 xv, .int .i64 ev]) ∧ Below w'.heap.size w' w'') ∧
    (n = 0 ∧ xv = 0 ∧ ev = 40 ∨ 0 < n ∧ badQ num den ∧ xv = 0 ∧ ev = 2 ∨ 0 < n ∧ ¬ den < 1 ∧ ¬ 1000 < den ∧ ¬ num < 0 ∧ ¬ den < num ∧ ev = 0 ∧ ∃ k : Nat, k < n ∧ (num * ((n : Int) - 1)).tdiv den = (k : Int) ∧ xv = (sortI l)[k]?.getD 0) := by
  rcases Nat.eq_zero_or_pos n with h0 | h0
  · subst h0
    exact ⟨0, 40, fun a' c' w' _ _ => (Quantile_none a' c' num den w').mono (by rintro e w'' ⟨rfl, rfl⟩; exact ⟨rfl, Below.refl _ _⟩), .inl ⟨rfl, rfl, rfl⟩⟩
  · by_cases hbad : badQ num den
    · exact ⟨0, 2, fun a' c' w' _ _ => (Quantile_bad a' n c' num den w' h0 hn hbad).mono (by rintro e w'' ⟨rfl, rfl⟩; exact ⟨rfl, Below.refl _ _⟩), .inr (.inl ⟨h0, hbad, rfl, rfl⟩)⟩
    · have hg : ¬ den < 1 ∧ ¬ 1000 < den ∧ ¬ num < 0 ∧ ¬ den < num := by unfold badQ at hbad; omega
      obtain ⟨k, hk, hkn⟩ := placeq_ex (x := num) (d := den) h0 (by omega) (by omega) (by omega)
      exact ⟨_, 0, fun a' c' w' hr hnil => Quantile_any a' n c' l num den k w' hr hnil h0 hn hg.1 hg.2.1 hg.2.2.1 hg.2.2.2 hk hkn, .inr (.inr ⟨h0, hg.1, hg.2.1, hg.2.2.1, hg.2.2.2, rfl, k, hkn, hk, rfl⟩)⟩

set_option maxHeartbeats 4000000 in
set_option maxRecDepth 100000 in
theorem quant_walk (a : Option Addr) (n c : Nat) (l : List Int) (num den : Int) (w : World) (hL : InRowP w a n c l) (ix : I64 num) (iy : I64 den) :
    Calls Try.prog 5 #[.slice a n c, .int .i64 num, .int .i64 den] w fun e w' => e = .returned (.bool true) ∧ Below w.heap.size w w' := by
  have hnm : n ≤ 9223372036854775807 := by have := hL.nc; have := hL.cm; omega
  have HAw := Lib.hid (fun w => awake_any w)
  by_cases h300 : n ≤ 300
  · have hn3 : ¬ ((300 : Int) < (n : Int)) := by omega
    have hr := hL.rd (by omega)
    have hll : l.length = n := hr.1
    obtain ⟨xv, ev, hq, hfin⟩ := quant_cases n l num den h300 hll
    have HQ := Lib.hid hq
    have Hfin := Lib.hid hfin
    have Hll := Lib.hid hll
    have HL := Lib.hid (fun w' (hb : Below w.heap.size w w') => hr.kept hb)
    have HPl0 := Lib.hid (fun w' (hb : Below w.heap.size w w') => Plain_any a n c l w' (hr.kept hb) (by omega))
    have Hnil := Lib.hid hL.nil
    clear hL hr hq hfin hll ix iy
    go_enter Try.func5, Try.ntmps5
    go_wp2_with fail
    ((with_reducible refine (HAw.out _).mono ?_); rintro e w1 ⟨rfl, hb1⟩)
    have Hb1 := Lib.hid hb1
    clear hb1 HAw
    have hbs : w.heap.size ≤ w1.heap.size := Hb1.out.size
    go_wp2_with (at_builtin; refine wpl_appN eFs rfl _ _ rfl w1.heap.size _ 0 [] rfl (World.ownsRow_lit _ #[] 0 (Nat.le_refl _) (by unfold maxLen; omega) rfl) .i64 _ _ _ l rfl ?c1 ?c2 ?c3 ?c4 ?c5 ?_)
    case c1 => exact HL.out _ (Hb1.out.alloc hbs _)
    case c2 => exact Hnil.out
    case c3 => unfold maxLen; omega
    case c4 => omega
    case c5 => simp
    intro v' w2 hown hg
    have hb2 := Below.grownOf ((Below.refl w1.heap.size w1).alloc (Nat.le_refl _) (.cells #[] 23)) (World.ownsRow_lit (base := w1.heap.size) (size := 1) w1 #[] 0 (Nat.le_refl _) (by unfold maxLen; omega) rfl) hg (by simp)
    have Hb2 := Lib.hid (Hb1.out.trans (hb2.mono hbs))
    have hown' : w2.ownsRow w1.heap.size 23 1 v' n (l.map (Value.int .i64)) := by simpa using hown
    clear hown hg hb2
    obtain ⟨a', c', rfl, hnc, -⟩ := ownsRow_form hown'
    have hnil := ow_nilQ hown'
    have hr2 := Ow.rd (Ow.of hown') (by omega)
    have HQ2 := Lib.hid (HQ.out a' c' w2 hr2 hnil)
    have HR2 := Lib.hid (fun w' (hb : Below w2.heap.size w2 w') => hr2.kept hb)
    clear hown' hnil hr2 hnc
    go_wp2_with fail
    ((with_reducible refine HQ2.out.mono ?_); rintro e w3 ⟨rfl, hb3⟩)
    have HR3 := Lib.hid (HR2.out _ hb3)
    have Hb3 := Lib.hid (Hb2.out.trans (hb3.mono Hb2.out.size))
    clear hb3 HQ2 HR2 HQ
    go_wp2
    go_loopw [28] (fun jv wr => ∃ k : Nat, k ≤ n ∧ jv = .int .i64 k ∧ Hid (Drew w3 wr)) (fun jv _ => n - (intOf jv).toNat)
    case atStart => exact ⟨0, Nat.zero_le _, rfl, Drew.refl _⟩
    case round =>
      obtain ⟨k, hk, rfl, hwr⟩ := hrel
      obtain ⟨nd, rfl⟩ := hwr.out
      by_cases hlt : k < n
      · obtain ⟨ba, oa, rfl, hba, hca⟩ := HR3.out.at hlt
        obtain ⟨bb, ob, rfl, hbb, hcb⟩ := (HL.out _ Hb3.out).at hlt
        generalize l[k]?.getD 0 = z at *
        have hk0 : (0 : Int) ≤ (k : Int) := by omega
        have hkn : (k : Int) < (n : Int) := by omega
        go_wp2
        go_quiet (fail)
        go_wp2
        go_roundw
        case rel => exact ⟨k + 1, by omega, by go_num, Lib.hid ((Drew.refl _).drewN _)⟩
        case measure => first | (simp [intOf]; done) | (simp [intOf]; omega)
      · have hke : n = k := by omega
        subst hke
        rcases Hfin.out with ⟨rfl, rfl, rfl⟩ | ⟨h0, hbad, rfl, rfl⟩ | ⟨h0, g1, g2, g3, g4, rfl, k, hkn, hkd, rfl⟩
        · go_wp2
          go_ret
          exact ⟨rfl, Below.drewN Hb3.out _⟩
        · have hne : ((n : Int) == 0) = false := by simpa using (by omega : ¬ (n : Int) = 0)
          rcases hbad with k1 | ⟨k1, k2⟩ | ⟨k1, k2, k3⟩ | ⟨k1, k2, k3, k4⟩
          all_goals
            go_wp2
            go_ret
            exact ⟨rfl, Below.drewN Hb3.out _⟩
        · have hne : ((n : Int) == 0) = false := by simpa using (by omega : ¬ (n : Int) = 0)
          have Hb4 : Hid (Below w.heap.size w (w3.drewN nd)) := Lib.hid (Below.drewN Hb3.out _)
          generalize w3.drewN nd = wr at *
          have HPl := Lib.hid (fun w' (hb : Below wr.heap.size wr w') => HPl0.out w' (Hb4.out.trans (hb.mono Hb4.out.size)))
          have HAt := Lib.hid (fun a5 c5 w' (h : Rd w' .i64 a5 n l) => At_any a5 n c5 l k w' h (by omega) hkn)
          have hp1 : 0 ≤ num * ((n : Int) - 1) ∧ num * ((n : Int) - 1) ≤ 1000 * 300 := ⟨Int.mul_nonneg (by omega) (by omega), Int.mul_le_mul (by omega) (by omega) (by omega) (by omega)⟩
          have hw1 : IntKind.i64.wrap ((n : Int) - 1) = (n : Int) - 1 := by rw [IntKind.wrap_i64]; omega
          have hw2 : IntKind.i64.wrap (num * ((n : Int) - 1)) = num * ((n : Int) - 1) := by rw [IntKind.wrap_i64]; omega
          have hw3 : IntKind.i64.wrap (k : Int) = (k : Int) := by rw [IntKind.wrap_i64]; omega
          have hd0 : ¬ den = 0 := by omega
          clear hp1 HPl0
          generalize (sortI l)[k]?.getD 0 = X at *
          go_wp2
          refine wp_region_held_drew (S := fun _ => True) (by kernel_rfl) trivial (fun _ => ?_)
          refine tkW (v := ?_) 0 rfl (by kernel_rfl) (by kernel_rfl) (by kernel_rfl) (fun _ _ _ h => h) (by rfl) trivial ?_ ?_
          rotate_left
          · intro w' hSw; go_simp; (try with_reducible rfl)
          (try simp only [Act.put, List.setIfInBounds_toArray, List.set_cons_zero, List.set_cons_succ])
          refine tkW (v := .bool true) 1 rfl (by kernel_rfl) (by kernel_rfl) (by kernel_rfl) (fun _ _ _ h => h) (by rfl) trivial ?_ ?_
          · intro w' hSw; go_simp; (try with_reducible rfl)
          (try simp only [Act.put, List.setIfInBounds_toArray, List.set_cons_zero, List.set_cons_succ])
          refine tkW (v := .bool true) 2 rfl (by kernel_rfl) (by kernel_rfl) (by kernel_rfl) (fun _ _ _ h => h) (by rfl) trivial ?_ ?_
          · intro w' hSw; go_simp; (try with_reducible rfl)
          (try simp only [Act.put, List.setIfInBounds_toArray, List.set_cons_zero, List.set_cons_succ])
          refine tkW (v := ?_) 3 rfl (by kernel_rfl) (by kernel_rfl) (by kernel_rfl) (fun _ _ _ h => h) (by rfl) trivial ?_ ?_
          rotate_left
          · intro w' hSw; go_simp; (try with_reducible rfl)
          (try simp only [Act.put, List.setIfInBounds_toArray, List.set_cons_zero, List.set_cons_succ])
          refine tkW (v := ?_) 4 rfl (by kernel_rfl) (by kernel_rfl) (by kernel_rfl) (fun _ _ _ h => h) (by rfl) trivial ?_ ?_
          rotate_left
          · intro w' hSw; go_simp; (try with_reducible rfl)
          (try simp only [Act.put, List.setIfInBounds_toArray, List.set_cons_zero, List.set_cons_succ])
          refine tkW (v := ?_) 6 rfl (by kernel_rfl) (by kernel_rfl) (by kernel_rfl) (fun _ _ _ h => h) (by rfl) trivial ?_ ?_
          rotate_left
          · intro w' hSw; go_simp; (try with_reducible rfl)
          (try simp only [Act.put, List.setIfInBounds_toArray, List.set_cons_zero, List.set_cons_succ])
          refine tkW (v := ?_) 7 rfl (by kernel_rfl) (by kernel_rfl) (by kernel_rfl) (fun _ _ _ h => h) (by rfl) trivial ?_ ?_
          rotate_left
          · intro w' hSw; go_simp; (try with_reducible rfl)
          (try simp only [Act.put, List.setIfInBounds_toArray, List.set_cons_zero, List.set_cons_succ])
          refine tkW (v := ?_) 8 rfl (by kernel_rfl) (by kernel_rfl) (by kernel_rfl) (fun _ _ _ h => h) (by rfl) trivial ?_ ?_
          rotate_left
          · intro w' hSw; go_simp; (try with_reducible rfl)
          (try simp only [Act.put, List.setIfInBounds_toArray, List.set_cons_zero, List.set_cons_succ])
          refine tkW (v := ?_) 9 rfl (by kernel_rfl) (by kernel_rfl) (by kernel_rfl) (fun _ _ _ h => h) (by rfl) trivial ?_ ?_
          rotate_left
          · intro w' hSw; go_simp; (try with_reducible rfl)
          (try simp only [Act.put, List.setIfInBounds_toArray, List.set_cons_zero, List.set_cons_succ])
          refine tkW (v := ?_) 10 rfl (by kernel_rfl) (by kernel_rfl) (by kernel_rfl) (fun _ _ _ h => h) (by rfl) trivial ?_ ?_
          rotate_left
          · intro w' hSw; go_simp; (try with_reducible rfl)
          (try simp only [Act.put, List.setIfInBounds_toArray, List.set_cons_zero, List.set_cons_succ])
          refine tkW (v := ?_) 11 rfl (by kernel_rfl) (by kernel_rfl) (by kernel_rfl) (fun _ _ _ h => h) (by rfl) trivial ?_ ?_
          rotate_left
          · intro w' hSw; go_simp; (try with_reducible rfl)
          (try simp only [Act.put, List.setIfInBounds_toArray, List.set_cons_zero, List.set_cons_succ])
          refine tkW (v := ?_) 12 rfl (by kernel_rfl) (by kernel_rfl) (by kernel_rfl) (fun _ _ _ h => h) (by rfl) trivial ?_ ?_
          rotate_left
          · intro w' hSw; go_simp; (try with_reducible rfl)
          (try simp only [Act.put, List.setIfInBounds_toArray, List.set_cons_zero, List.set_cons_succ])
          refine tkC 5 rfl (by kernel_rfl) (by rfl) (fun KK hK => ?_)
          go_simp
          (go_at_call 12; refine (HPl.out _ (Below.drew (Below.refl _ _))).mono ?_; rintro e w5 ⟨v5, rfl, ho5, hb5⟩)
          have hb5d : Below wr.heap.size wr w5 := Below.trans (Below.drew (Below.refl _ _)) hb5
          unfold Ow at ho5
          rw [Hll.out] at ho5
          obtain ⟨a5, c5, rfl, _, _⟩ := ownsRow_form ho5
          have hr5 := Ow.rd (n := n) (a := a5) (c := c5) (Ow.of ho5) (by omega)
          (try dsimp only)
          refine hK.out _ _ trivial (fun _ => ?_)
          clear hK KK
          (try simp only [Act.put, List.setIfInBounds_toArray, List.set_cons_zero, List.set_cons_succ])
          refine tkC 13 rfl (by kernel_rfl) (by rfl) (fun KK hK => ?_)
          go_simp
          (go_at_call 18; refine (HAt.out _ _ _ hr5).mono ?_; rintro e w6 ⟨rfl, ⟨nd6, rfl⟩⟩)
          have hb6d : Below wr.heap.size wr (w5.drewN nd6) := Go.Proofs.Ytkmfdggodinjaaa.Below.drewN hb5d _
          (try dsimp only)
          refine hK.out _ _ trivial (fun _ => ?_)
          clear hK KK
          (try simp only [Act.put, List.setIfInBounds_toArray, List.set_cons_zero, List.set_cons_succ])
          refine tkW (v := .bool true) 14 rfl (by kernel_rfl) (by kernel_rfl) (by kernel_rfl) (fun _ _ _ h => h) (by rfl) trivial ?_ ?_
          · intro w' hSw; go_simp; (try with_reducible rfl)
          (try simp only [Act.put, List.setIfInBounds_toArray, List.set_cons_zero, List.set_cons_succ])
          refine tkW (v := ?_) 15 rfl (by kernel_rfl) (by kernel_rfl) (by kernel_rfl) (fun _ _ _ h => h) (by rfl) trivial ?_ ?_
          rotate_left
          · intro w' hSw; go_simp; (try with_reducible rfl)
          (try simp only [Act.put, List.setIfInBounds_toArray, List.set_cons_zero, List.set_cons_succ])
          refine tkW (v := ?_) 16 rfl (by kernel_rfl) (by kernel_rfl) (by kernel_rfl) (fun _ _ _ h => h) (by rfl) trivial ?_ ?_
          rotate_left
          · intro w' hSw; go_simp; (try with_reducible rfl)
          (try simp only [Act.put, List.setIfInBounds_toArray, List.set_cons_zero, List.set_cons_succ])
          refine wpAnyH_done (by kernel_rfl) ?_ _
          go_wp2
          go_ret
          exact ⟨rfl, Hb4.out.trans (hb6d.mono Hb4.out.size)⟩
  · have hn3 : (300 : Int) < (n : Int) := by omega
    clear hL
    go_enter Try.func5, Try.ntmps5
    go_wp2_with fail
    ((with_reducible refine (HAw.out _).mono ?_); rintro e w1 ⟨rfl, hb1⟩)
    have Hb1 := Lib.hid hb1
    clear hb1
    go_wp2
    go_ret
    exact ⟨rfl, Hb1.out⟩
end Go.Proofs.Ytkmfdggodinjaaa
