/-
  regattaref02: sums of what is above and below 0, apart: what they come to. regattaref04: results taken.
-/
import Derived.Test.YtdamenbpgkhiiaaRefH
import Derived.Test.YtdamenbpgkhiiaaUnitA
namespace Go.Proofs.Ytdamenbpgkhiiaa
open Go.RowKit
set_option linter.unusedVariables false
set_option linter.unusedSimpArgs false

/-- What is above 0 and what is below come to v; neither is above B. -/
def SP (p n v B : Int) : Prop := 0 ≤ p ∧ p ≤ B ∧ 0 ≤ n ∧ n ≤ B ∧ p - n = v
theorem SP.zero : SP 0 0 0 0 := by unfold SP; omega
theorem SP.swap {p n v B : Int} (h : SP p n v B) : SP n p (-v) B := by unfold SP at *; omega
theorem SP.u192 {p n v B : Int} (h : SP p n v B) (hB : B ≤ 1569275433846670190958947355801916604025588861116008628224) : U192 p ∧ U192 n ∧ absN (p - n) < 3138550867693340381917894711603833208051177722232017256448 := by
  unfold SP at h; unfold U192 absN; refine ⟨by omega, by omega, ?_⟩; split <;> omega

theorem absN_mul_bd {a b : Int} (ha : I64 a) (hb : I64 b) : 0 ≤ absN a * absN b ∧ absN a * absN b ≤ 85070591730234615865843651857942052864 := by
  have h1 := absN_bd ha
  have h2 := absN_bd hb
  exact mul_lim h1.1 h2.1 h1.2 h2.2

theorem absN_neg {a : Int} (h : a < 0) : absN a = -a := by unfold absN; rw [if_pos h]
theorem absN_pos {a : Int} (h : ¬ a < 0) : absN a = a := by unfold absN; rw [if_neg h]


theorem bAdd0_sp (p n a v B : Int) (w : World) (h : SP p n v B) (ha : I64 a) :
    Calls Try.prog 69 #[SG p n, .int .i64 a, .int .i64 0] w fun e w' => ∃ p' n', e = .returned (SG p' n') ∧ SP p' n' (v + a) (B + 39614081257132168796771975168) ∧ Below w.heap.size w w' := by
  have hb := absN_bd ha
  by_cases h0 : a < 0
  · refine (bAdd0_neg p n a w ha h0).mono ?_
    rintro e w' ⟨rfl, hw⟩
    refine ⟨_, _, rfl, ?_, hw⟩
    rw [absN_neg h0] at *
    unfold SP at *; unfold I64 at ha
    omega
  · refine (bAdd0_pos p n a w ha h0).mono ?_
    rintro e w' ⟨rfl, hw⟩
    refine ⟨_, _, rfl, ?_, hw⟩
    rw [absN_pos h0] at *
    unfold SP at *; unfold I64 at ha
    omega


theorem bAdd1_sp (p n a v B : Int) (w : World) (h : SP p n v B) (ha : I64 a) :
    Calls Try.prog 69 #[SG p n, .int .i64 a, .int .i64 1] w fun e w' => ∃ p' n', e = .returned (SG p' n') ∧ SP p' n' (v + a * 4294967296) (B + 39614081257132168796771975168) ∧ Below w.heap.size w w' := by
  have hb := absN_bd ha
  by_cases h0 : a < 0
  · refine (bAdd1_neg p n a w ha h0).mono ?_
    rintro e w' ⟨rfl, hw⟩
    refine ⟨_, _, rfl, ?_, hw⟩
    rw [absN_neg h0] at *
    unfold SP at *; unfold I64 at ha
    omega
  · refine (bAdd1_pos p n a w ha h0).mono ?_
    rintro e w' ⟨rfl, hw⟩
    refine ⟨_, _, rfl, ?_, hw⟩
    rw [absN_pos h0] at *
    unfold SP at *; unfold I64 at ha
    omega


theorem SP.up_n {p n v B m : Int} (h : SP p n v B) (h0 : 0 ≤ m) (h1 : m ≤ 85070591730234615865843651857942052864) : SP p (n + m) (v - m) (B + 85070591730234615865843651857942052864) := by unfold SP at *; omega
theorem SP.up_p {p n v B m : Int} (h : SP p n v B) (h0 : 0 ≤ m) (h1 : m ≤ 85070591730234615865843651857942052864) : SP (p + m) n (v + m) (B + 85070591730234615865843651857942052864) := by unfold SP at *; omega
theorem bMul_sp (p n a b v B : Int) (w : World) (h : SP p n v B) (ha : I64 a) (hb : I64 b) :
    Calls Try.prog 70 #[SG p n, .int .i64 a, .int .i64 b] w fun e w' => ∃ p' n', e = .returned (SG p' n') ∧ SP p' n' (v + a * b) (B + 85070591730234615865843651857942052864) ∧ Below w.heap.size w w' := by
  have hm := absN_mul_bd ha hb
  by_cases h1 : a < 0
  · by_cases h2 : b < 0
    · refine (bMulS_nn p n a b w ha hb h1 h2).mono ?_
      rintro e w' ⟨rfl, hw⟩
      refine ⟨_, _, rfl, ?_, hw⟩
      have := h.up_p hm.1 hm.2
      rw [absN_neg h1, absN_neg h2, Int.neg_mul_neg] at *
      exact this
    · refine (bMulS_np p n a b w ha hb h1 h2).mono ?_
      rintro e w' ⟨rfl, hw⟩
      refine ⟨_, _, rfl, ?_, hw⟩
      have := h.up_n hm.1 hm.2
      rw [absN_neg h1, absN_pos h2, Int.neg_mul] at *
      rw [Int.sub_neg] at this
      exact this
  · by_cases h2 : b < 0
    · refine (bMulS_pn p n a b w ha hb h1 h2).mono ?_
      rintro e w' ⟨rfl, hw⟩
      refine ⟨_, _, rfl, ?_, hw⟩
      have := h.up_n hm.1 hm.2
      rw [absN_pos h1, absN_neg h2, Int.mul_neg] at *
      rw [Int.sub_neg] at this
      exact this
    · refine (bMulS_pp p n a b w ha hb h1 h2).mono ?_
      rintro e w' ⟨rfl, hw⟩
      refine ⟨_, _, rfl, ?_, hw⟩
      have := h.up_p hm.1 hm.2
      rw [absN_pos h1, absN_pos h2] at *
      exact this


theorem bRound0_sp (p n v B : Int) (w : World) (h : SP p n v B) (hB : B ≤ 1569275433846670190958947355801916604025588861116008628224) :
    Calls Try.prog 71 #[SG p n, .int .i64 0] w fun e w' => e = .returned (.tuple #[.int .i64 (clampI v), .bool (over v)]) ∧ Below w.heap.size w w' := by
  obtain ⟨u1, u2, u3⟩ := h.u192 hB
  have hr := bRound_any p n 0 w u1 u2 (by omega) u3
  have hd : decide (p < n) = decide (p - n < 0) := by rw [decide_eq_decide]; omega
  have he : sgn (decide (p < n)) (rnd (absN (p - n)) 0) = v := by
    rw [rnd_0, hd, sgn_abs]
    rw [h.2.2.2.2]
  rw [he] at hr
  exact hr


theorem bRound32_sp (p n v B : Int) (w : World) (h : SP p n v B) (hB : B ≤ 1569275433846670190958947355801916604025588861116008628224) :
    Calls Try.prog 71 #[SG p n, .int .i64 32] w fun e w' => e = .returned (.tuple #[.int .i64 (clampI (rne v 4294967296)), .bool (over (rne v 4294967296))]) ∧ Below w.heap.size w w' := by
  obtain ⟨u1, u2, u3⟩ := h.u192 hB
  have hr := bRound_any p n 32 w u1 u2 (by omega) u3
  have hd : decide (p < n) = decide (p - n < 0) := by rw [decide_eq_decide]; omega
  have he : sgn (decide (p < n)) (rnd (absN (p - n)) 32) = (rne v 4294967296) := by
    rw [rnd_32, hd, sgn_rne _ _ (by decide)]
    rw [h.2.2.2.2]
  rw [he] at hr
  exact hr


theorem bRound33_sp (p n v B : Int) (w : World) (h : SP p n v B) (hB : B ≤ 1569275433846670190958947355801916604025588861116008628224) :
    Calls Try.prog 71 #[SG p n, .int .i64 33] w fun e w' => e = .returned (.tuple #[.int .i64 (clampI (rne v 8589934592)), .bool (over (rne v 8589934592))]) ∧ Below w.heap.size w w' := by
  obtain ⟨u1, u2, u3⟩ := h.u192 hB
  have hr := bRound_any p n 33 w u1 u2 (by omega) u3
  have hd : decide (p < n) = decide (p - n < 0) := by rw [decide_eq_decide]; omega
  have he : sgn (decide (p < n)) (rnd (absN (p - n)) 33) = (rne v 8589934592) := by
    rw [rnd_33, hd, sgn_rne _ _ (by decide)]
    rw [h.2.2.2.2]
  rw [he] at hr
  exact hr


set_option maxHeartbeats 1600000 in
set_option maxRecDepth 100000 in
theorem bMul_any (a b : Int) (w : World) (ha : I64 a) (hb : I64 b) :
    Calls Try.prog 97 #[.int .i64 a, .int .i64 b] w fun e w' => e = .returned (.tuple #[.int .i64 (clampI (rne (a * b) 4294967296)), .bool (over (rne (a * b) 4294967296))]) ∧ Below w.heap.size w w' := by
  have HM : Hid (∀ w, Calls Try.prog 70 #[.agg #[.int .u64 0, .int .u64 0, .int .u64 0, .int .u64 0, .int .u64 0, .int .u64 0, .int .u64 0, .int .u64 0, .int .u64 0, .int .u64 0, .int .u64 0, .int .u64 0], .int .i64 a, .int .i64 b] w fun e w' => ∃ p' n', e = .returned (SG p' n') ∧ SP p' n' (0 + a * b) (0 + 85070591730234615865843651857942052864) ∧ Below w.heap.size w w') := Lib.hid (fun w => bMul_sp 0 0 a b 0 0 w SP.zero ha hb)
  have HR := Lib.hid (fun p n w h => bRound32_sp p n (a * b) (0 + 85070591730234615865843651857942052864) w h (by decide))
  rw [Int.zero_add] at HM
  generalize hv : a * b = v at *
  clear hv ha hb
  unfold SG SGc at *

  go_enter Try.func97, Try.ntmps97
  go_wp2_with first
    | ((with_reducible refine (HM.out _).mono ?_); rintro e w1 ⟨p, n, rfl, hs, hb1⟩)
    | ((with_reducible refine (HR.out _ _ _ hs).mono ?_); rintro e w2 ⟨rfl, hb2⟩)
    | fail
  go_ret2
  exact ⟨rfl, by have := hb1.size; (repeat first | assumption | exact Below.refl _ _ | refine Below.drew ?_ | refine Below.drewN ?_ _ | refine Below.alloc ?_ (by (first | omega | (simp; done) | (simp; omega))) _ | refine Below.setCell ?_ (by (first | omega | (simp; done) | (simp; omega))) _ | refine Below.trans ?_ (Below.mono (by assumption) (by (first | omega | (simp; done) | (simp; omega)))))⟩

set_option maxHeartbeats 1600000 in
set_option maxRecDepth 100000 in
theorem bSub_any (a b : Int) (w : World) (ha : I64 a) (hb : I64 b) :
    Calls Try.prog 74 #[.int .i64 a, .int .i64 b] w fun e w' => e = .returned (.tuple #[.int .i64 (clampI (a - b)), .bool (over (a - b))]) ∧ Below w.heap.size w w' := by
  have HA : Hid (∀ w, Calls Try.prog 69 #[.agg #[.int .u64 0, .int .u64 0, .int .u64 0, .int .u64 0, .int .u64 0, .int .u64 0, .int .u64 0, .int .u64 0, .int .u64 0, .int .u64 0, .int .u64 0, .int .u64 0], .int .i64 b, .int .i64 0] w fun e w' => ∃ p' n', e = .returned (SG p' n') ∧ SP p' n' (0 + b) (0 + 39614081257132168796771975168) ∧ Below w.heap.size w w') := Lib.hid (fun w => bAdd0_sp 0 0 b 0 0 w SP.zero hb)
  have HB := Lib.hid (fun p n w h => bAdd0_sp n p a (-(0 + b)) (0 + 39614081257132168796771975168) w (SP.swap (p := p) (n := n) h) ha)
  have HR := Lib.hid (fun p n w h => bRound0_sp p n (-(0 + b) + a) (0 + 39614081257132168796771975168 + 39614081257132168796771975168) w h (by decide))
  have he : -(0 + b) + a = a - b := by omega
  rw [he] at HR HB
  clear he ha hb
  generalize a - b = v at *
  unfold SG SGc at *

  go_enter Try.func74, Try.ntmps74
  go_wp2_with fail
  (with_reducible refine (HA.out _).mono ?_)
  rintro e w1 ⟨p, n, rfl, hs, hb1⟩
  have HS := Lib.hid hs
  clear hs HA
  have hz1 := hb1.size
  go_wp2_with fail
  (with_reducible refine (HB.out _ _ _ HS.out).mono ?_)
  rintro e w2 ⟨p2, n2, rfl, hs2, hb2⟩
  have HS2 := Lib.hid hs2
  clear hs2 HB
  go_wp2_with fail
  (with_reducible refine (HR.out _ _ _ HS2.out).mono ?_)
  rintro e w3 ⟨rfl, hb3⟩
  have hz2 := hb2.size
  simp at hz2
  go_wp2
  go_ret2
  exact ⟨rfl, by (repeat first | assumption | exact Below.refl _ _ | refine Below.drew ?_ | refine Below.drewN ?_ _ | refine Below.alloc ?_ (by (first | omega | (simp; done) | (simp; omega))) _ | refine Below.setCell ?_ (by (first | omega | (simp; done) | (simp; omega))) _ | refine Below.trans ?_ (Below.mono (by assumption) (by (first | omega | (simp; done) | (simp; omega)))))⟩

set_option maxHeartbeats 800000 in
theorem rTake_any (b : Nat) (n x : Int) (o : Bool) (w : World) (h : UAt w b n) :
    Calls Try.prog 72 #[.pointer (some ⟨b, 0, none⟩), .int .i64 x, .bool o] w fun e w' => e = .returned (.int .i64 x) ∧ Chg (fun k => k = b) w w' ∧ UAt w' b (upC n o) := by
  obtain ⟨hc, hf⟩ := h
  cases o with
  | false =>
    go_enter Try.func72, Try.ntmps72
    go_wp2
    go_ret
    exact ⟨rfl, Chg.refl _ _, ⟨hc, hf⟩⟩
  | true =>
    go_enter Try.func72, Try.ntmps72
    go_wp2
    go_ret
    refine ⟨rfl, ⟨rfl, rfl, rfl, by simp, fun k hk hs => Below.heap_setCell _ _ _ _ hs⟩, ⟨?_, ?_⟩⟩
    · exact World.cell?_setCell_same' _ _ _ (by rw [hc]; rfl)
    · simp [hf]
end Go.Proofs.Ytdamenbpgkhiiaa
