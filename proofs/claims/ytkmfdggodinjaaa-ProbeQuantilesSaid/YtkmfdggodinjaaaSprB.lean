/-
  Layer vec: sums of squares, and lengths.
-/
import Derived.Test.YtkmfdggodinjaaaSprA
import Derived.Test.YtkmfdggodinjaaaProbR
namespace Go.Proofs.Ytkmfdggodinjaaa
open Go.RowKit
set_option linter.unusedVariables false
set_option linter.unusedSimpArgs false

set_option maxHeartbeats 3200000 in
set_option maxRecDepth 100000 in
theorem dot_self (aa : Option Addr) (m ca : Nat) (d : List Int) (w : World) (ha : Rd w .i64 aa m d) (hm : m ≤ 65536) (ia : A64 d) :
    Calls Try.prog 58 #[.slice aa m ca, .slice aa m ca, .int .i64 0, .int .i64 1] w fun e w' => e = .returned (LG (sqS d m)) ∧ Below w.heap.size w w' := by
  have HA := Lib.hid (fun w' (hb' : Below w.heap.size w w') => ha.kept hb')
  have ID := Lib.hid ia
  obtain ⟨xz2, xz1, xz0⟩ := x_zero
  clear ha ia
  go_enter Try.func58, Try.ntmps58
  go_wp2
  have HL2 : Hid (LGAt ((w.alloc (.cells #[.int .i64 0, .int .u64 0, .int .u64 0] 116)).alloc (.cells #[.int .i64 0, .int .u64 0, .int .u64 0] 116)) (w.heap.size + 1) 0) := Lib.hid ⟨by rw [xz2]; go_simp, by rw [xz1]; go_simp, by rw [xz0]; go_simp, fun i => by go_simp⟩
  have HR2 : Hid (LGAt ((w.alloc (.cells #[.int .i64 0, .int .u64 0, .int .u64 0] 116)).alloc (.cells #[.int .i64 0, .int .u64 0, .int .u64 0] 116)) w.heap.size 0) := Lib.hid ⟨by rw [xz2]; go_simp, by rw [xz1]; go_simp, by rw [xz0]; go_simp, fun i => by go_simp⟩
  have Hb2 : Hid (Below w.heap.size w ((w.alloc (.cells #[.int .i64 0, .int .u64 0, .int .u64 0] 116)).alloc (.cells #[.int .i64 0, .int .u64 0, .int .u64 0] 116))) := Lib.hid (by (repeat first | assumption | exact Below.refl _ _ | refine Below.drew ?_ | refine Below.drewN ?_ _ | refine Below.alloc ?_ (by (first | omega | (simp; done) | (simp; omega))) _ | refine Below.setCell ?_ (by (first | omega | (simp; done) | (simp; omega))) _ | refine Below.trans ?_ (Below.mono (by assumption) (by (first | omega | (simp; done) | (simp; omega))))))
  have hz2 : w.heap.size + 2 ≤ ((w.alloc (.cells #[.int .i64 0, .int .u64 0, .int .u64 0] 116)).alloc (.cells #[.int .i64 0, .int .u64 0, .int .u64 0] 116)).heap.size := by simp
  generalize (w.alloc (.cells #[.int .i64 0, .int .u64 0, .int .u64 0] 116)).alloc (.cells #[.int .i64 0, .int .u64 0, .int .u64 0] 116) = w2 at *
  have hne : w.heap.size ≠ w.heap.size + 1 := by omega
  generalize hg : w.heap.size + 1 = g at *
  have hge : w.heap.size ≤ g := by omega
  clear xz2 xz1 xz0
  go_loopw [14] (fun j wi => ∃ t : Nat, t ≤ m ∧ j = .int .i64 t ∧ Hid (LGAt wi g (sqS d t)) ∧ Hid (Chg (fun k => k = g) w2 wi)) (fun j _ => m - (intOf j).toNat)
  case atStart => exact ⟨0, Nat.zero_le _, rfl, HL2.out, Chg.refl _ _⟩
  case round =>
    obtain ⟨t, ht, rfl, hlg, hcg⟩ := hrel
    by_cases hlt : t < m
    · obtain ⟨ba, oa, rfl, hba, hca⟩ := (HA.out _ Hb2.out).at hlt
      obtain ⟨ba', oa', e', hbaw, _⟩ := (HA.out _ (Below.refl _ _)).at hlt
      cases e'
      have ca : wr.cell? ⟨ba, oa + t, none⟩ = some (.int .i64 (d[t]?.getD 0)) := (hcg.out.cell hba (by omega)).trans hca
      have hIp := ID.out t
      have Hd : Hid (sqS d t + d[t]?.getD 0 * d[t]?.getD 0 = sqS d (t + 1)) := Lib.hid rfl
      obtain ⟨l0, l1, l2, lf⟩ := hlg.out
      have hglt := hlg.out.lt
      have hzi := hcg.out.size
      have hwt : IntKind.i64.wrap (t : Int) = (t : Int) := by rw [IntKind.wrap_i64]; omega
      have ht0 : (0 : Int) ≤ (t : Int) := by omega
      have htm : (t : Int) < (m : Int) := by omega
      clear hca
      generalize d[t]?.getD 0 = p at *
      generalize hS : sqS d t = S at *
      have HM := Lib.hid (fun w => Mul_any p p w hIp hIp)
      have HE2 := Lib.hid (fun w => Extend_any (p * p) w (mul_I128 hIp hIp))
      have HP := Lib.hid (fun w => Plus_any S (p * p) w)
      clear hIp hS
      unfold W at HM HE2
      unfold LG at HE2 HP
      go_wp2
      have hT : Hid True := Lib.hid trivial
      go_region_with
        (first
          | (go_at_call 85; refine (HM.out _).mono ?_; rintro e w5 ⟨rfl, hb5⟩; have hz5 := hb5.size; obtain ⟨hc5, hf5⟩ := bcell hb5; (try simp at hz5 hc5 hf5); (try have hlt5 : g < w5.heap.size := by omega))
          | (go_at_call 87; refine (HE2.out _).mono ?_; rintro e w6 ⟨rfl, hb6⟩; have hz6 := hb6.size; obtain ⟨hc6, hf6⟩ := bcell hb6; (try simp at hz6 hc6 hf6); (try have hlt6 : g < w6.heap.size := by omega))
          | (go_at_call 86; refine (HP.out _).mono ?_; rintro e w7 ⟨rfl, hb7⟩; have hz7 := hb7.size; obtain ⟨hc7, hf7⟩ := bcell hb7; (try simp at hz7 hc7 hf7); (try have hlt7 : g < w7.heap.size := by omega)))
      all_goals
        have HL7 : Hid (LGAt w7 g S) := Lib.hid (hlg.out.kept (by (repeat first | assumption | exact Below.refl _ _ | refine Below.drew ?_ | refine Below.drewN ?_ _ | refine Below.alloc ?_ (by (first | omega | (simp; done) | (simp; omega))) _ | refine Below.setCell ?_ (by (first | omega | (simp; done) | (simp; omega))) _ | refine Below.trans ?_ (Below.mono (by assumption) (by (first | omega | (simp; done) | (simp; omega)))))))
        have HC7 : Hid (Chg (fun k => k = g) w2 w7) := Lib.hid (by have := hcg.out; (repeat first | assumption | exact Chg.refl _ _ | refine Chg.drew ?_ | refine Chg.drewN ?_ _ | refine Chg.alloc ?_ _ | refine Chg.setCell_in ?_ _ (by first | rfl | simp) _ | refine Chg.setCell ?_ _ (by (first | omega | (simp; done) | (simp; omega))) _ | refine Chg.then_below ?_ (by assumption) (by (first | omega | (simp; done) | (simp; omega)))))
        clear hb5 hb6 hb7 hc5 hc6 hc7 hf5 hf6 hf7
        go_wp2
        go_roundw
        case rel => exact ⟨t + 1, by omega, by go_num, Lib.hid (by rw [← Hd.out]; exact HL7.out.set), Lib.hid HC7.out.set3⟩
        case measure => first | (simp [intOf]; done) | (simp [intOf]; omega)
    · obtain rfl : t = m := by omega
      obtain ⟨l0, l1, l2, lf⟩ := hlg.out
      have hRw : LGAt wr w.heap.size 0 := by
        obtain ⟨c0, c1, c2, f⟩ := HR2.out
        exact ⟨(hcg.out.cell (by omega) hne).trans c0, (hcg.out.cell (by omega) hne).trans c1, (hcg.out.cell (by omega) hne).trans c2, fun i => (hcg.out.frozen (by omega) hne).trans (f i)⟩
      have HRr := Lib.hid (hRw.set (v' := sqS d t))
      obtain ⟨r0, r1, r2, rf⟩ := hRw
      have hbw : Hid (Below w.heap.size w wr) := Lib.hid (Hb2.out.trans (hcg.out.below (by omega) (by rintro k rfl; exact hge)))
      generalize hS : sqS d t = S at *
      have HS := Lib.hid hS
      clear hS
      go_wp2
      obtain ⟨q0, q1, q2, qf⟩ := HRr.out
      exact bodyPost_ret (v := .agg #[.int .i64 (x2s S), .int .u64 (x1 S), .int .u64 (x0 S)]) (by simp [results, Try.results58, go_sem, q0, q1, q2]) rfl ⟨by rw [HS.out], ((hbw.out.setCell (Nat.le_refl _) _).setCell (Nat.le_refl _) _).setCell (Nat.le_refl _) _⟩

theorem root_unique {r s v : Int} (hr : 0 ≤ r) (hs : 0 ≤ s) (h1 : r * r ≤ v) (h2 : v < (r + 1) * (r + 1)) (h3 : s * s ≤ v) (h4 : v < (s + 1) * (s + 1)) : r = s := by
  rcases Int.lt_trichotomy r s with h | h | h
  · have := Int.mul_le_mul (show r + 1 ≤ s by omega) (show r + 1 ≤ s by omega) (by omega) hs
    omega
  · exact h
  · have := Int.mul_le_mul (show s + 1 ≤ r by omega) (show s + 1 ≤ r by omega) (by omega) hr
    omega

set_option maxHeartbeats 1600000 in
set_option maxRecDepth 20000 in
theorem Norm_at (aa : Option Addr) (m ca : Nat) (d : List Int) (s : Int) (w : World) (ha : Rd w .i64 aa m d) (hm : m ≤ 65536) (ia : A64 d) (h0 : 0 ≤ sqS d m) (h1 : sqS d m < 85070591730234615865843651857942052864) (hs0 : 0 ≤ s) (hs : s * s ≤ sqS d m) (hs1 : sqS d m < (s + 1) * (s + 1)) (his : I64 s) :
    Calls Try.prog 25 #[.pointer none, .slice aa m ca] w fun e w' => e = .returned (.tuple #[.int .i64 s, .int .i64 0]) ∧ Below w.heap.size w w' := by
  have HF := Lib.hid (fun g w h1 => fits1_any g aa m ca w h1 (by omega))
  have HD := Lib.hid (fun w' (hb : Below w.heap.size w w') => dot_self aa m ca d w' (ha.kept hb) hm ia)
  have HR := Lib.hid (fun w => Root_any (sqS d m) w h0 h1)
  have HK := Lib.hid (fun w => Take_u none 0 s false w (Un.none _ _))
  rw [show uV none = .pointer none from rfl] at HK
  have HU : Hid (∀ r : Int, 0 ≤ r → r * r ≤ sqS d m → sqS d m < (r + 1) * (r + 1) → r = s) := Lib.hid (fun r h2 h3 h4 => root_unique h2 hs0 h3 h4 hs hs1)
  clear ha ia h0 h1 hs0 hs hs1 his
  generalize sqS d m = S at *
  unfold LG at *
  go_enter Try.func25, Try.ntmps25
  go_wp2_with fail
  ((with_reducible refine (HF.out _ _ (World.cell?_alloc_at _ _ _ _ rfl)).mono ?_); rintro e w1 ⟨rfl, rfl⟩)
  go_wp2_with fail
  ((with_reducible refine (HD.out _ (by (repeat first | assumption | exact Below.refl _ _ | refine Below.drew ?_ | refine Below.drewN ?_ _ | refine Below.alloc ?_ (by (first | omega | (simp; done) | (simp; omega))) _ | refine Below.setCell ?_ (by (first | omega | (simp; done) | (simp; omega))) _ | refine Below.trans ?_ (Below.mono (by assumption) (by (first | omega | (simp; done) | (simp; omega))))))).mono ?_); rintro e w2 ⟨rfl, hb2⟩)
  have Hb2 : Hid (Below w.heap.size w w2) := Lib.hid (by (repeat first | assumption | exact Below.refl _ _ | refine Below.drew ?_ | refine Below.drewN ?_ _ | refine Below.alloc ?_ (by (first | omega | (simp; done) | (simp; omega))) _ | refine Below.setCell ?_ (by (first | omega | (simp; done) | (simp; omega))) _ | refine Below.trans ?_ (Below.mono (by assumption) (by (first | omega | (simp; done) | (simp; omega))))))
  clear hb2
  go_wp2_with fail
  ((with_reducible refine (HR.out _).mono ?_); rintro e w3 ⟨r, rfl, k0, k1, k2, hb3⟩)
  have Hb3 : Hid (Below w.heap.size w w3) := Lib.hid (Hb2.out.trans (hb3.mono Hb2.out.size))
  obtain rfl := HU.out r k0 k1 k2
  clear hb3 k1 k2
  go_wp2_with fail
  ((with_reducible refine (HK.out _).mono ?_); rintro e w4 ⟨rfl, hc4, _⟩)
  have hb4 := hc4.below (Nat.le_refl _) (fun k hk => by cases hk)
  go_wp2
  go_ret2
  exact ⟨rfl, Hb3.out.trans (hb4.mono Hb3.out.size)⟩
end Go.Proofs.Ytkmfdggodinjaaa
