/-
  regattaref02: products, and a sum taken whole.
-/
import Derived.Test.YtkmfdggodinjaaaRefC
namespace Go.Proofs.Ytkmfdggodinjaaa
open Go.RowKit
set_option linter.unusedVariables false
set_option linter.unusedSimpArgs false

abbrev BGc (v : Int) : Array Value := #[.int .u64 (dg v 0), .int .u64 (dg v 1), .int .u64 (dg v 2), .int .u64 (dg v 3), .int .u64 (dg v 4), .int .u64 (dg v 5)]
/-- A number's digits at a block. -/
structure BGAt (w : World) (g : Nat) (v : Int) : Prop where
  c0 : w.cell? ⟨g, 0, none⟩ = some (.int .u64 (dg v 0))
  c1 : w.cell? ⟨g, 1, none⟩ = some (.int .u64 (dg v 1))
  c2 : w.cell? ⟨g, 2, none⟩ = some (.int .u64 (dg v 2))
  c3 : w.cell? ⟨g, 3, none⟩ = some (.int .u64 (dg v 3))
  c4 : w.cell? ⟨g, 4, none⟩ = some (.int .u64 (dg v 4))
  c5 : w.cell? ⟨g, 5, none⟩ = some (.int .u64 (dg v 5))
  f : ∀ i, w.frozen? ⟨g, i, none⟩ = false
theorem BGAt.lt {w : World} {g : Nat} {v : Int} (h : BGAt w g v) : g < w.heap.size := World.block_lt_of_cell? _ _ h.c0
theorem BGAt.kept {w w' : World} {g : Nat} {v : Int} (h : BGAt w g v) (hb : Below w.heap.size w w') : BGAt w' g v :=
  ⟨(hb.cell (p := ⟨g, 0, none⟩) h.lt).trans h.c0, (hb.cell (p := ⟨g, 1, none⟩) h.lt).trans h.c1, (hb.cell (p := ⟨g, 2, none⟩) h.lt).trans h.c2, (hb.cell (p := ⟨g, 3, none⟩) h.lt).trans h.c3, (hb.cell (p := ⟨g, 4, none⟩) h.lt).trans h.c4, (hb.cell (p := ⟨g, 5, none⟩) h.lt).trans h.c5, fun i => (hb.frozen (p := ⟨g, i, none⟩) h.lt).trans (h.f i)⟩
theorem BGAt.alloc (w : World) (v : Int) : BGAt (w.alloc (.cells (BGc v) 74)) w.heap.size v :=
  ⟨World.cell?_alloc_at _ _ _ _ rfl, World.cell?_alloc_at _ _ _ _ rfl, World.cell?_alloc_at _ _ _ _ rfl, World.cell?_alloc_at _ _ _ _ rfl, World.cell?_alloc_at _ _ _ _ rfl, World.cell?_alloc_at _ _ _ _ rfl, fun i => by go_simp⟩
abbrev set6 (w : World) (g : Nat) (v : Int) : World := (((((w.setCell ⟨g, 0, none⟩ (.int .u64 (dg v 0))).setCell ⟨g, 1, none⟩ (.int .u64 (dg v 1))).setCell ⟨g, 2, none⟩ (.int .u64 (dg v 2))).setCell ⟨g, 3, none⟩ (.int .u64 (dg v 3))).setCell ⟨g, 4, none⟩ (.int .u64 (dg v 4))).setCell ⟨g, 5, none⟩ (.int .u64 (dg v 5))
theorem BGAt.set {w : World} {g : Nat} {v : Int} (h : BGAt w g v) (v' : Int) : BGAt (set6 w g v') g v' := by
  obtain ⟨c0, c1, c2, c3, c4, c5, f⟩ := h
  exact ⟨by go_simp, by go_simp, by go_simp, by go_simp, by go_simp, by go_simp, fun i => by go_simp⟩
theorem BGAt.far6 {w : World} {g k : Nat} {v x : Int} (h : BGAt w k x) (hk : k ≠ g) : BGAt (set6 w g v) k x := by
  have e : ∀ i, (set6 w g v).cell? ⟨k, i, none⟩ = w.cell? ⟨k, i, none⟩ := fun i => by
    unfold set6
    rw [World.cell?_setCell_far _ _ _ _ (Ne.symm hk), World.cell?_setCell_far _ _ _ _ (Ne.symm hk), World.cell?_setCell_far _ _ _ _ (Ne.symm hk), World.cell?_setCell_far _ _ _ _ (Ne.symm hk), World.cell?_setCell_far _ _ _ _ (Ne.symm hk), World.cell?_setCell_far _ _ _ _ (Ne.symm hk)]
  exact ⟨(e _).trans h.c0, (e _).trans h.c1, (e _).trans h.c2, (e _).trans h.c3, (e _).trans h.c4, (e _).trans h.c5, fun i => by have := h.f i; go_simp⟩
theorem set6_size (w : World) (g : Nat) (v : Int) : (set6 w g v).heap.size = w.heap.size := by simp
theorem set6_below {B : Nat} {a w : World} {g : Nat} {v : Int} (h : Below B a w) (hg : B ≤ g) : Below B a (set6 w g v) :=
  (((((h.setCell hg _).setCell hg _).setCell hg _).setCell hg _).setCell hg _).setCell hg _

theorem mul_lim {a b m n : Int} (ha : 0 ≤ a) (hb : 0 ≤ b) (h1 : a ≤ m) (h2 : b ≤ n) : 0 ≤ a * b ∧ a * b ≤ m * n :=
  ⟨Int.mul_nonneg ha hb, Int.mul_le_mul h1 h2 hb (by omega)⟩

set_option maxHeartbeats 3200000 in
set_option maxRecDepth 100000 in
theorem bProd_u64 (a b : Int) (w : World) (ha : 0 ≤ a) (ha1 : a ≤ 18446744073709551615) (hb : 0 ≤ b) (hb1 : b ≤ 18446744073709551615) :
    Calls Try.prog 52 #[.int .u64 a, .int .u64 b] w fun e w' => e = .returned (BG (a * b)) ∧ Below w.heap.size w w' := by
  have ma : a.tmod 4294967296 = a % 4294967296 := Int.tmod_eq_emod_of_nonneg ha
  have mb : b.tmod 4294967296 = b % 4294967296 := Int.tmod_eq_emod_of_nonneg hb
  have da : a.tdiv 4294967296 = a / 4294967296 := Int.tdiv_eq_ediv_of_nonneg ha
  have db : b.tdiv 4294967296 = b / 4294967296 := Int.tdiv_eq_ediv_of_nonneg hb
  have wma : IntKind.u64.wrap (a % 4294967296) = a % 4294967296 := by rw [IntKind.wrap_u64]; omega
  have wmb : IntKind.u64.wrap (b % 4294967296) = b % 4294967296 := by rw [IntKind.wrap_u64]; omega
  have wda : IntKind.u64.wrap (a / 4294967296) = a / 4294967296 := by rw [IntKind.wrap_u64]; omega
  have wdb : IntKind.u64.wrap (b / 4294967296) = b / 4294967296 := by rw [IntKind.wrap_u64]; omega
  have hv : a % 4294967296 * (b % 4294967296) * 1 + a / 4294967296 * (b % 4294967296) * 4294967296 + a % 4294967296 * (b / 4294967296) * 4294967296 + a / 4294967296 * (b / 4294967296) * 18446744073709551616 = a * b := by
    have e1 := Int.mul_ediv_add_emod a 4294967296
    have e2 := Int.mul_ediv_add_emod b 4294967296
    generalize a % 4294967296 = p at *
    generalize a / 4294967296 = q at *
    generalize b % 4294967296 = r at *
    generalize b / 4294967296 = s at *
    subst e1
    subst e2
    rw [Int.add_mul, Int.mul_add, Int.mul_add]
    have h1 : (4294967296 * q) * (4294967296 * s) = q * s * 18446744073709551616 := by
      rw [Int.mul_comm 4294967296 s, Int.mul_comm 4294967296 q, Int.mul_assoc, ← Int.mul_assoc 4294967296, Int.mul_comm 4294967296 s, ← Int.mul_assoc, ← Int.mul_assoc, Int.mul_assoc (q * s)]; rfl
    have h2 : (4294967296 * q) * r = q * r * 4294967296 := by rw [Int.mul_assoc, Int.mul_comm]
    have h3 : p * (4294967296 * s) = p * s * 4294967296 := by rw [Int.mul_comm 4294967296 s, ← Int.mul_assoc]
    rw [h1, h2, h3]
    omega
  have hp0 : 0 ≤ a % 4294967296 ∧ a % 4294967296 ≤ 4294967295 := by omega
  have hp1 : 0 ≤ b % 4294967296 ∧ b % 4294967296 ≤ 4294967295 := by omega
  have hp2 : 0 ≤ a / 4294967296 ∧ a / 4294967296 ≤ 4294967295 := by omega
  have hp3 : 0 ≤ b / 4294967296 ∧ b / 4294967296 ≤ 4294967295 := by omega
  have l00 := mul_lim hp0.1 hp1.1 hp0.2 hp1.2
  have l10 := mul_lim hp2.1 hp1.1 hp2.2 hp1.2
  have l01 := mul_lim hp0.1 hp3.1 hp0.2 hp3.2
  have l11 := mul_lim hp2.1 hp3.1 hp2.2 hp3.2
  clear ha ha1 hb hb1 hp0 hp1 hp2 hp3
  generalize a % 4294967296 = p at *
  generalize a / 4294967296 = q at *
  generalize b % 4294967296 = r at *
  generalize b / 4294967296 = s at *
  generalize h00 : p * r = m00 at *
  generalize h10 : q * r = m10 at *
  generalize h01 : p * s = m01 at *
  generalize h11 : q * s = m11 at *
  have w00 : IntKind.u64.wrap m00 = m00 := by rw [IntKind.wrap_u64]; omega
  have w10 : IntKind.u64.wrap m10 = m10 := by rw [IntKind.wrap_u64]; omega
  have w01 : IntKind.u64.wrap m01 = m01 := by rw [IntKind.wrap_u64]; omega
  have w11 : IntKind.u64.wrap m11 = m11 := by rw [IntKind.wrap_u64]; omega
  have O00 := Lib.hid (fun w => bOne0_any m00 w l00.1 (by omega))
  have O10 := Lib.hid (fun w => bOne1_any m10 w l10.1 (by omega))
  have O01 := Lib.hid (fun w => bOne1_any m01 w l01.1 (by omega))
  have O11 := Lib.hid (fun w => bOne2_any m11 w l11.1 (by omega))
  have P1 := Lib.hid (fun w => bPlus_any (m00 * 1) (m10 * 4294967296) w)
  have P2 := Lib.hid (fun w => bPlus_any (m00 * 1 + m10 * 4294967296) (m01 * 4294967296) w)
  have P3 := Lib.hid (fun w => bPlus_any (m00 * 1 + m10 * 4294967296 + m01 * 4294967296) (m11 * 18446744073709551616) w)
  rw [hv] at P3
  clear hv l00 l10 l01 l11
  generalize m00 * 1 + m10 * 4294967296 + m01 * 4294967296 = s3 at *
  generalize m00 * 1 + m10 * 4294967296 = s2 at *
  generalize m00 * 1 = s0 at *
  generalize m10 * 4294967296 = s1 at *
  generalize m01 * 4294967296 = t1 at *
  generalize m11 * 18446744073709551616 = t2 at *
  generalize a * b = res at *
  have U0 : ∀ x, ∃ d0 d1 d2 d3 d4 d5, BG x = .agg #[.int .u64 d0, .int .u64 d1, .int .u64 d2, .int .u64 d3, .int .u64 d4, .int .u64 d5] := fun x => ⟨_, _, _, _, _, _, rfl⟩
  replace U0 := Lib.hid U0
  unfold BG at *
  go_enter Try.func52, Try.ntmps52
  go_wp2_with first
    | ((with_reducible refine (O00.out _).mono ?_); rintro e w1 ⟨rfl, hb1⟩)
    | ((with_reducible refine (O10.out _).mono ?_); rintro e w2 ⟨rfl, hb2⟩)
    | ((with_reducible refine (P1.out _).mono ?_); rintro e w3 ⟨rfl, hb3⟩)
    | fail
  have z1 := hb1.size
  have z2 := hb2.size
  have z3 := hb3.size
  simp at z1
  have hb : Hid (Below w.heap.size w (w3.alloc (.cells (BGc s2) 74))) := Lib.hid (by (repeat first | assumption | exact Below.refl _ _ | refine Below.drew ?_ | refine Below.drewN ?_ _ | refine Below.alloc ?_ (by (first | omega | (simp; done) | (simp; omega))) _ | refine Below.setCell ?_ (by (first | omega | (simp; done) | (simp; omega))) _ | refine Below.trans ?_ (Below.mono (by assumption) (by (first | omega | (simp; done) | (simp; omega))))))
  have hR : Hid (BGAt (w3.alloc (.cells (BGc s2) 74)) w.heap.size 0) := Lib.hid (by
    have h0 : BGAt (w.alloc (.cells #[.int .u64 0, .int .u64 0, .int .u64 0, .int .u64 0, .int .u64 0, .int .u64 0] 74)) w.heap.size 0 := BGAt.alloc w 0
    exact h0.kept (by (repeat first | assumption | exact Below.refl _ _ | refine Below.drew ?_ | refine Below.drewN ?_ _ | refine Below.alloc ?_ (by (first | omega | (simp; done) | (simp; omega))) _ | refine Below.setCell ?_ (by (first | omega | (simp; done) | (simp; omega))) _ | refine Below.trans ?_ (Below.mono (by assumption) (by (first | omega | (simp; done) | (simp; omega)))))))
  have hB : Hid (BGAt (w3.alloc (.cells (BGc s2) 74)) w3.heap.size s2) := Lib.hid (BGAt.alloc _ _)
  unfold BGc at hb hB hR
  generalize hW : w3.alloc (.cells #[.int .u64 (dg s2 0), .int .u64 (dg s2 1), .int .u64 (dg s2 2), .int .u64 (dg s2 3), .int .u64 (dg s2 4), .int .u64 (dg s2 5)] 74) = W at *
  have hWz : W.heap.size = w3.heap.size + 1 := by rw [← hW]; simp
  generalize hg : w3.heap.size = g at *
  clear hW hb1 hb2 hb3
  have k0 := hB.out
  obtain ⟨_, _, _, _, _, _, f0⟩ := k0
  go_region_with (first
    | ((with_reducible refine (O01.out _).mono ?_); rintro e w4 ⟨rfl, hb4⟩; have z4 := hb4.size; (try simp at z4); have k4 := hB.out.kept (w' := w4) (by (repeat first | assumption | exact Below.refl _ _ | refine Below.drew ?_ | refine Below.drewN ?_ _ | refine Below.alloc ?_ (by (first | omega | (simp; done) | (simp; omega))) _ | refine Below.setCell ?_ (by (first | omega | (simp; done) | (simp; omega))) _ | refine Below.trans ?_ (Below.mono (by assumption) (by (first | omega | (simp; done) | (simp; omega)))))); obtain ⟨_, _, _, _, _, _, f4⟩ := k4)
    | ((with_reducible refine (P2.out _).mono ?_); rintro e w5 ⟨rfl, hb5⟩; have z5 := hb5.size; (try simp at z5); have k5 := hB.out.kept (w' := w5) (by (repeat first | assumption | exact Below.refl _ _ | refine Below.drew ?_ | refine Below.drewN ?_ _ | refine Below.alloc ?_ (by (first | omega | (simp; done) | (simp; omega))) _ | refine Below.setCell ?_ (by (first | omega | (simp; done) | (simp; omega))) _ | refine Below.trans ?_ (Below.mono (by assumption) (by (first | omega | (simp; done) | (simp; omega)))))); obtain ⟨_, _, _, _, _, _, f5⟩ := k5))
  all_goals
    have hB2 : Hid (BGAt (set6 w5 g s3) g s3) := Lib.hid ((hB.out.kept (w' := w5) (by (repeat first | assumption | exact Below.refl _ _ | refine Below.drew ?_ | refine Below.drewN ?_ _ | refine Below.alloc ?_ (by (first | omega | (simp; done) | (simp; omega))) _ | refine Below.setCell ?_ (by (first | omega | (simp; done) | (simp; omega))) _ | refine Below.trans ?_ (Below.mono (by assumption) (by (first | omega | (simp; done) | (simp; omega))))))).set s3)
    have hR2 : Hid (BGAt (set6 w5 g s3) w.heap.size 0) := Lib.hid ((hR.out.kept (w' := w5) (by (repeat first | assumption | exact Below.refl _ _ | refine Below.drew ?_ | refine Below.drewN ?_ _ | refine Below.alloc ?_ (by (first | omega | (simp; done) | (simp; omega))) _ | refine Below.setCell ?_ (by (first | omega | (simp; done) | (simp; omega))) _ | refine Below.trans ?_ (Below.mono (by assumption) (by (first | omega | (simp; done) | (simp; omega))))))).far6 (by omega))
    have hb2 : Hid (Below w.heap.size w (set6 w5 g s3)) := Lib.hid (set6_below (by have := hb.out; (repeat first | assumption | exact Below.refl _ _ | refine Below.drew ?_ | refine Below.drewN ?_ _ | refine Below.alloc ?_ (by (first | omega | (simp; done) | (simp; omega))) _ | refine Below.setCell ?_ (by (first | omega | (simp; done) | (simp; omega))) _ | refine Below.trans ?_ (Below.mono (by assumption) (by (first | omega | (simp; done) | (simp; omega)))))) (by omega))
    have z6 : W.heap.size ≤ (set6 w5 g s3).heap.size := by rw [set6_size]; omega
    unfold set6 at hB2 hb2 hR2 z6
    generalize hW2 : (((((w5.setCell ⟨g, 0, none⟩ (.int .u64 (dg s3 0))).setCell ⟨g, 1, none⟩ (.int .u64 (dg s3 1))).setCell ⟨g, 2, none⟩ (.int .u64 (dg s3 2))).setCell ⟨g, 3, none⟩ (.int .u64 (dg s3 3))).setCell ⟨g, 4, none⟩ (.int .u64 (dg s3 4))).setCell ⟨g, 5, none⟩ (.int .u64 (dg s3 5)) = W2 at *
    clear hW2 hb4 hb5 z4 z5 hB hR f0 f4 f5
    clear hb
    go_wp2
    have k0 := hB2.out
    obtain ⟨_, _, _, _, _, _, f0⟩ := k0
    go_region_with (first
      | ((with_reducible refine (O11.out _).mono ?_); rintro e w7 ⟨rfl, hb7⟩; have z7 := hb7.size; (try simp at z7); have k7 := hB2.out.kept (w' := w7) (by (repeat first | assumption | exact Below.refl _ _ | refine Below.drew ?_ | refine Below.drewN ?_ _ | refine Below.alloc ?_ (by (first | omega | (simp; done) | (simp; omega))) _ | refine Below.setCell ?_ (by (first | omega | (simp; done) | (simp; omega))) _ | refine Below.trans ?_ (Below.mono (by assumption) (by (first | omega | (simp; done) | (simp; omega)))))); obtain ⟨_, _, _, _, _, _, f7⟩ := k7)
      | ((with_reducible refine (P3.out _).mono ?_); rintro e w8 ⟨rfl, hb8⟩; have z8 := hb8.size; (try simp at z8); have k8' := hR2.out.kept (w' := w8) (by (repeat first | assumption | exact Below.refl _ _ | refine Below.drew ?_ | refine Below.drewN ?_ _ | refine Below.alloc ?_ (by (first | omega | (simp; done) | (simp; omega))) _ | refine Below.setCell ?_ (by (first | omega | (simp; done) | (simp; omega))) _ | refine Below.trans ?_ (Below.mono (by assumption) (by (first | omega | (simp; done) | (simp; omega)))))); have k8 := k8'; obtain ⟨_, _, _, _, _, _, f8⟩ := k8))
    all_goals
      have hB3 : Hid (BGAt (set6 w8 w.heap.size res) w.heap.size res) := Lib.hid (BGAt.set k8' res)
      have hb3 : Hid (Below w.heap.size w (set6 w8 w.heap.size res)) := Lib.hid (set6_below (by have := hb2.out; (repeat first | assumption | exact Below.refl _ _ | refine Below.drew ?_ | refine Below.drewN ?_ _ | refine Below.alloc ?_ (by (first | omega | (simp; done) | (simp; omega))) _ | refine Below.setCell ?_ (by (first | omega | (simp; done) | (simp; omega))) _ | refine Below.trans ?_ (Below.mono (by assumption) (by (first | omega | (simp; done) | (simp; omega)))))) (by omega))
      unfold set6 at hB3 hb3
      generalize hW3 : (((((w8.setCell ⟨w.heap.size, 0, none⟩ (.int .u64 (dg res 0))).setCell ⟨w.heap.size, 1, none⟩ (.int .u64 (dg res 1))).setCell ⟨w.heap.size, 2, none⟩ (.int .u64 (dg res 2))).setCell ⟨w.heap.size, 3, none⟩ (.int .u64 (dg res 3))).setCell ⟨w.heap.size, 4, none⟩ (.int .u64 (dg res 4))).setCell ⟨w.heap.size, 5, none⟩ (.int .u64 (dg res 5)) = W3 at *
      clear hW3 hb7 hb8 z7 z8 hB2 hR2 f0 f7 f8 hb2
      obtain ⟨c0, c1, c2, c3, c4, c5, f9⟩ := hB3.out
      go_wp2
      exact bodyPost_ret (v := .agg #[.int .u64 (dg res 0), .int .u64 (dg res 1), .int .u64 (dg res 2), .int .u64 (dg res 3), .int .u64 (dg res 4), .int .u64 (dg res 5)]) (by simp [results, Try.results52, go_sem, c0, c1, c2, c3, c4, c5]) rfl ⟨rfl, hb3.out⟩

theorem bProd_any (a b : Int) (w : World) (ha : 0 ≤ a) (ha1 : a ≤ 9223372036854775808) (hb : 0 ≤ b) (hb1 : b ≤ 9223372036854775808) :
    Calls Try.prog 52 #[.int .u64 a, .int .u64 b] w fun e w' => e = .returned (BG (a * b)) ∧ Below w.heap.size w w' := bProd_u64 a b w ha (by omega) hb (by omega)
end Go.Proofs.Ytkmfdggodinjaaa
