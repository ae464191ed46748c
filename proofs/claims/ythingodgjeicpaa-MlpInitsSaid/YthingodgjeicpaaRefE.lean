/-
  regattaref02: a number of 64 bits, held; a sum taken whole.
-/
import Derived.Test.YthingodgjeicpaaRefD
namespace Go.Proofs.Ythingodgjeicpaa
open Go.RowKit
set_option linter.unusedVariables false
set_option linter.unusedSimpArgs false

abbrev SGc (p n : Int) : Array Value := #[.int .u64 (dg p 0), .int .u64 (dg p 1), .int .u64 (dg p 2), .int .u64 (dg p 3), .int .u64 (dg p 4), .int .u64 (dg p 5), .int .u64 (dg n 0), .int .u64 (dg n 1), .int .u64 (dg n 2), .int .u64 (dg n 3), .int .u64 (dg n 4), .int .u64 (dg n 5)]
abbrev SG (p n : Int) : Value := .agg (SGc p n)
def sgn (below : Bool) (m : Int) : Int := if below then -m else m


set_option maxHeartbeats 3200000 in
set_option maxRecDepth 100000 in
theorem bClamp_true (m : Int) (w : World) (hm : U192 m) :
    Calls Try.prog 61 #[BG m, .bool true] w fun e w' => e = .returned (.tuple #[.int .i64 (clampI (sgn true m)), .bool (over (sgn true m))]) ∧ Below w.heap.size w w' := by
  have hfour := dg_four hm
  have hlow := fun h => dg_low hm h
  have d0 := dg_bd m 0
  have d1 := dg_bd m 1
  have w1 : IntKind.u64.wrap (dg m 1 * 4294967296) = dg m 1 * 4294967296 := by rw [IntKind.wrap_u64]; omega
  have w2 : IntKind.u64.wrap (dg m 1 * 4294967296 + dg m 0) = dg m 1 * 4294967296 + dg m 0 := by rw [IntKind.wrap_u64]; omega
  have hm0 := hm.1
  clear hm
  unfold BG
  unfold sgn
  simp only [if_true, Bool.false_eq_true, if_false]
  generalize dg m 0 = p0 at *
  generalize dg m 1 = p1 at *
  generalize dg m 2 = p2 at *
  generalize dg m 3 = p3 at *
  generalize dg m 4 = p4 at *
  generalize dg m 5 = p5 at *
  generalize ht : p1 * 4294967296 = t1 at *
  generalize hn : t1 + p0 = n at *
  by_cases hA : m < 18446744073709551616
  · obtain ⟨z2, z3, z4, z5⟩ := hfour.2 hA
    have e := hlow hA
    subst z2
    subst z3
    subst z4
    subst z5
    subst e
    clear hfour hlow
    by_cases hB : n > 9223372036854775808
    · have hx := clampI_lo (x := -n) (by omega)
      rw [hx.1, hx.2]
      have hb1 : (9223372036854775808 < n) := hB
      have hb2 : decide (n > 9223372036854775808) = true := by simpa using hB
      clear hx d0 d1 hA hm0
      go_enter Try.func61, Try.ntmps61
      go_wp2
      go_ret2
      exact ⟨rfl, by (repeat first | assumption | exact Below.refl _ _ | refine Below.drew ?_ | refine Below.drewN ?_ _ | refine Below.alloc ?_ (by (first | omega | (simp; done) | (simp; omega))) _ | refine Below.setCell ?_ (by (first | omega | (simp; done) | (simp; omega))) _ | refine Below.trans ?_ (Below.mono (by assumption) (by (first | omega | (simp; done) | (simp; omega)))))⟩
    · have hx := clampI_in (x := -n) (by unfold I64; omega)
      rw [hx.1, hx.2]
      have hb1 : ¬ (9223372036854775808 < n) := by omega
      have hb2 : decide (n > 9223372036854775808) = false := by simpa using hB
      have hc : IntKind.i64.wrap (IntKind.u64.wrap (-n)) = -n := by rw [IntKind.wrap_i64, IntKind.wrap_u64]; omega
      have hc2 : IntKind.i64.wrap (-n) = -n := by rw [IntKind.wrap_i64]; omega
      clear hx d0 d1 hA hm0
      go_enter Try.func61, Try.ntmps61
      go_wp2
      go_ret2
      exact ⟨rfl, by (repeat first | assumption | exact Below.refl _ _ | refine Below.drew ?_ | refine Below.drewN ?_ _ | refine Below.alloc ?_ (by (first | omega | (simp; done) | (simp; omega))) _ | refine Below.setCell ?_ (by (first | omega | (simp; done) | (simp; omega))) _ | refine Below.trans ?_ (Below.mono (by assumption) (by (first | omega | (simp; done) | (simp; omega)))))⟩
  · have hx := clampI_lo (x := -m) (by omega)
    rw [hx.1, hx.2]
    have hne := fun h => hA (hfour.1 h)
    clear hx hlow hfour hA hm0 d0 d1
    by_cases h2 : p2 = 0
    · by_cases h3 : p3 = 0
      · by_cases h4 : p4 = 0
        · have h5 : (p5 != 0) = true := by simpa using (fun h => hne ⟨h2, h3, h4, h⟩)
          subst h2
          subst h3
          subst h4
          go_enter Try.func61, Try.ntmps61
          go_wp2
          go_ret2
          exact ⟨rfl, by (repeat first | assumption | exact Below.refl _ _ | refine Below.drew ?_ | refine Below.drewN ?_ _ | refine Below.alloc ?_ (by (first | omega | (simp; done) | (simp; omega))) _ | refine Below.setCell ?_ (by (first | omega | (simp; done) | (simp; omega))) _ | refine Below.trans ?_ (Below.mono (by assumption) (by (first | omega | (simp; done) | (simp; omega)))))⟩
        · have h5 : (p4 != 0) = true := by simpa using h4
          subst h2
          subst h3
          go_enter Try.func61, Try.ntmps61
          go_wp2
          go_ret2
          exact ⟨rfl, by (repeat first | assumption | exact Below.refl _ _ | refine Below.drew ?_ | refine Below.drewN ?_ _ | refine Below.alloc ?_ (by (first | omega | (simp; done) | (simp; omega))) _ | refine Below.setCell ?_ (by (first | omega | (simp; done) | (simp; omega))) _ | refine Below.trans ?_ (Below.mono (by assumption) (by (first | omega | (simp; done) | (simp; omega)))))⟩
      · have h5 : (p3 != 0) = true := by simpa using h3
        subst h2
        go_enter Try.func61, Try.ntmps61
        go_wp2
        go_ret2
        exact ⟨rfl, by (repeat first | assumption | exact Below.refl _ _ | refine Below.drew ?_ | refine Below.drewN ?_ _ | refine Below.alloc ?_ (by (first | omega | (simp; done) | (simp; omega))) _ | refine Below.setCell ?_ (by (first | omega | (simp; done) | (simp; omega))) _ | refine Below.trans ?_ (Below.mono (by assumption) (by (first | omega | (simp; done) | (simp; omega)))))⟩
    · have h5 : (p2 != 0) = true := by simpa using h2
      go_enter Try.func61, Try.ntmps61
      go_wp2
      go_ret2
      exact ⟨rfl, by (repeat first | assumption | exact Below.refl _ _ | refine Below.drew ?_ | refine Below.drewN ?_ _ | refine Below.alloc ?_ (by (first | omega | (simp; done) | (simp; omega))) _ | refine Below.setCell ?_ (by (first | omega | (simp; done) | (simp; omega))) _ | refine Below.trans ?_ (Below.mono (by assumption) (by (first | omega | (simp; done) | (simp; omega)))))⟩

set_option maxHeartbeats 3200000 in
set_option maxRecDepth 100000 in
theorem bClamp_false (m : Int) (w : World) (hm : U192 m) :
    Calls Try.prog 61 #[BG m, .bool false] w fun e w' => e = .returned (.tuple #[.int .i64 (clampI (sgn false m)), .bool (over (sgn false m))]) ∧ Below w.heap.size w w' := by
  have hfour := dg_four hm
  have hlow := fun h => dg_low hm h
  have d0 := dg_bd m 0
  have d1 := dg_bd m 1
  have w1 : IntKind.u64.wrap (dg m 1 * 4294967296) = dg m 1 * 4294967296 := by rw [IntKind.wrap_u64]; omega
  have w2 : IntKind.u64.wrap (dg m 1 * 4294967296 + dg m 0) = dg m 1 * 4294967296 + dg m 0 := by rw [IntKind.wrap_u64]; omega
  have hm0 := hm.1
  clear hm
  unfold BG
  unfold sgn
  simp only [if_true, Bool.false_eq_true, if_false]
  generalize dg m 0 = p0 at *
  generalize dg m 1 = p1 at *
  generalize dg m 2 = p2 at *
  generalize dg m 3 = p3 at *
  generalize dg m 4 = p4 at *
  generalize dg m 5 = p5 at *
  generalize ht : p1 * 4294967296 = t1 at *
  generalize hn : t1 + p0 = n at *
  by_cases hA : m < 18446744073709551616
  · obtain ⟨z2, z3, z4, z5⟩ := hfour.2 hA
    have e := hlow hA
    subst z2
    subst z3
    subst z4
    subst z5
    subst e
    clear hfour hlow
    by_cases hB : n ≥ 9223372036854775808
    · have hx := clampI_hi (x := n) (by omega)
      rw [hx.1, hx.2]
      have hb1 : (9223372036854775808 ≤ n) := hB
      have hb2 : decide (n ≥ 9223372036854775808) = true := by simpa using hB
      clear hx d0 d1 hA hm0
      go_enter Try.func61, Try.ntmps61
      go_wp2
      go_ret2
      exact ⟨rfl, by (repeat first | assumption | exact Below.refl _ _ | refine Below.drew ?_ | refine Below.drewN ?_ _ | refine Below.alloc ?_ (by (first | omega | (simp; done) | (simp; omega))) _ | refine Below.setCell ?_ (by (first | omega | (simp; done) | (simp; omega))) _ | refine Below.trans ?_ (Below.mono (by assumption) (by (first | omega | (simp; done) | (simp; omega)))))⟩
    · have hx := clampI_in (x := n) (by unfold I64; omega)
      rw [hx.1, hx.2]
      have hb1 : ¬ (9223372036854775808 ≤ n) := by omega
      have hb2 : decide (n ≥ 9223372036854775808) = false := by simpa using hB
      have hc : IntKind.i64.wrap n = n := by rw [IntKind.wrap_i64]; omega
      clear hx d0 d1 hA hm0
      go_enter Try.func61, Try.ntmps61
      go_wp2
      go_ret2
      exact ⟨rfl, by (repeat first | assumption | exact Below.refl _ _ | refine Below.drew ?_ | refine Below.drewN ?_ _ | refine Below.alloc ?_ (by (first | omega | (simp; done) | (simp; omega))) _ | refine Below.setCell ?_ (by (first | omega | (simp; done) | (simp; omega))) _ | refine Below.trans ?_ (Below.mono (by assumption) (by (first | omega | (simp; done) | (simp; omega)))))⟩
  · have hx := clampI_hi (x := m) (by omega)
    rw [hx.1, hx.2]
    have hne := fun h => hA (hfour.1 h)
    clear hx hlow hfour hA hm0 d0 d1
    by_cases h2 : p2 = 0
    · by_cases h3 : p3 = 0
      · by_cases h4 : p4 = 0
        · have h5 : (p5 != 0) = true := by simpa using (fun h => hne ⟨h2, h3, h4, h⟩)
          subst h2
          subst h3
          subst h4
          go_enter Try.func61, Try.ntmps61
          go_wp2
          go_ret2
          exact ⟨rfl, by (repeat first | assumption | exact Below.refl _ _ | refine Below.drew ?_ | refine Below.drewN ?_ _ | refine Below.alloc ?_ (by (first | omega | (simp; done) | (simp; omega))) _ | refine Below.setCell ?_ (by (first | omega | (simp; done) | (simp; omega))) _ | refine Below.trans ?_ (Below.mono (by assumption) (by (first | omega | (simp; done) | (simp; omega)))))⟩
        · have h5 : (p4 != 0) = true := by simpa using h4
          subst h2
          subst h3
          go_enter Try.func61, Try.ntmps61
          go_wp2
          go_ret2
          exact ⟨rfl, by (repeat first | assumption | exact Below.refl _ _ | refine Below.drew ?_ | refine Below.drewN ?_ _ | refine Below.alloc ?_ (by (first | omega | (simp; done) | (simp; omega))) _ | refine Below.setCell ?_ (by (first | omega | (simp; done) | (simp; omega))) _ | refine Below.trans ?_ (Below.mono (by assumption) (by (first | omega | (simp; done) | (simp; omega)))))⟩
      · have h5 : (p3 != 0) = true := by simpa using h3
        subst h2
        go_enter Try.func61, Try.ntmps61
        go_wp2
        go_ret2
        exact ⟨rfl, by (repeat first | assumption | exact Below.refl _ _ | refine Below.drew ?_ | refine Below.drewN ?_ _ | refine Below.alloc ?_ (by (first | omega | (simp; done) | (simp; omega))) _ | refine Below.setCell ?_ (by (first | omega | (simp; done) | (simp; omega))) _ | refine Below.trans ?_ (Below.mono (by assumption) (by (first | omega | (simp; done) | (simp; omega)))))⟩
    · have h5 : (p2 != 0) = true := by simpa using h2
      go_enter Try.func61, Try.ntmps61
      go_wp2
      go_ret2
      exact ⟨rfl, by (repeat first | assumption | exact Below.refl _ _ | refine Below.drew ?_ | refine Below.drewN ?_ _ | refine Below.alloc ?_ (by (first | omega | (simp; done) | (simp; omega))) _ | refine Below.setCell ?_ (by (first | omega | (simp; done) | (simp; omega))) _ | refine Below.trans ?_ (Below.mono (by assumption) (by (first | omega | (simp; done) | (simp; omega)))))⟩
theorem bClamp_any (b : Bool) (m : Int) (w : World) (hm : U192 m) :
    Calls Try.prog 61 #[BG m, .bool b] w fun e w' => e = .returned (.tuple #[.int .i64 (clampI (sgn b m)), .bool (over (sgn b m))]) ∧ Below w.heap.size w w' := by
  cases b
  · exact bClamp_false m w hm
  · exact bClamp_true m w hm

theorem U192_sub {p n : Int} (hp : U192 p) (hn : U192 n) (h : n ≤ p) : U192 (p - n) := by unfold U192 at *; omega

/-- A sum's digits at a block: what is above 0, what is below. -/
structure SGAt (w : World) (g : Nat) (p n : Int) : Prop where
  c0 : w.cell? ⟨g, 0, none⟩ = some (.int .u64 (dg p 0))
  c1 : w.cell? ⟨g, 1, none⟩ = some (.int .u64 (dg p 1))
  c2 : w.cell? ⟨g, 2, none⟩ = some (.int .u64 (dg p 2))
  c3 : w.cell? ⟨g, 3, none⟩ = some (.int .u64 (dg p 3))
  c4 : w.cell? ⟨g, 4, none⟩ = some (.int .u64 (dg p 4))
  c5 : w.cell? ⟨g, 5, none⟩ = some (.int .u64 (dg p 5))
  c6 : w.cell? ⟨g, 6, none⟩ = some (.int .u64 (dg n 0))
  c7 : w.cell? ⟨g, 7, none⟩ = some (.int .u64 (dg n 1))
  c8 : w.cell? ⟨g, 8, none⟩ = some (.int .u64 (dg n 2))
  c9 : w.cell? ⟨g, 9, none⟩ = some (.int .u64 (dg n 3))
  c10 : w.cell? ⟨g, 10, none⟩ = some (.int .u64 (dg n 4))
  c11 : w.cell? ⟨g, 11, none⟩ = some (.int .u64 (dg n 5))
  f : ∀ i, w.frozen? ⟨g, i, none⟩ = false
theorem SGAt.lt {w : World} {g : Nat} {p n : Int} (h : SGAt w g p n) : g < w.heap.size := World.block_lt_of_cell? _ _ h.c0
theorem SGAt.kept {w w' : World} {g : Nat} {p n : Int} (h : SGAt w g p n) (hb : Below w.heap.size w w') : SGAt w' g p n :=
  ⟨(hb.cell (p := ⟨g, 0, none⟩) h.lt).trans h.c0, (hb.cell (p := ⟨g, 1, none⟩) h.lt).trans h.c1, (hb.cell (p := ⟨g, 2, none⟩) h.lt).trans h.c2, (hb.cell (p := ⟨g, 3, none⟩) h.lt).trans h.c3, (hb.cell (p := ⟨g, 4, none⟩) h.lt).trans h.c4, (hb.cell (p := ⟨g, 5, none⟩) h.lt).trans h.c5, (hb.cell (p := ⟨g, 6, none⟩) h.lt).trans h.c6, (hb.cell (p := ⟨g, 7, none⟩) h.lt).trans h.c7, (hb.cell (p := ⟨g, 8, none⟩) h.lt).trans h.c8, (hb.cell (p := ⟨g, 9, none⟩) h.lt).trans h.c9, (hb.cell (p := ⟨g, 10, none⟩) h.lt).trans h.c10, (hb.cell (p := ⟨g, 11, none⟩) h.lt).trans h.c11, fun i => (hb.frozen (p := ⟨g, i, none⟩) h.lt).trans (h.f i)⟩
theorem SGAt.alloc (w : World) (p n : Int) : SGAt (w.alloc (.cells (SGc p n) 91)) w.heap.size p n :=
  ⟨World.cell?_alloc_at _ _ _ _ rfl, World.cell?_alloc_at _ _ _ _ rfl, World.cell?_alloc_at _ _ _ _ rfl, World.cell?_alloc_at _ _ _ _ rfl, World.cell?_alloc_at _ _ _ _ rfl, World.cell?_alloc_at _ _ _ _ rfl, World.cell?_alloc_at _ _ _ _ rfl, World.cell?_alloc_at _ _ _ _ rfl, World.cell?_alloc_at _ _ _ _ rfl, World.cell?_alloc_at _ _ _ _ rfl, World.cell?_alloc_at _ _ _ _ rfl, World.cell?_alloc_at _ _ _ _ rfl, fun i => by go_simp⟩
abbrev set6N (w : World) (g : Nat) (v : Int) : World := (((((w.setCell ⟨g, 6, none⟩ (.int .u64 (dg v 0))).setCell ⟨g, 7, none⟩ (.int .u64 (dg v 1))).setCell ⟨g, 8, none⟩ (.int .u64 (dg v 2))).setCell ⟨g, 9, none⟩ (.int .u64 (dg v 3))).setCell ⟨g, 10, none⟩ (.int .u64 (dg v 4))).setCell ⟨g, 11, none⟩ (.int .u64 (dg v 5))
abbrev set12 (w : World) (g : Nat) (p n : Int) : World := set6N (set6 w g p) g n
theorem SGAt.setP {w : World} {g : Nat} {p n : Int} (h : SGAt w g p n) (v : Int) : SGAt (set6 w g v) g v n := by
  obtain ⟨c0, c1, c2, c3, c4, c5, c6, c7, c8, c9, c10, c11, f⟩ := h
  exact ⟨by go_simp, by go_simp, by go_simp, by go_simp, by go_simp, by go_simp, by go_simp, by go_simp, by go_simp, by go_simp, by go_simp, by go_simp, fun i => by go_simp⟩
theorem SGAt.setN {w : World} {g : Nat} {p n : Int} (h : SGAt w g p n) (v : Int) : SGAt (set6N w g v) g p v := by
  obtain ⟨c0, c1, c2, c3, c4, c5, c6, c7, c8, c9, c10, c11, f⟩ := h
  exact ⟨by go_simp, by go_simp, by go_simp, by go_simp, by go_simp, by go_simp, by go_simp, by go_simp, by go_simp, by go_simp, by go_simp, by go_simp, fun i => by go_simp⟩
theorem SGAt.set {w : World} {g : Nat} {p n : Int} (h : SGAt w g p n) (p' n' : Int) : SGAt (set12 w g p' n') g p' n' := (h.setP p').setN n'
theorem set6N_size (w : World) (g : Nat) (v : Int) : (set6N w g v).heap.size = w.heap.size := by simp
theorem set6N_below {B : Nat} {a w : World} {g : Nat} {v : Int} (h : Below B a w) (hg : B ≤ g) : Below B a (set6N w g v) :=
  (((((h.setCell hg _).setCell hg _).setCell hg _).setCell hg _).setCell hg _).setCell hg _
theorem SGAt.far6 {w : World} {g k : Nat} {p n v : Int} (h : SGAt w k p n) (hk : k ≠ g) : SGAt (set6 w g v) k p n := by
  have e : ∀ i, (set6 w g v).cell? ⟨k, i, none⟩ = w.cell? ⟨k, i, none⟩ := fun i => by
    unfold set6
    rw [World.cell?_setCell_far _ _ _ _ (Ne.symm hk), World.cell?_setCell_far _ _ _ _ (Ne.symm hk), World.cell?_setCell_far _ _ _ _ (Ne.symm hk), World.cell?_setCell_far _ _ _ _ (Ne.symm hk), World.cell?_setCell_far _ _ _ _ (Ne.symm hk), World.cell?_setCell_far _ _ _ _ (Ne.symm hk)]
  exact ⟨(e _).trans h.c0, (e _).trans h.c1, (e _).trans h.c2, (e _).trans h.c3, (e _).trans h.c4, (e _).trans h.c5, (e _).trans h.c6, (e _).trans h.c7, (e _).trans h.c8, (e _).trans h.c9, (e _).trans h.c10, (e _).trans h.c11, fun i => by have := h.f i; go_simp⟩
theorem SGAt.far6N {w : World} {g k : Nat} {p n v : Int} (h : SGAt w k p n) (hk : k ≠ g) : SGAt (set6N w g v) k p n := by
  have e : ∀ i, (set6N w g v).cell? ⟨k, i, none⟩ = w.cell? ⟨k, i, none⟩ := fun i => by
    unfold set6N
    rw [World.cell?_setCell_far _ _ _ _ (Ne.symm hk), World.cell?_setCell_far _ _ _ _ (Ne.symm hk), World.cell?_setCell_far _ _ _ _ (Ne.symm hk), World.cell?_setCell_far _ _ _ _ (Ne.symm hk), World.cell?_setCell_far _ _ _ _ (Ne.symm hk), World.cell?_setCell_far _ _ _ _ (Ne.symm hk)]
  exact ⟨(e _).trans h.c0, (e _).trans h.c1, (e _).trans h.c2, (e _).trans h.c3, (e _).trans h.c4, (e _).trans h.c5, (e _).trans h.c6, (e _).trans h.c7, (e _).trans h.c8, (e _).trans h.c9, (e _).trans h.c10, (e _).trans h.c11, fun i => by have := h.f i; go_simp⟩
theorem z6 (w : World) : BGAt (w.alloc (.cells #[.int .u64 0, .int .u64 0, .int .u64 0, .int .u64 0, .int .u64 0, .int .u64 0] 89)) w.heap.size 0 := BGAt.alloc w 0
theorem z12 (w : World) : SGAt (w.alloc (.cells #[.int .u64 0, .int .u64 0, .int .u64 0, .int .u64 0, .int .u64 0, .int .u64 0, .int .u64 0, .int .u64 0, .int .u64 0, .int .u64 0, .int .u64 0, .int .u64 0] 91)) w.heap.size 0 0 := SGAt.alloc w 0 0

set_option maxHeartbeats 3200000 in
set_option maxRecDepth 100000 in
theorem bWhole_any (p n : Int) (w : World) (hp : U192 p) (hn : U192 n) :
    Calls Try.prog 60 #[SG p n] w fun e w' => e = .returned (.tuple #[BG (absN (p - n)), .bool (decide (p < n))]) ∧ Below w.heap.size w w' := by
  have HL := Lib.hid (fun w => bLess_any p n w hp hn)
  have HM := Lib.hid (fun w => bMinus_any p n w)
  have HN := Lib.hid (fun w => bMinus_any n p w)
  by_cases h : p < n
  · have e : absN (p - n) = n - p := by unfold absN; rw [if_pos (by omega)]; omega
    have ed : decide (p < n) = true := by simpa using h
    rw [e, ed]
    rw [ed] at HL
    clear h e ed hp hn HM
    unfold SG SGc BG at *
    generalize n - p = res at *
    go_enter Try.func60, Try.ntmps60
    go_wp2_with fail
    (with_reducible refine (HL.out _).mono ?_)
    rintro e w1 ⟨rfl, hb1⟩
    have hz1 := hb1.size
    simp at hz1
    have hS : Hid (SGAt w1 w.heap.size p n) := Lib.hid ((SGAt.alloc w p n).kept (w' := w1) (by (repeat first | assumption | exact Below.refl _ _ | refine Below.drew ?_ | refine Below.drewN ?_ _ | refine Below.alloc ?_ (by (first | omega | (simp; done) | (simp; omega))) _ | refine Below.setCell ?_ (by (first | omega | (simp; done) | (simp; omega))) _ | refine Below.trans ?_ (Below.mono (by assumption) (by (first | omega | (simp; done) | (simp; omega)))))))
    have hR : Hid (BGAt w1 (w.heap.size + 1) 0) := Lib.hid (by
      have h0 := z6 (w.alloc (.cells (SGc p n) 91))
      rw [show (w.alloc (.cells (SGc p n) 91)).heap.size = w.heap.size + 1 by simp] at h0
      exact h0.kept (by (repeat first | assumption | exact Below.refl _ _ | refine Below.drew ?_ | refine Below.drewN ?_ _ | refine Below.alloc ?_ (by (first | omega | (simp; done) | (simp; omega))) _ | refine Below.setCell ?_ (by (first | omega | (simp; done) | (simp; omega))) _ | refine Below.trans ?_ (Below.mono (by assumption) (by (first | omega | (simp; done) | (simp; omega)))))))
    have hb : Hid (Below w.heap.size w w1) := Lib.hid (by (repeat first | assumption | exact Below.refl _ _ | refine Below.drew ?_ | refine Below.drewN ?_ _ | refine Below.alloc ?_ (by (first | omega | (simp; done) | (simp; omega))) _ | refine Below.setCell ?_ (by (first | omega | (simp; done) | (simp; omega))) _ | refine Below.trans ?_ (Below.mono (by assumption) (by (first | omega | (simp; done) | (simp; omega))))))
    clear hb1
    obtain ⟨c0, c1, c2, c3, c4, c5, c6, c7, c8, c9, c10, c11, f0⟩ := hS.out
    go_wp2_with fail
    (with_reducible refine (HN.out _).mono ?_)
    rintro e w2 ⟨rfl, hb2⟩
    have hR2 := hR.out.kept hb2
    have hz2 := hb2.size
    have hB3 : Hid (BGAt (set6 w2 (w.heap.size + 1) res) (w.heap.size + 1) res) := Lib.hid (hR2.set res)
    have hb3 : Hid (Below w.heap.size w (set6 w2 (w.heap.size + 1) res)) := Lib.hid (set6_below (by have := hb.out; (repeat first | assumption | exact Below.refl _ _ | refine Below.drew ?_ | refine Below.drewN ?_ _ | refine Below.alloc ?_ (by (first | omega | (simp; done) | (simp; omega))) _ | refine Below.setCell ?_ (by (first | omega | (simp; done) | (simp; omega))) _ | refine Below.trans ?_ (Below.mono (by assumption) (by (first | omega | (simp; done) | (simp; omega)))))) (by omega))
    clear hb2 hb hS hR c0 c1 c2 c3 c4 c5 c6 c7 c8 c9 c10 c11 f0
    obtain ⟨_, _, _, _, _, _, f2⟩ := hR2
    go_wp2
    unfold set6 at hB3 hb3
    obtain ⟨c0, c1, c2, c3, c4, c5, f9⟩ := hB3.out
    exact bodyPost_ret (v := .tuple #[.agg #[.int .u64 (dg res 0), .int .u64 (dg res 1), .int .u64 (dg res 2), .int .u64 (dg res 3), .int .u64 (dg res 4), .int .u64 (dg res 5)], .bool true]) (by simp [results, Try.results60, go_sem, c0, c1, c2, c3, c4, c5]) rfl ⟨rfl, hb3.out⟩
  · have e : absN (p - n) = p - n := by unfold absN; rw [if_neg (by omega)]
    have ed : decide (p < n) = false := by simpa using h
    rw [e, ed]
    rw [ed] at HL
    clear h e ed hp hn HN
    unfold SG SGc BG at *
    generalize p - n = res at *
    go_enter Try.func60, Try.ntmps60
    go_wp2_with fail
    (with_reducible refine (HL.out _).mono ?_)
    rintro e w1 ⟨rfl, hb1⟩
    have hz1 := hb1.size
    simp at hz1
    have hS : Hid (SGAt w1 w.heap.size p n) := Lib.hid ((SGAt.alloc w p n).kept (w' := w1) (by (repeat first | assumption | exact Below.refl _ _ | refine Below.drew ?_ | refine Below.drewN ?_ _ | refine Below.alloc ?_ (by (first | omega | (simp; done) | (simp; omega))) _ | refine Below.setCell ?_ (by (first | omega | (simp; done) | (simp; omega))) _ | refine Below.trans ?_ (Below.mono (by assumption) (by (first | omega | (simp; done) | (simp; omega)))))))
    have hR : Hid (BGAt w1 (w.heap.size + 1) 0) := Lib.hid (by
      have h0 := z6 (w.alloc (.cells (SGc p n) 91))
      rw [show (w.alloc (.cells (SGc p n) 91)).heap.size = w.heap.size + 1 by simp] at h0
      exact h0.kept (by (repeat first | assumption | exact Below.refl _ _ | refine Below.drew ?_ | refine Below.drewN ?_ _ | refine Below.alloc ?_ (by (first | omega | (simp; done) | (simp; omega))) _ | refine Below.setCell ?_ (by (first | omega | (simp; done) | (simp; omega))) _ | refine Below.trans ?_ (Below.mono (by assumption) (by (first | omega | (simp; done) | (simp; omega)))))))
    have hb : Hid (Below w.heap.size w w1) := Lib.hid (by (repeat first | assumption | exact Below.refl _ _ | refine Below.drew ?_ | refine Below.drewN ?_ _ | refine Below.alloc ?_ (by (first | omega | (simp; done) | (simp; omega))) _ | refine Below.setCell ?_ (by (first | omega | (simp; done) | (simp; omega))) _ | refine Below.trans ?_ (Below.mono (by assumption) (by (first | omega | (simp; done) | (simp; omega))))))
    clear hb1
    obtain ⟨c0, c1, c2, c3, c4, c5, c6, c7, c8, c9, c10, c11, f0⟩ := hS.out
    go_wp2_with fail
    (with_reducible refine (HM.out _).mono ?_)
    rintro e w2 ⟨rfl, hb2⟩
    have hR2 := hR.out.kept hb2
    have hz2 := hb2.size
    have hB3 : Hid (BGAt (set6 w2 (w.heap.size + 1) res) (w.heap.size + 1) res) := Lib.hid (hR2.set res)
    have hb3 : Hid (Below w.heap.size w (set6 w2 (w.heap.size + 1) res)) := Lib.hid (set6_below (by have := hb.out; (repeat first | assumption | exact Below.refl _ _ | refine Below.drew ?_ | refine Below.drewN ?_ _ | refine Below.alloc ?_ (by (first | omega | (simp; done) | (simp; omega))) _ | refine Below.setCell ?_ (by (first | omega | (simp; done) | (simp; omega))) _ | refine Below.trans ?_ (Below.mono (by assumption) (by (first | omega | (simp; done) | (simp; omega)))))) (by omega))
    clear hb2 hb hS hR c0 c1 c2 c3 c4 c5 c6 c7 c8 c9 c10 c11 f0
    obtain ⟨_, _, _, _, _, _, f2⟩ := hR2
    go_wp2
    unfold set6 at hB3 hb3
    obtain ⟨c0, c1, c2, c3, c4, c5, f9⟩ := hB3.out
    exact bodyPost_ret (v := .tuple #[.agg #[.int .u64 (dg res 0), .int .u64 (dg res 1), .int .u64 (dg res 2), .int .u64 (dg res 3), .int .u64 (dg res 4), .int .u64 (dg res 5)], .bool false]) (by simp [results, Try.results60, go_sem, c0, c1, c2, c3, c4, c5]) rfl ⟨rfl, hb3.out⟩
end Go.Proofs.Ythingodgjeicpaa
