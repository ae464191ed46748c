/-
  Layer mlp: what comes behind a layer, ahead of its bend.
-/
import Derived.Test.YtkmfdggodinjaaaMlpB
namespace Go.Proofs.Ytkmfdggodinjaaa
open Go.RowKit
set_option linter.unusedVariables false
set_option linter.unusedSimpArgs false

/-- The sum of the first k products, a's parts from off on. -/
def dotS (a x : List Int) (off : Nat) : Nat → Int
  | 0 => 0
  | k + 1 => dotS a x off k + a[off + k]?.getD 0 * x[k]?.getD 0
def sumO (C : Nat) (A b x : List Int) (o : Nat) : Int := b[o]?.getD 0 * 4294967296 + dotS A x (o * C) C
def near32 (v : Int) : Int := clampI (rne v 4294967296)
def cntL (n : Int) (vs : List Int) : Int := vs.foldl (fun c v => upC c (over (rne v 4294967296))) n
def sumsO (C : Nat) (A b x : List Int) (k : Nat) : List Int := (List.range k).map (sumO C A b x)
/-- All numbers of a list fit 64 bits. -/
def A64 (l : List Int) : Prop := ∀ i : Nat, I64 (l[i]?.getD 0)

theorem sumsO_succ (C : Nat) (A b x : List Int) (k : Nat) : sumsO C A b x (k + 1) = sumsO C A b x k ++ [sumO C A b x k] := by simp [sumsO, List.range_succ]
theorem cntL_snoc (n : Int) (vs : List Int) (v : Int) : cntL n (vs ++ [v]) = upC (cntL n vs) (over (rne v 4294967296)) := by simp [cntL, List.foldl_append]

theorem dotS_bd {a x : List Int} (ha : A64 a) (hx : A64 x) (off : Nat) : ∀ k, -(k * 85070591730234615865843651857942052864) ≤ dotS a x off k ∧ dotS a x off k ≤ k * 85070591730234615865843651857942052864
  | 0 => by simp [dotS]
  | k + 1 => by
    have h1 := dotS_bd ha hx off k
    have h2 := mul_bd (ha (off + k)) (hx k)
    simp only [dotS]
    generalize a[off + k]?.getD 0 * x[k]?.getD 0 = p at *
    omega
theorem sumO_I192 {A b x : List Int} (hA : A64 A) (hb : A64 b) (hx : A64 x) {C : Nat} (hC : C ≤ 100000) (o : Nat) : I192 (sumO C A b x o) := by
  have h1 := dotS_bd hA hx (o * C) C
  have h2 := hb o
  unfold I64 at h2
  unfold I192 sumO
  generalize b[o]?.getD 0 = z at *
  generalize dotS A x (o * C) C = d at *
  omega
theorem shl32_I128 {z : Int} (h : I64 z) : I128 (z * 4294967296) := by unfold I64 at h; unfold I128; omega

theorem eFs1 : ∃ i0, Try.prog.info? 23 = some i0 ∧ i0.zero = some (.int .i64 0) ∧ i0.size = 1 ∧ i0.bytes = 8 := info_parts eFs.inf

/-- A long number's cells at a block. -/
structure LGAt (w : World) (g : Nat) (v : Int) : Prop where
  c0 : w.cell? ⟨g, 0, none⟩ = some (.int .i64 (x2s v))
  c1 : w.cell? ⟨g, 1, none⟩ = some (.int .u64 (x1 v))
  c2 : w.cell? ⟨g, 2, none⟩ = some (.int .u64 (x0 v))
  f : ∀ i, w.frozen? ⟨g, i, none⟩ = false
theorem LGAt.lt {w : World} {g : Nat} {v : Int} (h : LGAt w g v) : g < w.heap.size := World.block_lt_of_cell? _ _ h.c0

theorem LGAt.kept {w w' : World} {g : Nat} {v : Int} (h : LGAt w g v) (hb : Below w.heap.size w w') : LGAt w' g v :=
  ⟨(hb.cell (p := ⟨g, 0, none⟩) h.lt).trans h.c0, (hb.cell (p := ⟨g, 1, none⟩) h.lt).trans h.c1, (hb.cell (p := ⟨g, 2, none⟩) h.lt).trans h.c2, fun i => (hb.frozen (p := ⟨g, i, none⟩) h.lt).trans (h.f i)⟩
theorem LGAt.set {w : World} {g : Nat} {v v' : Int} (h : LGAt w g v) : LGAt (((w.setCell ⟨g, 0, none⟩ (.int .i64 (x2s v'))).setCell ⟨g, 1, none⟩ (.int .u64 (x1 v'))).setCell ⟨g, 2, none⟩ (.int .u64 (x0 v'))) g v' := by
  obtain ⟨c0, c1, c2, f⟩ := h
  exact ⟨by go_simp, by go_simp, by go_simp, fun i => by go_simp⟩
theorem Chg.set3 {a w : World} {g : Nat} {x y z : Value} (h : Chg (fun k => k = g) a w) : Chg (fun k => k = g) a (((w.setCell ⟨g, 0, none⟩ x).setCell ⟨g, 1, none⟩ y).setCell ⟨g, 2, none⟩ z) :=
  ((h.setCell_in ⟨g, 0, none⟩ (show g = g from rfl) x).setCell_in ⟨g, 1, none⟩ (show g = g from rfl) y).setCell_in ⟨g, 2, none⟩ (show g = g from rfl) z
theorem far3 {w : World} {g k i : Nat} {a b c : Value} (h : k ≠ g) : (((w.setCell ⟨g, 0, none⟩ a).setCell ⟨g, 1, none⟩ b).setCell ⟨g, 2, none⟩ c).cell? ⟨k, i, none⟩ = w.cell? ⟨k, i, none⟩ := by
  rw [World.cell?_setCell_far _ _ _ _ (Ne.symm h), World.cell?_setCell_far _ _ _ _ (Ne.symm h), World.cell?_setCell_far _ _ _ _ (Ne.symm h)]

set_option maxHeartbeats 4000000 in
set_option maxRecDepth 100000 in
theorem sums_any (u : Option Nat) (n : Int) (R C nA : Nat) (aA : Option Addr) (cA : Nat) (A : List Int) (ab : Option Addr) (cb : Nat) (b : List Int) (ax : Option Addr) (cx : Nat) (x : List Int) (w : World)
    (hA : Rd w .i64 aA nA A) (hb : Rd w .i64 ab R b) (hx : Rd w .i64 ax C x) (hnA : R * C = nA) (hR : R ≤ 64) (hC : C ≤ 64)
    (oA : ∀ y, aA = some y → ¬ UC u y.block) (ob : ∀ y, ab = some y → ¬ UC u y.block) (ox : ∀ y, ax = some y → ¬ UC u y.block)
    (iA : A64 A) (ib : A64 b) (ix : A64 x) (hu : Un w u n) :
    Calls Try.prog 69 #[.agg #[.int .i64 R, .int .i64 C, .slice aA nA cA, .slice ab R cb], uV u, .slice ax C cx] w fun e w' => ∃ v, e = .returned v ∧ Ow w' w.heap.size 23 .i64 v ((sumsO C A b x R).map near32) ∧ Chg (UC u) w w' ∧ Un w' u (cntL n (sumsO C A b x R)) := by
  obtain ⟨i0, hi, hz0, hz1, hz2⟩ := eFs1
  have HA := Lib.hid hA; have HB := Lib.hid hb; have HX := Lib.hid hx; have HN := Lib.hid hnA
  have OA := Lib.hid oA; have OB := Lib.hid ob; have OX := Lib.hid ox
  have IA := Lib.hid iA; have IB := Lib.hid ib; have IX := Lib.hid ix
  have HU := Lib.hid hu
  have hUlt := Lib.hid (fun k (hk : UC u k) => hu.lt hk)
  clear hA hb hx hnA oA ob ox iA ib ix hu
  generalize huv : uV u = uv at *
  have Huv := Lib.hid huv; clear huv
  go_enter Try.func69, Try.ntmps69
  go_wp2_with (at_make; refine wpList_make_own _ rfl _ _ 22 rfl (w.heap.size + 1) 23 i0 (.int .i64 0) 1 eFs.und hi hz0 hz1 _ _ _ R rfl rfl rfl ?b1 ?b2 ?b3 ?_)
  case b1 => rw [hz2]; omega
  case b2 => unfold maxLen; omega
  case b3 => simp
  intro w1 hown hg
  clear hi hz0 hz1 hz2
  generalize hWb : w.alloc (.cells #[.int .i64 R, .int .i64 C, .slice aA nA cA, .slice ab R cb] 132) = Wb at *
  have hWbz : Wb.heap.size = w.heap.size + 1 := by rw [← hWb]; simp
  have d0 : Wb.cell? ⟨w.heap.size, 0, none⟩ = some (.int .i64 R) := by rw [← hWb]; exact World.cell?_alloc_at _ _ _ _ rfl
  have d1 : Wb.cell? ⟨w.heap.size, 1, none⟩ = some (.int .i64 C) := by rw [← hWb]; exact World.cell?_alloc_at _ _ _ _ rfl
  have d2 : Wb.cell? ⟨w.heap.size, 2, none⟩ = some (.slice aA nA cA) := by rw [← hWb]; exact World.cell?_alloc_at _ _ _ _ rfl
  have d3 : Wb.cell? ⟨w.heap.size, 3, none⟩ = some (.slice ab R cb) := by rw [← hWb]; exact World.cell?_alloc_at _ _ _ _ rfl
  have HWb : Hid (Below w.heap.size w Wb) := Lib.hid (by rw [← hWb]; (repeat first | assumption | exact Below.refl _ _ | refine Below.drew ?_ | refine Below.drewN ?_ _ | refine Below.alloc ?_ (by (first | omega | (simp; done) | (simp; omega))) _ | refine Below.setCell ?_ (by (first | omega | (simp; done) | (simp; omega))) _ | refine Below.trans ?_ (Below.mono (by assumption) (by (first | omega | (simp; done) | (simp; omega))))))
  clear hWb
  have Hc1 : Hid (Chg (UC u) Wb w1) := Lib.hid ⟨hg.os, hg.tape, hg.output, hg.size, fun k hk hs => hg.block k hk (by simp)⟩
  have Ho1 := Lib.hid hown
  have Hnu : Hid (¬ UC u w.heap.size) := Lib.hid (fun h => by have := hUlt.out _ h; omega)
  have HU1 : Hid (Un w1 u n) := Lib.hid (((HU.out.kept HWb.out)).chg (S := fun _ => False) ⟨hg.os, hg.tape, hg.output, hg.size, fun k hk hs => hg.block k hk (by simp)⟩ (fun _ _ h => h))
  have d3' : w1.cell? ⟨w.heap.size, 3, none⟩ = some (.slice ab R cb) := (Hc1.out.cell (by omega) Hnu.out).trans d3
  clear hown hg
  go_wp2
  go_loopw [7, 20] (fun lv k wr => ∃ o : Nat, o ≤ R ∧ k = .int .i64 o ∧ Hid (wr.ownsRow (w.heap.size + 1) 23 1 lv o (((sumsO C A b x o).map near32).map (Value.int .i64))) ∧ Hid (Chg (UC u) Wb wr) ∧ Hid (Un wr u (cntL n (sumsO C A b x o)))) (fun _ k _ => R - (intOf k).toNat)
  case atStart => exact ⟨0, Nat.zero_le _, rfl, Ho1.out, Hc1.out, HU1.out⟩
  case round =>
    obtain ⟨o, ho, rfl, hown, hch, hun⟩ := hrel
    by_cases hlt : o < R
    · obtain ⟨bb, obb, rfl, hbb, hcb⟩ := HB.out.at hlt
      have e0 : wr.cell? ⟨w.heap.size, 0, none⟩ = some (.int .i64 R) := (hch.out.cell (by omega) Hnu.out).trans d0
      have e1 : wr.cell? ⟨w.heap.size, 1, none⟩ = some (.int .i64 C) := (hch.out.cell (by omega) Hnu.out).trans d1
      have e2 : wr.cell? ⟨w.heap.size, 2, none⟩ = some (.slice aA nA cA) := (hch.out.cell (by omega) Hnu.out).trans d2
      have hcb' : wr.cell? ⟨bb, obb + o, none⟩ = some (.int .i64 (b[o]?.getD 0)) := by
        exact ((hch.out.cell (k := bb) (o := obb + o) (by omega) (OB.out _ rfl)).trans (HWb.out.cell (p := ⟨bb, obb + o, none⟩) hbb)).trans hcb
      clear hcb
      have hzr := hch.out.size
      have HOf := Lib.hid (fun w => Of_any (b[o]?.getD 0) w (IB.out o))
      have HSh := Lib.hid (fun w => Shl32_any (b[o]?.getD 0) w)
      have HEx := Lib.hid (fun w => Extend_any (b[o]?.getD 0 * 4294967296) w (shl32_I128 (IB.out o)))
      have Hsum : Hid (b[o]?.getD 0 * 4294967296 + dotS A x (o * C) C = sumO C A b x o) := Lib.hid rfl
      generalize b[o]?.getD 0 = z at *
      generalize hz32 : z * 4294967296 = z32 at *
      clear hz32
      unfold W at HOf HSh HEx
      unfold LG at HEx
      go_wp2_with first
        | ((with_reducible refine (HOf.out _).mono ?_); rintro e w2 ⟨rfl, hb2⟩; have z2 := hb2.size)
        | ((with_reducible refine (HSh.out _).mono ?_); rintro e w3 ⟨rfl, hb3⟩; have z3 := hb3.size)
        | ((with_reducible refine (HEx.out _).mono ?_); rintro e w4 ⟨rfl, hb4⟩; have z4 := hb4.size)
        | fail
      have hgw : w.heap.size < w4.heap.size := by omega
      have Hold : Hid (∀ q i, q < w.heap.size → ¬ UC u q → (w4.alloc (.cells #[.int .i64 (x2s z32), .int .u64 (x1 z32), .int .u64 (x0 z32)] 116)).cell? ⟨q, i, none⟩ = w.cell? ⟨q, i, none⟩) := Lib.hid (fun q i hq hqu => by
        rw [World.cell?_alloc_past _ _ _ (by omega), hb4.cell (p := ⟨q, i, none⟩) (by show q < _; omega), hb3.cell (p := ⟨q, i, none⟩) (by show q < _; omega), hb2.cell (p := ⟨q, i, none⟩) (by show q < _; omega), hch.out.cell (k := q) (o := i) (by omega) hqu, HWb.out.cell (p := ⟨q, i, none⟩) hq])
      have e1g : (w4.alloc (.cells #[.int .i64 (x2s z32), .int .u64 (x1 z32), .int .u64 (x0 z32)] 116)).cell? ⟨w.heap.size, 1, none⟩ = some (.int .i64 C) := by
        rw [World.cell?_alloc_past _ _ _ (by omega), hb4.cell (p := ⟨w.heap.size, 1, none⟩) (by show w.heap.size < _; omega), hb3.cell (p := ⟨w.heap.size, 1, none⟩) (by show w.heap.size < _; omega), hb2.cell (p := ⟨w.heap.size, 1, none⟩) (by show w.heap.size < _; omega)]; exact e1
      have e2g : (w4.alloc (.cells #[.int .i64 (x2s z32), .int .u64 (x1 z32), .int .u64 (x0 z32)] 116)).cell? ⟨w.heap.size, 2, none⟩ = some (.slice aA nA cA) := by
        rw [World.cell?_alloc_past _ _ _ (by omega), hb4.cell (p := ⟨w.heap.size, 2, none⟩) (by show w.heap.size < _; omega), hb3.cell (p := ⟨w.heap.size, 2, none⟩) (by show w.heap.size < _; omega), hb2.cell (p := ⟨w.heap.size, 2, none⟩) (by show w.heap.size < _; omega)]; exact e2
      have HLG : Hid (LGAt (w4.alloc (.cells #[.int .i64 (x2s z32), .int .u64 (x1 z32), .int .u64 (x0 z32)] 116)) w4.heap.size z32) := Lib.hid ⟨World.cell?_alloc_at _ _ _ _ rfl, World.cell?_alloc_at _ _ _ _ rfl, World.cell?_alloc_at _ _ _ _ rfl, fun i => by go_simp⟩
      have HWg : Hid (Below wr.heap.size wr (w4.alloc (.cells #[.int .i64 (x2s z32), .int .u64 (x1 z32), .int .u64 (x0 z32)] 116))) := Lib.hid (by (repeat first | assumption | exact Below.refl _ _ | refine Below.drew ?_ | refine Below.drewN ?_ _ | refine Below.alloc ?_ (by (first | omega | (simp; done) | (simp; omega))) _ | refine Below.setCell ?_ (by (first | omega | (simp; done) | (simp; omega))) _ | refine Below.trans ?_ (Below.mono (by assumption) (by (first | omega | (simp; done) | (simp; omega))))))
      have Hgz : Hid (wr.heap.size ≤ w4.heap.size) := Lib.hid (by omega)
      generalize hWg : w4.alloc (.cells #[.int .i64 (x2s z32), .int .u64 (x1 z32), .int .u64 (x0 z32)] 116) = Wg at *
      have hWgz : Wg.heap.size = w4.heap.size + 1 := by rw [← hWg]; simp
      clear hWg hb2 hb3 hb4 HOf HSh HEx e0 e1 e2 hcb'
      obtain ⟨oc, hoc⟩ : ∃ oc, o * C = oc := ⟨_, rfl⟩
      have hmul : (o : Int) * (C : Int) = (oc : Int) := by rw [← hoc]; simp
      have hocn : oc + C ≤ nA := by
        have h5 : (o + 1) * C ≤ R * C := Nat.mul_le_mul_right _ (by omega)
        rw [HN.out, Nat.add_mul, hoc] at h5
        omega
      have hnA4 : nA ≤ 4096 := by rw [← HN.out]; exact Nat.mul_le_mul hR hC
      have hwm : IntKind.i64.wrap (oc : Int) = (oc : Int) := by rw [IntKind.wrap_i64]; omega
      rw [hoc] at Hsum
      have Hoc := Lib.hid hoc; clear hoc
      generalize hg : w4.heap.size = g at *
      clear hg
      go_loopw [31] (fun j wi => ∃ t : Nat, t ≤ C ∧ j = .int .i64 t ∧ Hid (LGAt wi g (z32 + dotS A x oc t)) ∧ Hid (Chg (fun k => k = g) Wg wi)) (fun j _ => C - (intOf j).toNat)
      case atStart => exact ⟨0, Nat.zero_le _, rfl, Lib.hid (by simpa [dotS] using HLG.out), Chg.refl _ _⟩
      case round =>
        obtain ⟨t, ht, rfl, hlg, hcg⟩ := hrel
        by_cases hlt2 : t < C
        · obtain ⟨ba, oa, rfl, hba, hca⟩ := HA.out.at (i := oc + t) (by omega)
          obtain ⟨bx, obx, rfl, hbx, hcx⟩ := HX.out.at (i := t) hlt2
          obtain ⟨ix, hix⟩ : ∃ ix, oc + t = ix := ⟨_, rfl⟩
          have hadd : (oc : Int) + (t : Int) = (ix : Int) := by omega
          have hwx : IntKind.i64.wrap (ix : Int) = (ix : Int) := by rw [IntKind.wrap_i64]; omega
          have hixn : ix < nA := by omega
          have hIp := IA.out (oc + t)
          have hIq := IX.out t
          have Hd : Hid (z32 + dotS A x oc t + A[oc + t]?.getD 0 * x[t]?.getD 0 = z32 + dotS A x oc (t + 1)) := Lib.hid (by simp only [dotS]; omega)
          rw [hix] at hca hIp Hd
          have ca : wr.cell? ⟨ba, oa + ix, none⟩ = some (.int .i64 (A[ix]?.getD 0)) := ((hcg.out.cell (k := ba) (o := oa + ix) (by omega) (by omega)).trans (Hold.out ba _ hba (OA.out _ rfl))).trans hca
          have cx : wr.cell? ⟨bx, obx + t, none⟩ = some (.int .i64 (x[t]?.getD 0)) := ((hcg.out.cell (k := bx) (o := obx + t) (by omega) (by omega)).trans (Hold.out bx _ hbx (OX.out _ rfl))).trans hcx
          have c1 : wr.cell? ⟨w.heap.size, 1, none⟩ = some (.int .i64 C) := (hcg.out.cell (by omega) (by omega)).trans e1g
          have c2 : wr.cell? ⟨w.heap.size, 2, none⟩ = some (.slice (some ⟨ba, oa, none⟩) nA cA) := (hcg.out.cell (by omega) (by omega)).trans e2g
          obtain ⟨l0, l1, l2, lf⟩ := hlg.out
          have hglt := hlg.out.lt
          have hzi := hcg.out.size
          clear hca hcx hix
          generalize A[ix]?.getD 0 = p at *
          generalize x[t]?.getD 0 = q at *
          generalize hS : z32 + dotS A x oc t = S at *
          have HM := Lib.hid (fun w => Mul_any p q w hIp hIq)
          have HE := Lib.hid (fun w => Extend_any (p * q) w (mul_I128 hIp hIq))
          have HP := Lib.hid (fun w => Plus_any S (p * q) w)
          clear hIp hIq hS
          unfold W at HM HE
          unfold LG at HE HP
          go_wp2
          go_region_with
            (first
              | (go_at_call 85; refine (HM.out _).mono ?_; rintro e w5 ⟨rfl, hb5⟩; have hz5 := hb5.size; obtain ⟨hc5, hf5⟩ := bcell hb5; (try simp at hz5 hc5 hf5); (try have hlt5 : g < w5.heap.size := by omega); (try have hlt5w : w.heap.size < w5.heap.size := by omega); (try have hlt5a : ba < w5.heap.size := by omega); have s5 : w5.cell? ⟨w.heap.size, 1, none⟩ = some (.int .i64 C) ∧ w5.cell? ⟨w.heap.size, 2, none⟩ = some (.slice (some ⟨ba, oa, none⟩) nA cA) ∧ w5.cell? ⟨ba, oa + ix, none⟩ = some (.int .i64 p) := ⟨(hc5 _ _ (by omega)).trans c1, (hc5 _ _ (by omega)).trans c2, (hc5 _ _ (by omega)).trans ca⟩)
              | (go_at_call 87; refine (HE.out _).mono ?_; rintro e w6 ⟨rfl, hb6⟩; have hz6 := hb6.size; obtain ⟨hc6, hf6⟩ := bcell hb6; (try simp at hz6 hc6 hf6); (try have hlt6 : g < w6.heap.size := by omega); (try have hlt6w : w.heap.size < w6.heap.size := by omega); (try have hlt6a : ba < w6.heap.size := by omega); have s6 : w6.cell? ⟨w.heap.size, 1, none⟩ = some (.int .i64 C) ∧ w6.cell? ⟨w.heap.size, 2, none⟩ = some (.slice (some ⟨ba, oa, none⟩) nA cA) ∧ w6.cell? ⟨ba, oa + ix, none⟩ = some (.int .i64 p) := ⟨(hc6 _ _ (by omega)).trans s5.1, (hc6 _ _ (by omega)).trans s5.2.1, (hc6 _ _ (by omega)).trans s5.2.2⟩)
              | (go_at_call 86; refine (HP.out _).mono ?_; rintro e w7 ⟨rfl, hb7⟩; have hz7 := hb7.size; obtain ⟨hc7, hf7⟩ := bcell hb7; (try simp at hz7 hc7 hf7); (try have hlt7 : g < w7.heap.size := by omega); (try have hlt7w : w.heap.size < w7.heap.size := by omega); (try have hlt7a : ba < w7.heap.size := by omega); have s7 : w7.cell? ⟨w.heap.size, 1, none⟩ = some (.int .i64 C) ∧ w7.cell? ⟨w.heap.size, 2, none⟩ = some (.slice (some ⟨ba, oa, none⟩) nA cA) ∧ w7.cell? ⟨ba, oa + ix, none⟩ = some (.int .i64 p) := ⟨(hc7 _ _ (by omega)).trans s6.1, (hc7 _ _ (by omega)).trans s6.2.1, (hc7 _ _ (by omega)).trans s6.2.2⟩))
          all_goals
            have HL7 : Hid (LGAt w7 g S) := Lib.hid (hlg.out.kept (by (repeat first | assumption | exact Below.refl _ _ | refine Below.drew ?_ | refine Below.drewN ?_ _ | refine Below.alloc ?_ (by (first | omega | (simp; done) | (simp; omega))) _ | refine Below.setCell ?_ (by (first | omega | (simp; done) | (simp; omega))) _ | refine Below.trans ?_ (Below.mono (by assumption) (by (first | omega | (simp; done) | (simp; omega)))))))
            have HC7 : Hid (Chg (fun k => k = g) Wg w7) := Lib.hid (by have := hcg.out; (repeat first | assumption | exact Chg.refl _ _ | refine Chg.drew ?_ | refine Chg.drewN ?_ _ | refine Chg.alloc ?_ _ | refine Chg.setCell_in ?_ _ (by first | rfl | simp) _ | refine Chg.setCell ?_ _ (by (first | omega | (simp; done) | (simp; omega))) _ | refine Chg.then_below ?_ (by assumption) (by (first | omega | (simp; done) | (simp; omega)))))
            clear hb5 hb6 hb7 hc5 hc6 hc7 hf5 hf6 hf7 s5 s6 s7
            go_wp2
            go_roundw
            case rel => exact ⟨t + 1, by omega, by go_num, Lib.hid (by rw [← Hd.out]; exact HL7.out.set), Lib.hid HC7.out.set3⟩
            case measure => simp [intOf]; omega
        · obtain rfl : t = C := by omega
          have HBi := Lib.hid (HWg.out.trans (hcg.out.below (by have := Hgz.out; omega) (by rintro k rfl; exact Hgz.out)))
          obtain ⟨l0, l1, l2, lf⟩ := hlg.out
          have hglt := hlg.out.lt
          rw [Hsum.out] at l0 l1 l2
          have HNr := Lib.hid (uNear32_u u _ (sumO t A b x o) wr (hun.out.kept HBi.out) (sumO_I192 IA.out IB.out IX.out (by omega) o))
          rw [Huv.out] at HNr
          unfold LG at HNr
          have Hs1 := Lib.hid (sumsO_succ t A b x o)
          generalize sumO t A b x o = S at *
          go_wp2_with fail
          ((with_reducible refine (HNr.out).mono ?_); rintro e w8 ⟨rfl, hc8, hu8⟩)
          have Hown8 := Lib.hid (ownsRow_chg (ownsRow_kept hown.out HBi.out) hc8 (fun k hk => by have := hUlt.out k hk; omega))
          have Hch8 := Lib.hid ((hch.out.then_below HBi.out (by have := hch.out.size; omega)).trans hc8)
          have hz8 := Hch8.out.size
          have Hu8 := Lib.hid hu8
          clear hc8 hu8 l0 l1 l2 lf hglt
          go_wp2_with (at_builtin; refine wpl_app1 eFs rfl _ _ rfl (w.heap.size + 1) _ o _ rfl (Hown8.out.alloc _) w8.heap.size (.int .i64 (clampI (rne S 4294967296))) rfl (World.cell?_alloc_at _ _ _ _ rfl) rfl ?c3 ?c4 ?c5 ?_)
          case c3 => unfold maxLen; omega
          case c4 => omega
          case c5 => simp; omega
          intro v' w9 hown9 hg9
          have Hch9 := Lib.hid (Chg.grownOf (Hch8.out.alloc _) (Hown8.out.alloc _) hg9 (by omega))
          have Hu9 := Lib.hid (Un.grown (Hu8.out.kept ((Below.refl _ _).alloc (Nat.le_refl _) _)) (Hown8.out.alloc _) hg9 (fun k hk => by have := hUlt.out k hk; omega))
          have Hown9 := Lib.hid hown9
          clear hown9 hg9
          go_wp2
          go_roundw
          case rel => exact ⟨o + 1, by omega, by go_num, Lib.hid (by rw [Hs1.out]; simpa [near32] using Hown9.out), Hch9.out, Lib.hid (by rw [Hs1.out, cntL_snoc]; exact Hu9.out)⟩
          case measure => simp [intOf]; omega
    · obtain rfl : o = R := by omega
      go_wp2
      go_ret
      exact ⟨_, rfl, Ow.mono (Ow.of hown.out) (Nat.le_succ _), hch.out.after_below HWb.out, hun.out⟩
end Go.Proofs.Ytkmfdggodinjaaa
