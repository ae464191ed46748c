/-
  regattaref02: quotients.
-/
import Derived.Test.YthingodgjeicpaaRefE
import Derived.Test.YthingodgjeicpaaQuoB
import Derived.Test.YthingodgjeicpaaRegW
namespace Go.Proofs.Ythingodgjeicpaa
open Go.RowKit
set_option linter.unusedVariables false
set_option linter.unusedSimpArgs false

theorem BGAt.at {w : World} {g : Nat} {v : Int} (h : BGAt w g v) {i : Nat} (hi : i < 6) : w.cell? ⟨g, i, none⟩ = some (.int .u64 (dg v i)) := by
  match i, hi with
  | 0, _ => exact h.c0
  | 1, _ => exact h.c1
  | 2, _ => exact h.c2
  | 3, _ => exact h.c3
  | 4, _ => exact h.c4
  | 5, _ => exact h.c5
/-- Six words at a block. -/
structure QA (w : World) (g : Nat) (f : Nat → Int) : Prop where
  c : ∀ i, i < 6 → w.cell? ⟨g, i, none⟩ = some (.int .u64 (f i))
  z : ∀ i, w.frozen? ⟨g, i, none⟩ = false
theorem QA.lt {w : World} {g : Nat} {f : Nat → Int} (h : QA w g f) : g < w.heap.size := World.block_lt_of_cell? _ _ (h.c 0 (by omega))
theorem QA.kept {w w' : World} {g : Nat} {f : Nat → Int} (h : QA w g f) (hb : Below w.heap.size w w') : QA w' g f :=
  ⟨fun i hi => (hb.cell (p := ⟨g, i, none⟩) h.lt).trans (h.c i hi), fun i => (hb.frozen (p := ⟨g, i, none⟩) h.lt).trans (h.z i)⟩
theorem QA.set {w : World} {g : Nat} {f : Nat → Int} (h : QA w g f) {i : Nat} (hi : i < 6) (v : Int) : QA (w.setCell ⟨g, i, none⟩ (.int .u64 v)) g (fun j => if j = i then v else f j) := by
  have hz := h.z
  have hci := h.c i hi
  refine ⟨fun j hj => ?_, fun j => by go_simp⟩
  have hcj := h.c j hj
  by_cases e : j = i
  · subst e
    simp only [if_true]
    go_simp
  · simp only [if_neg e]
    go_simp
theorem QA.far {w : World} {g k : Nat} {f : Nat → Int} (h : QA w k f) (hk : k ≠ g) (i : Nat) (v : Value) : QA (w.setCell ⟨g, i, none⟩ v) k f :=
  ⟨fun j hj => (World.cell?_setCell_far _ _ _ _ (Ne.symm hk)).trans (h.c j hj), fun j => by have := h.z j; go_simp⟩
theorem BGAt.far1 {w : World} {g k : Nat} {x : Int} (h : BGAt w k x) (hk : k ≠ g) (i : Nat) (v : Value) : BGAt (w.setCell ⟨g, i, none⟩ v) k x := by
  have e : ∀ j, (w.setCell ⟨g, i, none⟩ v).cell? ⟨k, j, none⟩ = w.cell? ⟨k, j, none⟩ := fun j => World.cell?_setCell_far _ _ _ _ (Ne.symm hk)
  exact ⟨(e _).trans h.c0, (e _).trans h.c1, (e _).trans h.c2, (e _).trans h.c3, (e _).trans h.c4, (e _).trans h.c5, fun j => by have := h.f j; go_simp⟩
theorem QA.bg {w : World} {g : Nat} {f : Nat → Int} {v : Int} (h : QA w g f) (hf : ∀ i, i < 6 → f i = dg v i) : BGAt w g v := by
  have e : ∀ i, i < 6 → w.cell? ⟨g, i, none⟩ = some (.int .u64 (dg v i)) := fun i hi => by rw [← hf i hi]; exact h.c i hi
  exact ⟨e 0 (by omega), e 1 (by omega), e 2 (by omega), e 3 (by omega), e 4 (by omega), e 5 (by omega), h.z⟩
theorem QA.zero (w : World) : QA (w.alloc (.cells #[.int .u64 0, .int .u64 0, .int .u64 0, .int .u64 0, .int .u64 0, .int .u64 0] 89)) w.heap.size (fun _ => 0) := by
  refine ⟨fun i hi => ?_, fun i => by go_simp⟩
  match i, hi with
  | 0, _ => exact World.cell?_alloc_at _ _ _ _ rfl
  | 1, _ => exact World.cell?_alloc_at _ _ _ _ rfl
  | 2, _ => exact World.cell?_alloc_at _ _ _ _ rfl
  | 3, _ => exact World.cell?_alloc_at _ _ _ _ rfl
  | 4, _ => exact World.cell?_alloc_at _ _ _ _ rfl
  | 5, _ => exact World.cell?_alloc_at _ _ _ _ rfl

def fO (M d : Int) (i : Nat) : Nat → Int := fun j => if i ≤ j then dg (M / d) j else 0
def fI (M d : Int) (i e : Nat) : Nat → Int := fun j => if i < j then dg (M / d) j else if j = i then qgN M d i e else 0
theorem fI_top (M d : Int) (i : Nat) : fI M d i 32 = fO M d (i + 1) := by
  funext j
  unfold fI fO
  rw [qgN_top]
  by_cases h : i < j
  · rw [if_pos h, if_pos (show i + 1 ≤ j by omega)]
  · rw [if_neg h, if_neg (show ¬ i + 1 ≤ j by omega)]; split <;> rfl
theorem fI_zero (M d : Int) (i : Nat) : fI M d i 0 = fO M d i := by
  funext j
  unfold fI fO
  rw [qgN_zero]
  by_cases h : i < j
  · rw [if_pos h, if_pos (by omega)]
  · by_cases h2 : j = i
    · rw [if_neg h, if_pos h2, if_pos (by omega), h2]
    · rw [if_neg h, if_neg h2, if_neg (by omega)]
theorem fI_at (M d : Int) (i e : Nat) : fI M d i e i = qgN M d i e := by unfold fI; rw [if_neg (by omega), if_pos rfl]
theorem fI_set (M d : Int) (i e e' : Nat) : (fun j => if j = i then qgN M d i e' else fI M d i e j) = fI M d i e' := by
  funext j
  unfold fI
  by_cases h : j = i
  · rw [if_pos h, if_neg (by omega), if_pos h]
  · rw [if_neg h, if_neg h, if_neg h]
theorem fO_top (M : Int) {d : Int} (h : U192 M) (hd : 0 < d) (j : Nat) (hj : j < 6) : (0 : Int) = fO M d 6 j := by unfold fO; rw [if_neg (by omega)]

theorem QA.set2 {w : World} {g : Nat} {f : Nat → Int} (h : QA w g f) {i : Nat} (hi : i < 6) (v u : Int) : QA ((w.setCell ⟨g, i, none⟩ (.int .u64 v)).setCell ⟨g, i, none⟩ (.int .u64 u)) g (fun j => if j = i then u else f j) := by
  have h2 := (h.set hi v).set hi u
  have e : (fun j => if j = i then u else if j = i then v else f j) = (fun j => if j = i then u else f j) := by
    funext j
    split <;> rfl
  rw [e] at h2
  exact h2

set_option maxHeartbeats 3200000 in
set_option maxRecDepth 100000 in
theorem bQuo_any (p n d : Int) (w : World) (hp : U192 p) (hn : U192 n) (hM : absN (p - n) < 3138550867693340381917894711603833208051177722232017256448) (hd : 0 < d) (hd2 : d ≤ 4611686018427387904) :
    Calls Try.prog 39 #[SG p n, .int .i64 d] w fun e w' => e = .returned (.tuple #[.int .i64 (clampI (rne (p - n) d)), .bool (over (rne (p - n) d))]) ∧ Below w.heap.size w w' := by
  have HW := Lib.hid (fun w => bWhole_any p n w hp hn)
  have HS := Lib.hid (fun w => bSize_any d w (by unfold I64; omega))
  rw [show absN d = d by unfold absN; rw [if_neg (by omega)]] at HS
  have hM0 : 0 ≤ absN (p - n) := by unfold absN; split <;> omega
  have hMu : U192 (absN (p - n)) := by unfold U192; omega
  generalize hMd : absN (p - n) = M at *
  have hsg : rne (p - n) d = sgn (decide (p < n)) (rne M d) := by
    unfold sgn absN at *
    by_cases h : p < n
    · rw [decide_eq_true h]
      rw [if_pos (by omega)] at hMd
      rw [← hMd, rne_neg _ _ hd, Int.neg_neg]
      simp
    · rw [decide_eq_false h]
      rw [if_neg (by omega)] at hMd
      rw [hMd]
      simp
  obtain ⟨R, hR⟩ : ∃ R, rne M d = R := ⟨_, rfl⟩
  rw [hsg, hR]
  have HR := Lib.hid hR
  clear hsg hR
  go_enter Try.func39, Try.ntmps39
  go_wp2_with fail
  ((with_reducible refine (HW.out _).mono ?_); rintro e w1 ⟨rfl, hb1⟩)
  go_wp2_with fail
  ((with_reducible refine (HS.out _).mono ?_); rintro e w2 ⟨rfl, rfl⟩)
  have hgw : w.heap.size ≤ w1.heap.size := by have := hb1.size; simp at this; omega
  have Hb1 : Hid (Below w.heap.size w w1) := Lib.hid (by (repeat first | assumption | exact Below.refl _ _ | refine Below.drew ?_ | refine Below.drewN ?_ _ | refine Below.alloc ?_ (by (first | omega | (simp; done) | (simp; omega))) _ | refine Below.setCell ?_ (by (first | omega | (simp; done) | (simp; omega))) _ | refine Below.trans ?_ (Below.mono (by assumption) (by (first | omega | (simp; done) | (simp; omega))))))
  have HGM : Hid (BGAt ((w1.alloc (.cells (BGc M) 89)).alloc (.cells #[.int .u64 0, .int .u64 0, .int .u64 0, .int .u64 0, .int .u64 0, .int .u64 0] 89)) w1.heap.size M) := Lib.hid ((BGAt.alloc w1 M).kept ((Below.refl _ _).alloc (Nat.le_refl _) _))
  have HQ0 : Hid (QA ((w1.alloc (.cells (BGc M) 89)).alloc (.cells #[.int .u64 0, .int .u64 0, .int .u64 0, .int .u64 0, .int .u64 0, .int .u64 0] 89)) (w1.heap.size + 1) (fun _ => 0)) := Lib.hid (by
    have h := QA.zero (w1.alloc (.cells (BGc M) 89))
    rw [show (w1.alloc (.cells (BGc M) 89)).heap.size = w1.heap.size + 1 by simp] at h
    exact h)
  have Hb3 : Hid (Below w.heap.size w ((w1.alloc (.cells (BGc M) 89)).alloc (.cells #[.int .u64 0, .int .u64 0, .int .u64 0, .int .u64 0, .int .u64 0, .int .u64 0] 89))) := Lib.hid ((Hb1.out.alloc hgw _).alloc (by simp; omega) _)
  clear hb1 HW HS
  go_wp2
  generalize hW3 : ((w1.alloc (.cells (BGc M) 89)).alloc (.cells #[.int .u64 0, .int .u64 0, .int .u64 0, .int .u64 0, .int .u64 0, .int .u64 0] 89)) = W3 at *
  generalize w1.heap.size = gm at *
  clear hW3 Hb1
  have hq6 : qd M 6 = 0 := qd_top hMu
  go_loopw [10, 11] (fun rv iv wr => ∃ (i : Nat) (iz : Int), i ≤ 6 ∧ iz = (i : Int) - 1 ∧ iv = .int .i64 iz ∧ rv = .int .u64 (qd M i % d) ∧ Hid (QA wr (gm + 1) (fO M d i)) ∧ Hid (BGAt wr gm M) ∧ Hid (Below w.heap.size w wr)) (fun _ iv _ => (intOf iv + 1).toNat)
  case atStart => exact ⟨6, 5, Nat.le_refl _, by omega, rfl, by rw [hq6, Int.zero_emod], Lib.hid ⟨fun j hj => by rw [← fO_top M hMu hd j hj]; exact HQ0.out.c j hj, HQ0.out.z⟩, HGM.out, Hb3.out⟩
  case round =>
    obtain ⟨i, iz, hi, hiz, rfl, rfl, hqa, hbg, hbb⟩ := hrel
    by_cases h0 : 0 < i
    · obtain ⟨i', rfl⟩ : ∃ i', i = i' + 1 := ⟨i - 1, by omega⟩
      obtain rfl : iz = (i' : Int) := by omega
      clear hiz
      have hi0 : (0 : Int) ≤ (i' : Int) := by omega
      have hi6 : (i' : Int) < 6 := by omega
      have hi6n : i' < 6 := by omega
      have hzr := hbb.out.size
      go_wp2
      go_loopw [10, 12] (fun rv kv wr' => ∃ (e : Nat) (kz : Int), e ≤ 32 ∧ kz = (e : Int) - 1 ∧ kv = .int .i64 kz ∧ rv = .int .u64 (rsN M d i' e) ∧ Hid (QA wr' (gm + 1) (fI M d i' e)) ∧ Hid (BGAt wr' gm M) ∧ Hid (Below w.heap.size w wr')) (fun _ kv _ => (intOf kv + 1).toNat)
      case atStart => exact ⟨32, 31, Nat.le_refl _, by omega, rfl, by rw [rsN_top], Lib.hid (by rw [fI_top]; exact hqa.out), hbg.out, hbb.out⟩
      case round =>
        rename World => wi
        obtain ⟨e, kz, he, hkz, rfl, rfl, hqa, hbg, hbi⟩ := hrel
        by_cases h0 : 0 < e
        · obtain ⟨k, rfl⟩ : ∃ k, e = k + 1 := ⟨e - 1, by omega⟩
          obtain rfl : kz = (k : Int) := by omega
          clear hkz
          have hk0 : (0 : Int) ≤ (k : Int) := by omega
          have cm := hbg.out.at hi6n
          have cq := hqa.out.c i' hi6n
          have zq := hqa.out.z i'
          rw [fI_at] at cq
          have hstep := rq_step M hd i' (show k < 32 by omega)
          have hr := rsN_bd M hd i' (k + 1)
          have hqb := qgN_bd M d i' (k + 1)
          have hmb := dg_bd M i'
          generalize rsN M d i' (k + 1) = r at *
          generalize qgN M d i' (k + 1) = q at *
          generalize dg M i' = D at *
          have hD0 : 0 ≤ D / 2 ^ k := Int.ediv_nonneg hmb.1 (by have := two_pow_pos k; omega)
          have ht : (D / 2 ^ k).tmod 2 = D / 2 ^ k % 2 := Int.tmod_eq_emod_of_nonneg hD0
          have hb01 : 0 ≤ D / 2 ^ k % 2 ∧ D / 2 ^ k % 2 ≤ 1 := by omega
          generalize D / 2 ^ k % 2 = b at *
          have hw1 : IntKind.u64.wrap (2 * r + b) = 2 * r + b := by rw [IntKind.wrap_u64]; omega
          have hw2 : IntKind.u64.wrap (2 * q) = 2 * q := by rw [IntKind.wrap_u64]; omega
          have hw3 : IntKind.u64.wrap (2 * r) = 2 * r := by rw [IntKind.wrap_u64]; omega
          have hw4 : IntKind.u64.wrap (2 * q + 1) = 2 * q + 1 := by rw [IntKind.wrap_u64]; omega
          have hw0 : IntKind.u64.wrap b = b := by rw [IntKind.wrap_u64]; omega
          have hgm : gm ≠ gm + 1 := by omega
          have hwg : w.heap.size ≤ gm + 1 := by omega
          by_cases hge : d ≤ 2 * r + b
          · obtain ⟨k1, k2⟩ := hstep.1 hge
            have hw5 : IntKind.u64.wrap (2 * r + b - d) = 2 * r + b - d := by rw [IntKind.wrap_u64]; omega
            have HQ := Lib.hid (hqa.out.set2 hi6n (2 * q) (qgN M d i' k))
            rw [fI_set] at HQ
            rw [k2] at HQ
            have HG := Lib.hid ((hbg.out.far1 hgm i' (.int .u64 (2 * q))).far1 hgm i' (.int .u64 (2 * q + 1)))
            have HB := Lib.hid ((hbi.out.setCell (p := ⟨gm + 1, i', none⟩) hwg (.int .u64 (2 * q))).setCell (p := ⟨gm + 1, i', none⟩) hwg (.int .u64 (2 * q + 1)))
            have K1 := Lib.hid k1
            clear hstep k1 k2 hqa hbg hbi
            go_wp2
            go_roundw
            case rel => exact ⟨k, (k : Int) - 1, by omega, rfl, by first | rfl | go_num, by rw [K1.out], HQ.out, HG.out, HB.out⟩
            case measure => first | (simp [intOf]; done) | (simp [intOf]; omega)
          · obtain ⟨k1, k2⟩ := hstep.2 (by omega)
            have HQ := Lib.hid (hqa.out.set hi6n (qgN M d i' k))
            rw [fI_set] at HQ
            rw [k2] at HQ
            have HG := Lib.hid (hbg.out.far1 hgm i' (.int .u64 (2 * q)))
            have HB := Lib.hid (hbi.out.setCell (p := ⟨gm + 1, i', none⟩) hwg (.int .u64 (2 * q)))
            have K1 := Lib.hid k1
            clear hstep k1 k2 hqa hbg hbi
            go_wp2
            go_roundw
            case rel => exact ⟨k, (k : Int) - 1, by omega, rfl, by first | rfl | go_num, by rw [K1.out], HQ.out, HG.out, HB.out⟩
            case measure => first | (simp [intOf]; done) | (simp [intOf]; omega)
        · obtain rfl : e = 0 := by omega
          obtain rfl : kz = -1 := by omega
          rw [rsN_zero]
          have HQ : Hid (QA wi (gm + 1) (fO M d i')) := Lib.hid (by rw [← fI_zero]; exact hqa.out)
          clear hqa hkz
          go_wp2
          go_roundw
          case rel => exact ⟨i', (i' : Int) - 1, by omega, rfl, by first | rfl | go_num, rfl, HQ.out, hbg.out, hbi.out⟩
          case measure => first | (simp [intOf]; done) | (simp [intOf]; omega)
    · obtain rfl : i = 0 := by omega
      obtain rfl : iz = -1 := by omega
      have HQb : Hid (BGAt wr (gm + 1) (M / d)) := Lib.hid (hqa.out.bg (fun j _ => by unfold fO; rw [if_pos (by omega)]))
      clear hqa hiz
      have e0 : qd M 0 = M := rfl
      rw [e0]
      have hr0 := Int.emod_nonneg M (b := d) (by omega)
      have hr1 := Int.emod_lt_of_pos M hd
      have hqr := quo_rne (m := M) hd
      rw [← dg_even (M / d)] at hqr
      generalize hrr : M % d = r at *
      clear hrr e0 hq6
      have hdr : IntKind.u64.wrap (d - r) = d - r := by rw [IntKind.wrap_u64]; omega
      have hz := dg_bd (M / d) 0
      have ht0 : (dg (M / d) 0).tmod 2 = dg (M / d) 0 % 2 := Int.tmod_eq_emod_of_nonneg hz.1
      have hc0 := HQb.out.c0
      have hsz : decide (d < 0) = false := by rw [decide_eq_false_iff_not]; omega
      have hcs : (d - r < r) ∨ (¬ d - r < r ∧ (r == d - r) = true ∧ (dg (M / d) 0 % 2 == 1) = true) ∨ (¬ d - r < r ∧ (r == d - r) = true ∧ (dg (M / d) 0 % 2 == 1) = false) ∨ (¬ d - r < r ∧ (r == d - r) = false) := by
        simp only [beq_iff_eq, beq_eq_false_iff_ne]; omega
      rcases hcs with k1 | ⟨k1, k2, k3⟩ | ⟨k1, k2, k3⟩ | ⟨k1, k2⟩
      · have eq : rne M d = M / d + 1 := by rw [hqr, if_pos (by omega)]
        have HRq : Hid (R = M / d + 1) := Lib.hid (by rw [← HR.out, eq])
        have hdb : 0 ≤ M / d ∧ M / d ≤ M := ⟨Int.ediv_nonneg hM0 (by omega), Int.ediv_le_self _ hM0⟩
        have HO := Lib.hid (fun w => bOne0_any 1 w (by omega) (by omega))
        rw [show (1 : Int) * 1 = 1 from rfl] at HO
        have HP := Lib.hid (fun w => bPlus_any (M / d) 1 w)
        have HC := Lib.hid (fun b w => bClamp_any b (M / d + 1) w (by unfold U192; omega))
        clear hqr eq HR hMd hM hMu hM0 hdb
        generalize hQ1 : M / d + 1 = Q1 at *
        generalize M / d = q at *
        clear hQ1
        have hgw2 : w.heap.size ≤ gm + 1 := by omega
        obtain ⟨u0, u1, u2, u3, u4, u5, uf⟩ := HQb.out
        have hlt := HQb.out.lt
        go_wp2
        go_region_with (first
          | ((with_reducible refine (HO.out _).mono ?_); rintro e w5 ⟨rfl, hb5⟩; have z5 := hb5.size; (try simp at z5); have k5 := HQb.out.kept (w' := w5) (by (repeat first | assumption | exact Below.refl _ _ | refine Below.drew ?_ | refine Below.drewN ?_ _ | refine Below.alloc ?_ (by (first | omega | (simp; done) | (simp; omega))) _ | refine Below.setCell ?_ (by (first | omega | (simp; done) | (simp; omega))) _ | refine Below.trans ?_ (Below.mono (by assumption) (by (first | omega | (simp; done) | (simp; omega)))))); have k5' := k5; obtain ⟨v0, v1, v2, v3, v4, v5, vf⟩ := k5')
          | ((with_reducible refine (HP.out _).mono ?_); rintro e w6 ⟨rfl, hb6⟩; have z6 := hb6.size; (try simp at z6); have k6 := HQb.out.kept (w' := w6) (by (repeat first | assumption | exact Below.refl _ _ | refine Below.drew ?_ | refine Below.drewN ?_ _ | refine Below.alloc ?_ (by (first | omega | (simp; done) | (simp; omega))) _ | refine Below.setCell ?_ (by (first | omega | (simp; done) | (simp; omega))) _ | refine Below.trans ?_ (Below.mono (by assumption) (by (first | omega | (simp; done) | (simp; omega)))))); have k6' := k6; obtain ⟨x0, x1, x2, x3, x4, x5, xf⟩ := k6'))
        all_goals
          have HW7 := Lib.hid (k6.set Q1)
          have Hb6 : Hid (Below wr.heap.size wr w6) := Lib.hid (by (repeat first | assumption | exact Below.refl _ _ | refine Below.drew ?_ | refine Below.drewN ?_ _ | refine Below.alloc ?_ (by (first | omega | (simp; done) | (simp; omega))) _ | refine Below.setCell ?_ (by (first | omega | (simp; done) | (simp; omega))) _ | refine Below.trans ?_ (Below.mono (by assumption) (by (first | omega | (simp; done) | (simp; omega))))))
          have HB7 : Hid (Below w.heap.size w (set6 w6 (gm + 1) Q1)) := Lib.hid (set6_below (hbb.out.trans (Hb6.out.mono hbb.out.size)) hgw2)
          clear hb5 hb6 k5 k6 v0 v1 v2 v3 v4 v5 vf x0 x1 x2 x3 x4 x5 xf u0 u1 u2 u3 u4 u5 uf
          obtain ⟨y0, y1, y2, y3, y4, y5, yf⟩ := HW7.out
          go_wp2_with fail
          ((with_reducible refine (HC.out _ _).mono ?_); rintro e w8 ⟨rfl, hb8⟩)
          have HB8 : Hid (Below w.heap.size w w8) := Lib.hid (HB7.out.trans (hb8.mono HB7.out.size))
          clear hb8 y0 y1 y2 y3 y4 y5 yf
          go_wp2
          go_ret2
          exact ⟨by rw [HRq.out]; rfl, HB8.out⟩
      · have eq : rne M d = M / d + 1 := by rw [hqr, if_pos (by simp only [beq_iff_eq] at k2 k3; omega)]
        have HRq : Hid (R = M / d + 1) := Lib.hid (by rw [← HR.out, eq])
        have hdb : 0 ≤ M / d ∧ M / d ≤ M := ⟨Int.ediv_nonneg hM0 (by omega), Int.ediv_le_self _ hM0⟩
        have HO := Lib.hid (fun w => bOne0_any 1 w (by omega) (by omega))
        rw [show (1 : Int) * 1 = 1 from rfl] at HO
        have HP := Lib.hid (fun w => bPlus_any (M / d) 1 w)
        have HC := Lib.hid (fun b w => bClamp_any b (M / d + 1) w (by unfold U192; omega))
        clear hqr eq HR hMd hM hMu hM0 hdb
        generalize hQ1 : M / d + 1 = Q1 at *
        generalize M / d = q at *
        clear hQ1
        have hgw2 : w.heap.size ≤ gm + 1 := by omega
        obtain ⟨u0, u1, u2, u3, u4, u5, uf⟩ := HQb.out
        have hlt := HQb.out.lt
        go_wp2
        go_region_with (first
          | ((with_reducible refine (HO.out _).mono ?_); rintro e w5 ⟨rfl, hb5⟩; have z5 := hb5.size; (try simp at z5); have k5 := HQb.out.kept (w' := w5) (by (repeat first | assumption | exact Below.refl _ _ | refine Below.drew ?_ | refine Below.drewN ?_ _ | refine Below.alloc ?_ (by (first | omega | (simp; done) | (simp; omega))) _ | refine Below.setCell ?_ (by (first | omega | (simp; done) | (simp; omega))) _ | refine Below.trans ?_ (Below.mono (by assumption) (by (first | omega | (simp; done) | (simp; omega)))))); have k5' := k5; obtain ⟨v0, v1, v2, v3, v4, v5, vf⟩ := k5')
          | ((with_reducible refine (HP.out _).mono ?_); rintro e w6 ⟨rfl, hb6⟩; have z6 := hb6.size; (try simp at z6); have k6 := HQb.out.kept (w' := w6) (by (repeat first | assumption | exact Below.refl _ _ | refine Below.drew ?_ | refine Below.drewN ?_ _ | refine Below.alloc ?_ (by (first | omega | (simp; done) | (simp; omega))) _ | refine Below.setCell ?_ (by (first | omega | (simp; done) | (simp; omega))) _ | refine Below.trans ?_ (Below.mono (by assumption) (by (first | omega | (simp; done) | (simp; omega)))))); have k6' := k6; obtain ⟨x0, x1, x2, x3, x4, x5, xf⟩ := k6'))
        all_goals
          have HW7 := Lib.hid (k6.set Q1)
          have Hb6 : Hid (Below wr.heap.size wr w6) := Lib.hid (by (repeat first | assumption | exact Below.refl _ _ | refine Below.drew ?_ | refine Below.drewN ?_ _ | refine Below.alloc ?_ (by (first | omega | (simp; done) | (simp; omega))) _ | refine Below.setCell ?_ (by (first | omega | (simp; done) | (simp; omega))) _ | refine Below.trans ?_ (Below.mono (by assumption) (by (first | omega | (simp; done) | (simp; omega))))))
          have HB7 : Hid (Below w.heap.size w (set6 w6 (gm + 1) Q1)) := Lib.hid (set6_below (hbb.out.trans (Hb6.out.mono hbb.out.size)) hgw2)
          clear hb5 hb6 k5 k6 v0 v1 v2 v3 v4 v5 vf x0 x1 x2 x3 x4 x5 xf u0 u1 u2 u3 u4 u5 uf
          obtain ⟨y0, y1, y2, y3, y4, y5, yf⟩ := HW7.out
          go_wp2_with fail
          ((with_reducible refine (HC.out _ _).mono ?_); rintro e w8 ⟨rfl, hb8⟩)
          have HB8 : Hid (Below w.heap.size w w8) := Lib.hid (HB7.out.trans (hb8.mono HB7.out.size))
          clear hb8 y0 y1 y2 y3 y4 y5 yf
          go_wp2
          go_ret2
          exact ⟨by rw [HRq.out]; rfl, HB8.out⟩
      · have eq : rne M d = M / d := by rw [hqr, if_neg (by simp only [beq_iff_eq, beq_eq_false_iff_ne] at k2 k3; omega)]
        have HRq : Hid (R = M / d) := Lib.hid (by rw [← HR.out, eq])
        have hdb : 0 ≤ M / d ∧ M / d ≤ M := ⟨Int.ediv_nonneg hM0 (by omega), Int.ediv_le_self _ hM0⟩
        have HC := Lib.hid (fun b w => bClamp_any b (M / d) w (by unfold U192; omega))
        clear hqr eq HR hMd hM hMu hM0 hdb
        generalize M / d = q at *
        obtain ⟨u0, u1, u2, u3, u4, u5, uf⟩ := HQb.out
        go_wp2_with fail
        ((with_reducible refine (HC.out _ _).mono ?_); rintro e w8 ⟨rfl, hb8⟩)
        have HB8 : Hid (Below w.heap.size w w8) := Lib.hid (hbb.out.trans (hb8.mono hbb.out.size))
        clear hb8 u0 u1 u2 u3 u4 u5 uf
        go_wp2
        go_ret2
        exact ⟨by rw [HRq.out]; rfl, HB8.out⟩
      · have eq : rne M d = M / d := by rw [hqr, if_neg (by simp only [beq_eq_false_iff_ne] at k2; omega)]
        have HRq : Hid (R = M / d) := Lib.hid (by rw [← HR.out, eq])
        have hdb : 0 ≤ M / d ∧ M / d ≤ M := ⟨Int.ediv_nonneg hM0 (by omega), Int.ediv_le_self _ hM0⟩
        have HC := Lib.hid (fun b w => bClamp_any b (M / d) w (by unfold U192; omega))
        clear hqr eq HR hMd hM hMu hM0 hdb
        generalize M / d = q at *
        obtain ⟨u0, u1, u2, u3, u4, u5, uf⟩ := HQb.out
        go_wp2_with fail
        ((with_reducible refine (HC.out _ _).mono ?_); rintro e w8 ⟨rfl, hb8⟩)
        have HB8 : Hid (Below w.heap.size w w8) := Lib.hid (hbb.out.trans (hb8.mono hbb.out.size))
        clear hb8 u0 u1 u2 u3 u4 u5 uf
        go_wp2
        go_ret2
        exact ⟨by rw [HRq.out]; rfl, HB8.out⟩
end Go.Proofs.Ythingodgjeicpaa
