/-
  Layer mlp: the slope ahead of a layer; nothing is counted.
-/
import Derived.Test.YthingodgjeicpaaMlpC
namespace Go.Proofs.Ythingodgjeicpaa
open Go.RowKit
set_option linter.unusedVariables false
set_option linter.unusedSimpArgs false

/-- The sum of the first k products of slopes and a layer's column i. -/
def dotB (s A : List Int) (C i : Nat) : Nat → Int
  | 0 => 0
  | k + 1 => dotB s A C i k + s[k]?.getD 0 * A[k * C + i]?.getD 0
def backO (s A : List Int) (R C : Nat) (v : List Int) (i : Nat) : Int := if v[i]?.getD 0 ≤ 0 then 0 else near32 (dotB s A C i R)
def backs (s A : List Int) (R C : Nat) (v : List Int) (k : Nat) : List Int := (List.range k).map (backO s A R C v)
theorem backs_succ (s A : List Int) (R C : Nat) (v : List Int) (k : Nat) : backs s A R C v (k + 1) = backs s A R C v k ++ [backO s A R C v k] := by simp [backs, List.range_succ]
theorem dotB_bd {s A : List Int} (hs : A64 s) (hA : A64 A) (C i : Nat) : ∀ k, -(k * 85070591730234615865843651857942052864) ≤ dotB s A C i k ∧ dotB s A C i k ≤ k * 85070591730234615865843651857942052864
  | 0 => by simp [dotB]
  | k + 1 => by
    have h1 := dotB_bd hs hA C i k
    have h2 := mul_bd (hs k) (hA (k * C + i))
    simp only [dotB]
    generalize s[k]?.getD 0 * A[k * C + i]?.getD 0 = p at *
    omega
theorem dotB_I192 {s A : List Int} (hs : A64 s) (hA : A64 A) {R : Nat} (hR : R ≤ 100000) (C i : Nat) : I192 (dotB s A C i R) := by
  have h1 := dotB_bd hs hA C i R
  unfold I192
  generalize dotB s A C i R = d at *
  omega
theorem x_zero : x2s 0 = 0 ∧ x1 0 = 0 ∧ x0 0 = 0 := by
  refine ⟨?_, ?_, ?_⟩
  · unfold x2s wrap64; omega
  · unfold x1; omega
  · unfold x0; omega

set_option maxHeartbeats 4000000 in
set_option maxRecDepth 100000 in
theorem back_any (R C nA nb : Nat) (aA : Option Addr) (cA : Nat) (A : List Int) (ab : Option Addr) (cb : Nat) (aS : Option Addr) (cs : Nat) (s : List Int) (av : Option Addr) (cv : Nat) (v : List Int) (w : World)
    (hA : Rd w .i64 aA nA A) (hs : Rd w .i64 aS R s) (hv : Rd w .i64 av C v) (hnA : R * C = nA) (hR : R ≤ 64) (hC : C ≤ 64)
    (iA : A64 A) (iS : A64 s) :
    Calls Try.prog 51 #[.agg #[.int .i64 R, .int .i64 C, .slice aA nA cA, .slice ab nb cb], .pointer none, .slice aS R cs, .slice av C cv] w fun e w' => ∃ z, e = .returned z ∧ Ow w' w.heap.size 38 .i64 z (backs s A R C v C) ∧ Below w.heap.size w w' := by
  obtain ⟨i0, hi, hz0, hz1, hz2⟩ := eFs1
  have HA := Lib.hid hA; have HS := Lib.hid hs; have HV := Lib.hid hv; have HN := Lib.hid hnA
  have IA := Lib.hid iA; have IS := Lib.hid iS
  clear hA hs hv hnA iA iS
  go_enter Try.func51, Try.ntmps51
  go_wp2_with (at_make; refine wpList_make_own _ rfl _ _ 26 rfl (w.heap.size + 1) 38 i0 (.int .i64 0) 1 eFs.und hi hz0 hz1 _ _ _ C rfl rfl rfl ?b1 ?b2 ?b3 ?_)
  case b1 => rw [hz2]; omega
  case b2 => unfold maxLen; omega
  case b3 => simp
  intro w1 hown hg
  clear hi hz0 hz1 hz2
  generalize hWb : w.alloc (.cells #[.int .i64 R, .int .i64 C, .slice aA nA cA, .slice ab nb cb] 112) = Wb at *
  have hWbz : Wb.heap.size = w.heap.size + 1 := by rw [← hWb]; simp
  have d1 : Wb.cell? ⟨w.heap.size, 1, none⟩ = some (.int .i64 C) := by rw [← hWb]; exact World.cell?_alloc_at _ _ _ _ rfl
  have d2 : Wb.cell? ⟨w.heap.size, 2, none⟩ = some (.slice aA nA cA) := by rw [← hWb]; exact World.cell?_alloc_at _ _ _ _ rfl
  have HWb : Hid (Below w.heap.size w Wb) := Lib.hid (by rw [← hWb]; (repeat first | assumption | exact Below.refl _ _ | refine Below.drew ?_ | refine Below.drewN ?_ _ | refine Below.alloc ?_ (by (first | omega | (simp; done) | (simp; omega))) _ | refine Below.setCell ?_ (by (first | omega | (simp; done) | (simp; omega))) _ | refine Below.trans ?_ (Below.mono (by assumption) (by (first | omega | (simp; done) | (simp; omega))))))
  clear hWb
  have Hc1 : Hid (Below Wb.heap.size Wb w1) := Lib.hid ⟨hg.os, hg.tape, hg.output, hg.size, fun k hk => hg.block k (by omega) (by simp)⟩
  have Ho1 := Lib.hid hown
  clear hown hg
  go_wp2
  go_loopw [9, 20] (fun lv k wr => ∃ o : Nat, o ≤ C ∧ k = .int .i64 o ∧ Hid (wr.ownsRow (w.heap.size + 1) 38 1 lv o ((backs s A R C v o).map (Value.int .i64))) ∧ Hid (Below Wb.heap.size Wb wr)) (fun _ k _ => C - (intOf k).toNat)
  case atStart => exact ⟨0, Nat.zero_le _, rfl, Ho1.out, Hc1.out⟩
  case round =>
    obtain ⟨o, ho, rfl, hown, hch⟩ := hrel
    by_cases hlt : o < C
    · obtain ⟨bb, obb, rfl, hbb, hcb⟩ := HV.out.at hlt
      have e1 : wr.cell? ⟨w.heap.size, 1, none⟩ = some (.int .i64 C) := (hch.out.cell (p := ⟨w.heap.size, 1, none⟩) (by show w.heap.size < _; omega)).trans d1
      have e2 : wr.cell? ⟨w.heap.size, 2, none⟩ = some (.slice aA nA cA) := (hch.out.cell (p := ⟨w.heap.size, 2, none⟩) (by show w.heap.size < _; omega)).trans d2
      have hcb' : wr.cell? ⟨bb, obb + o, none⟩ = some (.int .i64 (v[o]?.getD 0)) :=
        ((hch.out.cell (p := ⟨bb, obb + o, none⟩) (by show bb < _; omega)).trans (HWb.out.cell (p := ⟨bb, obb + o, none⟩) hbb)).trans hcb
      clear hcb
      have hzr := hch.out.size
      have Hs1 := Lib.hid (backs_succ s A R C v o)
      by_cases hz : v[o]?.getD 0 ≤ 0
      · have Hb0 : Hid (backO s A R C v o = 0) := Lib.hid (by unfold backO; rw [if_pos hz])
        generalize v[o]?.getD 0 = z at *
        go_wp2_with (at_builtin; refine wpl_app1 eFs rfl _ _ rfl (w.heap.size + 1) _ o _ rfl (hown.out.alloc _) wr.heap.size (.int .i64 0) rfl (World.cell?_alloc_at _ _ _ _ rfl) rfl ?c3 ?c4 ?c5 ?_)
        case c3 => unfold maxLen; omega
        case c4 => omega
        case c5 => simp; omega
        intro v' w9 hown9 hg9
        have Hch9 := Lib.hid (Below.grownOf (hch.out.alloc (by omega) _) (by rw [hWbz]; exact hown.out.alloc _) hg9 (by simp; omega))
        have Hown9 := Lib.hid hown9
        clear hown9 hg9
        go_wp2
        go_roundw
        case rel => exact ⟨o + 1, by omega, by go_num, Lib.hid (by rw [Hs1.out, Hb0.out]; simpa using Hown9.out), Hch9.out⟩
        case measure => simp [intOf]; omega
      · have Hb0 : Hid (backO s A R C v o = clampI (rne (dotB s A C o R) 4294967296)) := Lib.hid (by unfold backO; rw [if_neg hz]; rfl)
        generalize v[o]?.getD 0 = z at *
        obtain ⟨xz2, xz1, xz0⟩ := x_zero
        have hgw : w.heap.size < wr.heap.size := by omega
        go_wp2
        have Hold : Hid (∀ q i, q < w.heap.size → (wr.alloc (.cells #[.int .i64 0, .int .u64 0, .int .u64 0] 131)).cell? ⟨q, i, none⟩ = w.cell? ⟨q, i, none⟩) := Lib.hid (fun q i hq => by
          rw [World.cell?_alloc_past _ _ _ (by omega), hch.out.cell (p := ⟨q, i, none⟩) (by show q < _; omega), HWb.out.cell (p := ⟨q, i, none⟩) hq])
        have e1g : (wr.alloc (.cells #[.int .i64 0, .int .u64 0, .int .u64 0] 131)).cell? ⟨w.heap.size, 1, none⟩ = some (.int .i64 C) := by
          rw [World.cell?_alloc_past _ _ _ (by omega)]; exact e1
        have e2g : (wr.alloc (.cells #[.int .i64 0, .int .u64 0, .int .u64 0] 131)).cell? ⟨w.heap.size, 2, none⟩ = some (.slice aA nA cA) := by
          rw [World.cell?_alloc_past _ _ _ (by omega)]; exact e2
        have HLG : Hid (LGAt (wr.alloc (.cells #[.int .i64 0, .int .u64 0, .int .u64 0] 131)) wr.heap.size 0) := Lib.hid ⟨by rw [xz2]; exact World.cell?_alloc_at _ _ _ _ rfl, by rw [xz1]; exact World.cell?_alloc_at _ _ _ _ rfl, by rw [xz0]; exact World.cell?_alloc_at _ _ _ _ rfl, fun i => by go_simp⟩
        have HWg : Hid (Below wr.heap.size wr (wr.alloc (.cells #[.int .i64 0, .int .u64 0, .int .u64 0] 131))) := Lib.hid (by (repeat first | assumption | exact Below.refl _ _ | refine Below.drew ?_ | refine Below.drewN ?_ _ | refine Below.alloc ?_ (by (first | omega | (simp; done) | (simp; omega))) _ | refine Below.setCell ?_ (by (first | omega | (simp; done) | (simp; omega))) _ | refine Below.trans ?_ (Below.mono (by assumption) (by (first | omega | (simp; done) | (simp; omega))))))
        have Hgz : Hid (Wb.heap.size ≤ wr.heap.size) := Lib.hid (by omega)
        generalize hWg : wr.alloc (.cells #[.int .i64 0, .int .u64 0, .int .u64 0] 131) = Wg at *
        have hWgz : Wg.heap.size = wr.heap.size + 1 := by rw [← hWg]; simp
        clear hWg e1 e2 hcb' xz0 xz1 xz2
        have hcg2 : w.heap.size < Wg.heap.size := by omega
        generalize hg : wr.heap.size = g at *
        have Hgeq := Lib.hid hg
        clear hg
        go_loopw [32] (fun j wi => ∃ t : Nat, t ≤ R ∧ j = .int .i64 t ∧ Hid (LGAt wi g (dotB s A C o t)) ∧ Hid (Chg (fun k => k = g) Wg wi)) (fun j _ => R - (intOf j).toNat)
        case atStart => exact ⟨0, Nat.zero_le _, rfl, Lib.hid (by simpa [dotB] using HLG.out), Chg.refl _ _⟩
        case round =>
          obtain ⟨t, ht, rfl, hlg, hcg⟩ := hrel
          by_cases hlt2 : t < R
          · obtain ⟨tc, htc⟩ : ∃ tc, t * C = tc := ⟨_, rfl⟩
            have hmul : (t : Int) * (C : Int) = (tc : Int) := by rw [← htc]; simp
            have htcn : tc + C ≤ nA := by
              have h5 : (t + 1) * C ≤ R * C := Nat.mul_le_mul_right _ (by omega)
              rw [HN.out, Nat.add_mul, htc] at h5
              omega
            have hnA4 : nA ≤ 4096 := by rw [← HN.out]; exact Nat.mul_le_mul hR hC
            have hwm : IntKind.i64.wrap (tc : Int) = (tc : Int) := by rw [IntKind.wrap_i64]; omega
            obtain ⟨ba, oa, rfl, hba, hca⟩ := HA.out.at (i := tc + o) (by omega)
            obtain ⟨bx, obx, rfl, hbx, hcx⟩ := HS.out.at (i := t) hlt2
            obtain ⟨ix, hix⟩ : ∃ ix, tc + o = ix := ⟨_, rfl⟩
            have hadd : (tc : Int) + (o : Int) = (ix : Int) := by omega
            have hwx : IntKind.i64.wrap (ix : Int) = (ix : Int) := by rw [IntKind.wrap_i64]; omega
            have hixn : ix < nA := by omega
            have hIq := IA.out (tc + o)
            have hIp := IS.out t
            have Hd : Hid (dotB s A C o t + s[t]?.getD 0 * A[tc + o]?.getD 0 = dotB s A C o (t + 1)) := Lib.hid (by simp only [dotB]; rw [htc])
            rw [hix] at hca hIq Hd
            have ca : wr.cell? ⟨ba, oa + ix, none⟩ = some (.int .i64 (A[ix]?.getD 0)) := ((hcg.out.cell (k := ba) (o := oa + ix) (by omega) (by omega)).trans (Hold.out ba _ hba)).trans hca
            have cx : wr.cell? ⟨bx, obx + t, none⟩ = some (.int .i64 (s[t]?.getD 0)) := ((hcg.out.cell (k := bx) (o := obx + t) (by omega) (by omega)).trans (Hold.out bx _ hbx)).trans hcx
            have c1 : wr.cell? ⟨w.heap.size, 1, none⟩ = some (.int .i64 C) := (hcg.out.cell (by omega) (by omega)).trans e1g
            have c2 : wr.cell? ⟨w.heap.size, 2, none⟩ = some (.slice (some ⟨ba, oa, none⟩) nA cA) := (hcg.out.cell (by omega) (by omega)).trans e2g
            obtain ⟨l0, l1, l2, lf⟩ := hlg.out
            have hglt := hlg.out.lt
            have hzi := hcg.out.size
            clear hca hcx hix htc
            generalize s[t]?.getD 0 = p at *
            generalize A[ix]?.getD 0 = q at *
            generalize hS : dotB s A C o t = S at *
            have HM := Lib.hid (fun w => Mul_any p q w hIp hIq)
            have HE := Lib.hid (fun w => Extend_any (p * q) w (mul_I128 hIp hIq))
            have HP := Lib.hid (fun w => Plus_any S (p * q) w)
            clear hIp hIq hS
            unfold W at HM HE
            unfold LG at HE HP
            go_wp2
            go_region_with
              (first
                | (go_at_call 70; refine (HM.out _).mono ?_; rintro e w5 ⟨rfl, hb5⟩; have hz5 := hb5.size; obtain ⟨hc5, hf5⟩ := bcell hb5; (try simp at hz5 hc5 hf5); (try have hlt5 : g < w5.heap.size := by omega); (try have hlt5w : w.heap.size < w5.heap.size := by omega); (try have hlt5a : ba < w5.heap.size := by omega); have s5 : w5.cell? ⟨w.heap.size, 1, none⟩ = some (.int .i64 C) ∧ w5.cell? ⟨w.heap.size, 2, none⟩ = some (.slice (some ⟨ba, oa, none⟩) nA cA) ∧ w5.cell? ⟨ba, oa + ix, none⟩ = some (.int .i64 q) := ⟨(hc5 _ _ (by omega)).trans c1, (hc5 _ _ (by omega)).trans c2, (hc5 _ _ (by omega)).trans ca⟩)
                | (go_at_call 69; refine (HE.out _).mono ?_; rintro e w6 ⟨rfl, hb6⟩; have hz6 := hb6.size; obtain ⟨hc6, hf6⟩ := bcell hb6; (try simp at hz6 hc6 hf6); (try have hlt6 : g < w6.heap.size := by omega); (try have hlt6w : w.heap.size < w6.heap.size := by omega); (try have hlt6a : ba < w6.heap.size := by omega); have s6 : w6.cell? ⟨w.heap.size, 1, none⟩ = some (.int .i64 C) ∧ w6.cell? ⟨w.heap.size, 2, none⟩ = some (.slice (some ⟨ba, oa, none⟩) nA cA) ∧ w6.cell? ⟨ba, oa + ix, none⟩ = some (.int .i64 q) := ⟨(hc6 _ _ (by omega)).trans s5.1, (hc6 _ _ (by omega)).trans s5.2.1, (hc6 _ _ (by omega)).trans s5.2.2⟩)
                | (go_at_call 68; refine (HP.out _).mono ?_; rintro e w7 ⟨rfl, hb7⟩; have hz7 := hb7.size; obtain ⟨hc7, hf7⟩ := bcell hb7; (try simp at hz7 hc7 hf7); (try have hlt7 : g < w7.heap.size := by omega); (try have hlt7w : w.heap.size < w7.heap.size := by omega); (try have hlt7a : ba < w7.heap.size := by omega); have s7 : w7.cell? ⟨w.heap.size, 1, none⟩ = some (.int .i64 C) ∧ w7.cell? ⟨w.heap.size, 2, none⟩ = some (.slice (some ⟨ba, oa, none⟩) nA cA) ∧ w7.cell? ⟨ba, oa + ix, none⟩ = some (.int .i64 q) := ⟨(hc7 _ _ (by omega)).trans s6.1, (hc7 _ _ (by omega)).trans s6.2.1, (hc7 _ _ (by omega)).trans s6.2.2⟩))
            all_goals
              have HL7 : Hid (LGAt w7 g S) := Lib.hid (hlg.out.kept (by (repeat first | assumption | exact Below.refl _ _ | refine Below.drew ?_ | refine Below.drewN ?_ _ | refine Below.alloc ?_ (by (first | omega | (simp; done) | (simp; omega))) _ | refine Below.setCell ?_ (by (first | omega | (simp; done) | (simp; omega))) _ | refine Below.trans ?_ (Below.mono (by assumption) (by (first | omega | (simp; done) | (simp; omega)))))))
              have HC7 : Hid (Chg (fun k => k = g) Wg w7) := Lib.hid (by have := hcg.out; (repeat first | assumption | exact Chg.refl _ _ | refine Chg.drew ?_ | refine Chg.drewN ?_ _ | refine Chg.alloc ?_ _ | refine Chg.setCell_in ?_ _ (by first | rfl | simp) _ | refine Chg.setCell ?_ _ (by (first | omega | (simp; done) | (simp; omega))) _ | refine Chg.then_below ?_ (by assumption) (by (first | omega | (simp; done) | (simp; omega)))))
              clear hb5 hb6 hb7 hc5 hc6 hc7 hf5 hf6 hf7 s5 s6 s7
              go_wp2
              go_roundw
              case rel => exact ⟨t + 1, by omega, by go_num, Lib.hid (by rw [← Hd.out]; exact HL7.out.set), Lib.hid HC7.out.set3⟩
              case measure => simp [intOf]; omega
          · obtain rfl : t = R := by omega
            have HBi := Lib.hid (HWg.out.trans (hcg.out.below (B := g) (by omega) (by rintro k rfl; exact Nat.le_refl _)))
            obtain ⟨l0, l1, l2, lf⟩ := hlg.out
            have hglt := hlg.out.lt
            have HNr := Lib.hid (uNear32_u none 0 (dotB s A C o t) wr (Un.none _ _) (dotB_I192 IS.out IA.out (by omega) C o))
            rw [show uV none = .pointer none from rfl] at HNr
            unfold LG at HNr
            generalize dotB s A C o t = S at *
            go_wp2_with fail
            ((with_reducible refine (HNr.out).mono ?_); rintro e w8 ⟨rfl, hc8, hu8⟩)
            have Hb8 : Hid (Below wr.heap.size wr w8) := Lib.hid (hc8.below (Nat.le_refl _) (fun k hk => by cases hk))
            clear hc8 hu8 l0 l1 l2 lf hglt
            have HB8 := Lib.hid (HBi.out.trans (Hb8.out.mono (by have := HBi.out.size; have := Hgeq.out; omega)))
            have Hown8 := Lib.hid (ownsRow_kept hown.out (Hgeq.out ▸ HB8.out))
            have Hch8 := Lib.hid (hch.out.trans (HB8.out.mono (by have := Hgz.out; omega)))
            have hz8 := Hch8.out.size
            go_wp2_with (at_builtin; refine wpl_app1 eFs rfl _ _ rfl (w.heap.size + 1) _ o _ rfl (Hown8.out.alloc _) w8.heap.size (.int .i64 (clampI (rne S 4294967296))) rfl (World.cell?_alloc_at _ _ _ _ rfl) rfl ?c3 ?c4 ?c5 ?_)
            case c3 => unfold maxLen; omega
            case c4 => omega
            case c5 => simp; omega
            intro v' w9 hown9 hg9
            have Hch9 := Lib.hid (Below.grownOf (Hch8.out.alloc (by omega) _) (by rw [hWbz]; exact Hown8.out.alloc _) hg9 (by simp; omega))
            have Hown9 := Lib.hid hown9
            clear hown9 hg9
            go_wp2
            go_roundw
            case rel => exact ⟨o + 1, by omega, by go_num, Lib.hid (by rw [Hs1.out, Hb0.out]; simpa using Hown9.out), Hch9.out⟩
            case measure => simp [intOf]; omega
    · obtain rfl : o = C := by omega
      go_wp2
      go_ret
      exact ⟨_, rfl, Ow.mono (Ow.of hown.out) (Nat.le_succ _), HWb.out.trans (hch.out.mono (by omega))⟩
end Go.Proofs.Ythingodgjeicpaa
