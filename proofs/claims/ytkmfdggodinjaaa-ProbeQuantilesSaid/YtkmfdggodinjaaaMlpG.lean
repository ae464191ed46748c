/-
  Layer mlp: the squared loss: its slope, how far it is.
-/
import Derived.Test.YtkmfdggodinjaaaVecA
namespace Go.Proofs.Ytkmfdggodinjaaa
open Go.RowKit
set_option linter.unusedVariables false
set_option linter.unusedSimpArgs false

def sqS (d : List Int) : Nat → Int
  | 0 => 0
  | k + 1 => sqS d k + d[k]?.getD 0 * d[k]?.getD 0
theorem sqS_bd {d : List Int} (hd : A64 d) : ∀ k, -(k * 85070591730234615865843651857942052864) ≤ sqS d k ∧ sqS d k ≤ k * 85070591730234615865843651857942052864
  | 0 => by simp [sqS]
  | k + 1 => by
    have h1 := sqS_bd hd k
    have h2 := mul_bd (hd k) (hd k)
    simp only [sqS]
    generalize d[k]?.getD 0 * d[k]?.getD 0 = p at *
    omega
theorem sqS_I192 {d : List Int} (hd : A64 d) {k : Nat} (hk : k ≤ 100000) : I192 (sqS d k) := by
  have h1 := sqS_bd hd k
  unfold I192
  generalize sqS d k = s at *
  omega
def sqFar (y t : List Int) (m : Nat) : Int := clampI (rne (sqS (subs y t m) m) 8589934592)

set_option maxHeartbeats 800000 in
set_option maxRecDepth 20000 in
theorem sqSlope_any (u : Option Nat) (n : Int) (m ca cb : Nat) (aa ab : Option Addr) (a b : List Int) (w : World)
    (ha : Rd w .i64 aa m a) (hb : Rd w .i64 ab m b) (hm : m ≤ 65536) (ia : A64 a) (ib : A64 b) (hu : Un w u n) (oa : 0 < m → ∀ y, aa = some y → ¬ UC u y.block) (ob : 0 < m → ∀ y, ab = some y → ¬ UC u y.block) :
    Calls Try.prog 139 #[.agg #[], uV u, .slice aa m ca, .slice ab m cb] w fun e w' => ∃ v, e = .returned v ∧ Ow w' w.heap.size 23 .i64 v (subs a b m) ∧ Chg (UC u) w w' ∧ Un w' u (cntD n a b m) := by
  have HE := Lib.hid (fun w' (hb' : Below w.heap.size w w') => vSub_any u n m ca cb aa ab a b w' (ha.kept hb') (hb.kept hb') hm ia ib (hu.kept hb') oa ob)
  clear ha hb ia ib hu oa ob
  unfold uV at *
  generalize (u.map fun b => (⟨b, 0, none⟩ : Addr)) = pu at *
  go_enter Try.func139, Try.ntmps139
  go_wp2_with fail
  ((with_reducible refine (HE.out _ (by (repeat first | assumption | exact Below.refl _ _ | refine Below.drew ?_ | refine Below.drewN ?_ _ | refine Below.alloc ?_ (by (first | omega | (simp; done) | (simp; omega))) _ | refine Below.setCell ?_ (by (first | omega | (simp; done) | (simp; omega))) _ | refine Below.trans ?_ (Below.mono (by assumption) (by (first | omega | (simp; done) | (simp; omega))))))).mono ?_); rintro e w2 ⟨v, rfl, ho2, hc2, hu2⟩)
  go_wp2
  go_ret
  exact ⟨v, rfl, Ow.mono ho2 (by (first | omega | (simp; done) | (simp; omega))), (Chg.of_below (by (repeat first | assumption | exact Below.refl _ _ | refine Below.drew ?_ | refine Below.drewN ?_ _ | refine Below.alloc ?_ (by (first | omega | (simp; done) | (simp; omega))) _ | refine Below.setCell ?_ (by (first | omega | (simp; done) | (simp; omega))) _ | refine Below.trans ?_ (Below.mono (by assumption) (by (first | omega | (simp; done) | (simp; omega))))))).trans hc2, hu2⟩

set_option maxHeartbeats 3200000 in
set_option maxRecDepth 100000 in
theorem sqFar_any (u : Option Nat) (n : Int) (m ca cb : Nat) (aa ab : Option Addr) (a b : List Int) (w : World)
    (ha : Rd w .i64 aa m a) (hb : Rd w .i64 ab m b) (hm : m ≤ 65536) (ia : A64 a) (ib : A64 b) (hu : Un w u n) (oa : 0 < m → ∀ y, aa = some y → ¬ UC u y.block) (ob : 0 < m → ∀ y, ab = some y → ¬ UC u y.block) :
    Calls Try.prog 138 #[.agg #[], uV u, .slice aa m ca, .slice ab m cb] w fun e w' => e = .returned (.int .i64 (sqFar a b m)) ∧ Chg (UC u) w w' ∧ Un w' u (upC (cntD n a b m) (over (rne (sqS (subs a b m) m) 8589934592))) := by
  have HE := Lib.hid (fun w' (hb' : Below w.heap.size w w') => sqSlope_any u n m ca cb aa ab a b w' (ha.kept hb') (hb.kept hb') hm ia ib (hu.kept hb') oa ob)
  have hUlt := Lib.hid (fun k (hk : UC u k) => hu.lt hk)
  have HNr := Lib.hid (fun w' nn (hu' : Un w' u nn) => uNear33_u u nn (sqS (subs a b m) m) w' hu' (sqS_I192 (A64_subs a b m) (by omega)))
  have ID := Lib.hid (A64_subs a b m)
  have hdl := subs_len a b m
  have HF : Hid (sqFar a b m = clampI (rne (sqS (subs a b m) m) 8589934592)) := Lib.hid rfl
  rw [HF.out]
  clear ha hb ia ib hu oa ob HF
  generalize subs a b m = d at *
  unfold uV at *
  generalize (u.map fun b => (⟨b, 0, none⟩ : Addr)) = pu at *
  obtain ⟨xz2, xz1, xz0⟩ := x_zero
  go_enter Try.func138, Try.ntmps138
  go_wp2_with fail
  ((with_reducible refine (HE.out _ (by (repeat first | assumption | exact Below.refl _ _ | refine Below.drew ?_ | refine Below.drewN ?_ _ | refine Below.alloc ?_ (by (first | omega | (simp; done) | (simp; omega))) _ | refine Below.setCell ?_ (by (first | omega | (simp; done) | (simp; omega))) _ | refine Below.trans ?_ (Below.mono (by assumption) (by (first | omega | (simp; done) | (simp; omega))))))).mono ?_); rintro e w2 ⟨v, rfl, ho2, hc2, hu2⟩)
  have hz2 := hc2.size
  simp at hz2
  have Hc2 : Hid (Chg (UC u) w w2) := Lib.hid ((Chg.of_below (by (repeat first | assumption | exact Below.refl _ _ | refine Below.drew ?_ | refine Below.drewN ?_ _ | refine Below.alloc ?_ (by (first | omega | (simp; done) | (simp; omega))) _ | refine Below.setCell ?_ (by (first | omega | (simp; done) | (simp; omega))) _ | refine Below.trans ?_ (Below.mono (by assumption) (by (first | omega | (simp; done) | (simp; omega))))))).trans hc2)
  have Hu2 := Lib.hid hu2
  have Hnu : Hid (¬ UC u (w.heap.size + 1)) := Lib.hid (fun h => by have := hUlt.out _ h; omega)
  have HL2 : Hid (LGAt w2 (w.heap.size + 1) 0) := Lib.hid ⟨by rw [hc2.cell (by simp) Hnu.out, xz2]; go_simp, by rw [hc2.cell (by simp) Hnu.out, xz1]; go_simp, by rw [hc2.cell (by simp) Hnu.out, xz0]; go_simp, fun i => by rw [hc2.frozen (by simp) Hnu.out]; go_simp⟩
  unfold Ow at ho2
  rw [hdl] at ho2
  obtain ⟨av, cv, rfl, hcv, hav⟩ := ownsRow_form ho2
  have Hd2 := Lib.hid (Ow.rd (n := m) (a := av) (c := cv) (l := d) (Ow.of ho2) (by omega))
  have Hav : Hid (∀ x, av = some x → w.heap.size + 2 ≤ x.block) := Lib.hid (fun x hx => by have := (hav x hx).1; simp at this; omega)
  clear ho2 hav hc2 hu2 xz0 xz1 xz2
  go_wp2
  generalize hg : w.heap.size + 1 = g at *
  go_loopw [18] (fun j wi => ∃ t : Nat, t ≤ m ∧ j = .int .i64 t ∧ Hid (LGAt wi g (sqS d t)) ∧ Hid (Chg (fun k => k = g) w2 wi)) (fun j _ => m - (intOf j).toNat)
  case atStart => exact ⟨0, Nat.zero_le _, rfl, HL2.out, Chg.refl _ _⟩
  case round =>
    obtain ⟨t, ht, rfl, hlg, hcg⟩ := hrel
    by_cases hlt : t < m
    · obtain ⟨ba, oa, rfl, hba, hca⟩ := Hd2.out.at hlt
      have hbg := Hav.out _ rfl
      simp only at hbg
      have ca : wr.cell? ⟨ba, oa + t, none⟩ = some (.int .i64 (d[t]?.getD 0)) := (hcg.out.cell hba (by omega)).trans hca
      have hIp := ID.out t
      have Hd : Hid (sqS d t + d[t]?.getD 0 * d[t]?.getD 0 = sqS d (t + 1)) := Lib.hid rfl
      obtain ⟨l0, l1, l2, lf⟩ := hlg.out
      have hglt := hlg.out.lt
      have hzi := hcg.out.size
      clear hca
      generalize d[t]?.getD 0 = p at *
      generalize hS : sqS d t = S at *
      have HM := Lib.hid (fun w => Mul_any p p w hIp hIp)
      have HE2 := Lib.hid (fun w => Extend_any (p * p) w (mul_I128 hIp hIp))
      have HP := Lib.hid (fun w => Plus_any S (p * p) w)
      clear hIp hS
      unfold W at HM HE2
      unfold LG at HE2 HP
      go_wp2
      have hT : Hid True := Lib.hid trivial
      go_region_with
        (first
          | (go_at_call 85; refine (HM.out _).mono ?_; rintro e w5 ⟨rfl, hb5⟩; have hz5 := hb5.size; obtain ⟨hc5, hf5⟩ := bcell hb5; (try simp at hz5 hc5 hf5); (try have hlt5 : g < w5.heap.size := by omega))
          | (go_at_call 87; refine (HE2.out _).mono ?_; rintro e w6 ⟨rfl, hb6⟩; have hz6 := hb6.size; obtain ⟨hc6, hf6⟩ := bcell hb6; (try simp at hz6 hc6 hf6); (try have hlt6 : g < w6.heap.size := by omega))
          | (go_at_call 86; refine (HP.out _).mono ?_; rintro e w7 ⟨rfl, hb7⟩; have hz7 := hb7.size; obtain ⟨hc7, hf7⟩ := bcell hb7; (try simp at hz7 hc7 hf7); (try have hlt7 : g < w7.heap.size := by omega)))
      all_goals
        have HL7 : Hid (LGAt w7 g S) := Lib.hid (hlg.out.kept (by (repeat first | assumption | exact Below.refl _ _ | refine Below.drew ?_ | refine Below.drewN ?_ _ | refine Below.alloc ?_ (by (first | omega | (simp; done) | (simp; omega))) _ | refine Below.setCell ?_ (by (first | omega | (simp; done) | (simp; omega))) _ | refine Below.trans ?_ (Below.mono (by assumption) (by (first | omega | (simp; done) | (simp; omega)))))))
        have HC7 : Hid (Chg (fun k => k = g) w2 w7) := Lib.hid (by have := hcg.out; (repeat first | assumption | exact Chg.refl _ _ | refine Chg.drew ?_ | refine Chg.drewN ?_ _ | refine Chg.alloc ?_ _ | refine Chg.setCell_in ?_ _ (by first | rfl | simp) _ | refine Chg.setCell ?_ _ (by (first | omega | (simp; done) | (simp; omega))) _ | refine Chg.then_below ?_ (by assumption) (by (first | omega | (simp; done) | (simp; omega)))))
        clear hb5 hb6 hb7 hc5 hc6 hc7 hf5 hf6 hf7
        go_wp2
        go_roundw
        case rel => exact ⟨t + 1, by omega, by go_num, Lib.hid (by rw [← Hd.out]; exact HL7.out.set), Lib.hid HC7.out.set3⟩
        case measure => simp [intOf]; omega
    · obtain rfl : t = m := by omega
      obtain ⟨l0, l1, l2, lf⟩ := hlg.out
      have hglt := hlg.out.lt
      have HN := Lib.hid (HNr.out wr _ (Hu2.out.chg hcg.out (fun k hk e => by have := hUlt.out k hk; omega)))
      unfold LG at HN
      generalize hS : sqS d t = S at *
      have HS := Lib.hid hS
      clear hS
      go_wp2_with fail
      ((with_reducible refine (HN.out).mono ?_); rintro e w8 ⟨rfl, hc8, hu8⟩)
      go_wp2
      go_ret
      rw [HS.out]
      exact ⟨rfl, (Hc2.out.drop hcg.out (fun i hi => by right; omega)).trans hc8, hu8⟩
end Go.Proofs.Ytkmfdggodinjaaa
