/-
  Layer vec: differences, part by part.
-/
import Derived.Test.YtkmfdggodinjaaaMlpF
namespace Go.Proofs.Ytkmfdggodinjaaa
open Go.RowKit
set_option linter.unusedVariables false
set_option linter.unusedSimpArgs false

set_option maxHeartbeats 400000 in
theorem fits2_any (g : Nat) (a1 a2 : Option Addr) (n1 c1 n2 c2 : Nat) (w : World) (h1 : w.cell? ⟨g, 0, none⟩ = some (.slice a1 n1 c1)) (h2 : w.cell? ⟨g, 1, none⟩ = some (.slice a2 n2 c2)) (l1 : n1 ≤ 65536) (l2 : n2 ≤ 65536) :
    Calls Try.prog 53 #[.slice (some ⟨g, 0, none⟩) 2 2] w fun e w' => e = .returned (.bool true) ∧ w = w' := by
  go_enter Try.func53, Try.ntmps53
  go_wp2
  refine wp_loop_rounds 3 ?_
  rw [rounds_succ]
  go_wp2
  rw [rounds_succ]
  go_wp2
  rw [rounds_succ]
  go_wp2
  go_ret
  exact ⟨rfl, rfl⟩

set_option maxHeartbeats 400000 in
theorem pair_any (a1 a2 : Option Addr) (n c1 c2 : Nat) (w : World) (l1 : n ≤ 65536) :
    Calls Try.prog 141 #[.slice a1 n c1, .slice a2 n c2] w fun e w' => e = .returned (.int .i64 0) ∧ Below w.heap.size w w' := by
  have HF := Lib.hid (fun g w h1 h2 => fits2_any g a1 a2 n c1 n c2 w h1 h2 l1 l1)
  go_enter Try.func141, Try.ntmps141
  go_wp2_with fail
  ((with_reducible refine (HF.out _ _ (World.cell?_alloc_at _ _ _ _ rfl) (World.cell?_alloc_at _ _ _ _ rfl)).mono ?_); rintro e w1 ⟨rfl, rfl⟩)
  go_wp2
  go_ret
  exact ⟨rfl, by (repeat first | assumption | exact Below.refl _ _ | refine Below.drew ?_ | refine Below.drewN ?_ _ | refine Below.alloc ?_ (by (first | omega | (simp; done) | (simp; omega))) _ | refine Below.setCell ?_ (by (first | omega | (simp; done) | (simp; omega))) _ | refine Below.trans ?_ (Below.mono (by assumption) (by (first | omega | (simp; done) | (simp; omega)))))⟩

set_option maxHeartbeats 800000 in
set_option maxRecDepth 20000 in
theorem Sub1_any (u : Option Nat) (n : Int) (i p1 p2 nb cb : Nat) (x : Int) (ab : Option Addr) (b : List Int) (w : World) (h1 : w.cell? ⟨p1, 0, none⟩ = some (uV u)) (h2 : w.cell? ⟨p2, 0, none⟩ = some (.slice ab nb cb))
    (hb : Rd w .i64 ab nb b) (hi : i < nb) (ix : I64 x) (ib : I64 (b[i]?.getD 0)) (hu : Un w u n) (o1 : ¬ UC u p1) (o2 : ¬ UC u p2) (ob : ∀ y, ab = some y → ¬ UC u y.block) :
    Calls Try.prog 143 #[.int .i64 i, .int .i64 x, .pointer (some ⟨p1, 0, none⟩), .pointer (some ⟨p2, 0, none⟩)] w fun e w' => e = .returned (.int .i64 (clampI (x - b[i]?.getD 0))) ∧ Chg (UC u) w w' ∧ Un w' u (upC n (over (x - b[i]?.getD 0))) := by
  obtain ⟨bb, obb, rfl, hbb, hcb⟩ := hb.at hi
  have hn := hb.2.1
  have HS := Lib.hid (fun w' (hb : Below w.heap.size w w') => uSub_u u n x (b[i]?.getD 0) w' (hu.kept hb) ix ib)
  have O1 := Lib.hid o1; have O2 := Lib.hid o2; have OB := Lib.hid (ob _ rfl)
  have hp1 := World.block_lt_of_cell? _ _ h1
  have hp2 := World.block_lt_of_cell? _ _ h2
  simp only at hp1 hp2
  clear hb ix ib hu o1 o2 ob
  generalize b[i]?.getD 0 = z at *
  generalize uV u = uv at *
  go_enter Try.func143, Try.ntmps143
  go_wp2
  go_region_held3 (fun w' => w'.cell? ⟨p1, 0, none⟩ = some uv ∧ w'.cell? ⟨p2, 0, none⟩ = some (.slice (some ⟨bb, obb, none⟩) nb cb) ∧ w'.cell? ⟨bb, obb + i, none⟩ = some (.int .i64 z))
    (first | assumption | go_keep)
    (first
      | (go_at_call 144; refine (HS.out _ (by (repeat first | assumption | exact Below.refl _ _ | refine Below.drew ?_ | refine Below.drewN ?_ _ | refine Below.alloc ?_ (by (first | omega | (simp; done) | (simp; omega))) _ | refine Below.setCell ?_ (by (first | omega | (simp; done) | (simp; omega))) _ | refine Below.trans ?_ (Below.mono (by assumption) (by (first | omega | (simp; done) | (simp; omega))))))).mono ?_; rintro e w5 ⟨rfl, hc5, hu5⟩; have s5 : w5.cell? ⟨p1, 0, none⟩ = some uv ∧ w5.cell? ⟨p2, 0, none⟩ = some (.slice (some ⟨bb, obb, none⟩) nb cb) ∧ w5.cell? ⟨bb, obb + i, none⟩ = some (.int .i64 z) := ⟨(hc5.cell (k := p1) (o := 0) (by simp; omega) O1.out).trans (by simpa using h1), (hc5.cell (k := p2) (o := 0) (by simp; omega) O2.out).trans (by simpa using h2), (hc5.cell (k := bb) (o := obb + i) (by simp; omega) OB.out).trans (by simpa using hcb)⟩))
  all_goals go_wp2
  all_goals go_ret
  all_goals exact ⟨rfl, (Chg.of_below (by (repeat first | assumption | exact Below.refl _ _ | refine Below.drew ?_ | refine Below.drewN ?_ _ | refine Below.alloc ?_ (by (first | omega | (simp; done) | (simp; omega))) _ | refine Below.setCell ?_ (by (first | omega | (simp; done) | (simp; omega))) _ | refine Below.trans ?_ (Below.mono (by assumption) (by (first | omega | (simp; done) | (simp; omega))))))).trans hc5, hu5⟩

def subs (a b : List Int) (k : Nat) : List Int := (List.range k).map fun i => clampI (a[i]?.getD 0 - b[i]?.getD 0)
theorem subs_succ (a b : List Int) (k : Nat) : subs a b (k + 1) = subs a b k ++ [clampI (a[k]?.getD 0 - b[k]?.getD 0)] := by simp [subs, List.range_succ]
def cntD (n : Int) (a b : List Int) : Nat → Int
  | 0 => n
  | k + 1 => upC (cntD n a b k) (over (a[k]?.getD 0 - b[k]?.getD 0))
theorem subs_len (a b : List Int) (k : Nat) : (subs a b k).length = k := by simp [subs]
theorem A64_subs (a b : List Int) (k : Nat) : A64 (subs a b k) := fun i => by
  unfold subs
  rw [List.getElem?_map]
  cases (List.range k)[i]? with
  | none => unfold I64; simp
  | some v => exact clampI_I64 _

set_option maxHeartbeats 1600000 in
set_option maxRecDepth 20000 in
theorem each_any (u : Option Nat) (n : Int) (m p1 p2 ca cb : Nat) (aa ab : Option Addr) (a b : List Int) (w : World) (h1 : w.cell? ⟨p1, 0, none⟩ = some (uV u)) (h2 : w.cell? ⟨p2, 0, none⟩ = some (.slice ab m cb))
    (ha : Rd w .i64 aa m a) (hb : Rd w .i64 ab m b) (hm : m ≤ 65536) (ia : A64 a) (ib : A64 b) (hu : Un w u n) (o1 : ¬ UC u p1) (o2 : ¬ UC u p2) (oa : 0 < m → ∀ y, aa = some y → ¬ UC u y.block) (ob : 0 < m → ∀ y, ab = some y → ¬ UC u y.block) :
    Calls Try.prog 142 #[.slice aa m ca, .func (Fn.func 143) #[] #[.pointer (some ⟨p1, 0, none⟩), .pointer (some ⟨p2, 0, none⟩)]] w fun e w' => ∃ v, e = .returned v ∧ Ow w' w.heap.size 23 .i64 v (subs a b m) ∧ Chg (UC u) w w' ∧ Un w' u (cntD n a b m) := by
  obtain ⟨i0, hi, hz0, hz1, hz2⟩ := eFs1
  have hp1 := World.block_lt_of_cell? _ _ h1
  have hp2 := World.block_lt_of_cell? _ _ h2
  simp only at hp1 hp2
  have hUlt := Lib.hid (fun k (hk : UC u k) => hu.lt hk)
  have HA := Lib.hid ha
  have HS := Lib.hid (fun (i : Nat) (nn : Int) w' (hi : i < m) (hc : Chg (UC u) w w') (hu' : Un w' u nn) => Sub1_any u nn i p1 p2 m cb (a[i]?.getD 0) ab b w' ((hc.cell hp1 o1).trans h1) ((hc.cell hp2 o2).trans h2) (hb.chg hc (ob (by omega))) hi (ia i) (ib i) hu' o1 o2 (ob (by omega)))
  have OA := Lib.hid oa
  have HU := Lib.hid hu
  clear h1 h2 ha hb ia ib hu o1 o2 oa ob hp1 hp2
  go_enter Try.func142, Try.ntmps142
  go_wp2_with (at_make; refine wpList_make_own _ rfl _ _ 22 rfl w.heap.size 23 i0 (.int .i64 0) 1 eFs.und hi hz0 hz1 _ _ _ m rfl rfl rfl ?b1 ?b2 ?b3 ?_)
  case b1 => rw [hz2]; omega
  case b2 => unfold maxLen; omega
  case b3 => exact Nat.le_refl _
  intro w1 hown hg
  clear hi hz0 hz1 hz2
  have Hb1 : Hid (Below w.heap.size w w1) := Lib.hid ⟨hg.os, hg.tape, hg.output, hg.size, fun k hk => hg.block k hk (by simp)⟩
  have Ho1 := Lib.hid hown
  clear hown hg
  go_wp2
  go_loopw [5, 13] (fun lv k wr => ∃ o : Nat, o ≤ m ∧ k = .int .i64 o ∧ Hid (wr.ownsRow w.heap.size 23 1 lv o ((subs a b o).map (Value.int .i64))) ∧ Hid (Chg (UC u) w wr) ∧ Hid (Un wr u (cntD n a b o))) (fun _ k _ => m - (intOf k).toNat)
  case atStart => exact ⟨0, Nat.zero_le _, rfl, Ho1.out, Chg.of_below Hb1.out, HU.out.kept Hb1.out⟩
  case round =>
    obtain ⟨o, ho, rfl, hown, hch, hun⟩ := hrel
    by_cases hlt : o < m
    · obtain ⟨ba, oa, rfl, hba, hca⟩ := HA.out.at hlt
      have ca : wr.cell? ⟨ba, oa + o, none⟩ = some (.int .i64 (a[o]?.getD 0)) := (hch.out.cell hba (OA.out (by omega) _ rfl)).trans hca
      have hzr := hch.out.size
      have Hs1 := Lib.hid (subs_succ a b o)
      have HSo := Lib.hid (HS.out o _ wr hlt hch.out hun.out)
      have Hc1 : Hid (cntD n a b (o + 1) = upC (cntD n a b o) (over (a[o]?.getD 0 - b[o]?.getD 0))) := Lib.hid rfl
      clear hca
      generalize a[o]?.getD 0 = z at *
      go_wp2_with fail
      ((with_reducible refine (HSo.out).mono ?_); rintro e w8 ⟨rfl, hc8, hu8⟩)
      have Hown8 := Lib.hid (ownsRow_chg hown.out hc8 (fun k hk => hUlt.out k hk))
      have Hch8 := Lib.hid (hch.out.trans hc8)
      have hz8 := Hch8.out.size
      have Hu8 := Lib.hid hu8
      clear hc8 hu8
      go_wp2_with (at_builtin; refine wpl_app1 eFs rfl _ _ rfl w.heap.size _ o _ rfl (Hown8.out.alloc _) w8.heap.size (.int .i64 (clampI (z - b[o]?.getD 0))) rfl (World.cell?_alloc_at _ _ _ _ rfl) rfl ?c3 ?c4 ?c5 ?_)
      case c3 => unfold maxLen; omega
      case c4 => omega
      case c5 => simp; omega
      intro v' w9 hown9 hg9
      have Hch9 := Lib.hid (Chg.grownOf (Hch8.out.alloc _) (Hown8.out.alloc _) hg9 (Nat.le_refl _))
      have Hu9 := Lib.hid (Un.grown (Hu8.out.kept ((Below.refl _ _).alloc (Nat.le_refl _) _)) (Hown8.out.alloc _) hg9 (fun k hk => hUlt.out k hk))
      have Hown9 := Lib.hid hown9
      clear hown9 hg9
      go_wp2
      go_roundw
      case rel => exact ⟨o + 1, by omega, by go_num, Lib.hid (by rw [Hs1.out]; simpa using Hown9.out), Hch9.out, Lib.hid (by rw [Hc1.out]; exact Hu9.out)⟩
      case measure => simp [intOf]; omega
    · obtain rfl : o = m := by omega
      go_wp2
      go_ret
      exact ⟨_, rfl, Ow.of hown.out, hch.out, hun.out⟩

set_option maxHeartbeats 800000 in
set_option maxRecDepth 20000 in
theorem vSub_any (u : Option Nat) (n : Int) (m ca cb : Nat) (aa ab : Option Addr) (a b : List Int) (w : World)
    (ha : Rd w .i64 aa m a) (hb : Rd w .i64 ab m b) (hm : m ≤ 65536) (ia : A64 a) (ib : A64 b) (hu : Un w u n) (oa : 0 < m → ∀ y, aa = some y → ¬ UC u y.block) (ob : 0 < m → ∀ y, ab = some y → ¬ UC u y.block) :
    Calls Try.prog 140 #[uV u, .slice aa m ca, .slice ab m cb] w fun e w' => ∃ v, e = .returned (.tuple #[v, .int .i64 0]) ∧ Ow w' w.heap.size 23 .i64 v (subs a b m) ∧ Chg (UC u) w w' ∧ Un w' u (cntD n a b m) := by
  have HP := Lib.hid (fun w => pair_any aa ab m ca cb w hm)
  have hUlt := Lib.hid (fun k (hk : UC u k) => hu.lt hk)
  have HE := Lib.hid (fun w' p1 p2 (hb' : Below w.heap.size w w') h1 h2 (k1 : w.heap.size ≤ p1) (k2 : w.heap.size ≤ p2) => each_any u n m p1 p2 ca cb aa ab a b w' h1 h2 (ha.kept hb') (hb.kept hb') hm ia ib (hu.kept hb') (fun h => by have := hUlt.out _ h; omega) (fun h => by have := hUlt.out _ h; omega) oa ob)
  clear ha hb ia ib hu oa ob
  unfold uV at *
  generalize (u.map fun b => (⟨b, 0, none⟩ : Addr)) = pu at *
  go_enter Try.func140, Try.ntmps140
  go_wp2_with fail
  ((with_reducible refine (HP.out _).mono ?_); rintro e w1 ⟨rfl, hb1⟩)
  obtain ⟨hc1, hf1⟩ := bcell hb1
  have hz1 := hb1.size
  simp at hz1 hc1 hf1
  have g0 : w1.cell? ⟨w.heap.size, 0, none⟩ = some (.pointer pu) := by rw [hc1 _ _ (by omega)]; go_simp
  have g1 : w1.cell? ⟨w.heap.size + 1, 0, none⟩ = some (.slice ab m cb) := by rw [hc1 _ _ (by omega)]; go_simp
  have Hb1 : Hid (Below w.heap.size w w1) := Lib.hid (by (repeat first | assumption | exact Below.refl _ _ | refine Below.drew ?_ | refine Below.drewN ?_ _ | refine Below.alloc ?_ (by (first | omega | (simp; done) | (simp; omega))) _ | refine Below.setCell ?_ (by (first | omega | (simp; done) | (simp; omega))) _ | refine Below.trans ?_ (Below.mono (by assumption) (by (first | omega | (simp; done) | (simp; omega))))))
  clear hb1 hc1 hf1
  go_wp2_with fail
  ((with_reducible refine (HE.out _ _ _ Hb1.out g0 g1 (Nat.le_refl _) (Nat.le_succ _)).mono ?_); rintro e w2 ⟨v, rfl, ho2, hc2, hu2⟩)
  go_wp2
  go_ret2
  exact ⟨v, rfl, Ow.mono ho2 (by omega), (Chg.of_below Hb1.out).trans hc2, hu2⟩
end Go.Proofs.Ytkmfdggodinjaaa
