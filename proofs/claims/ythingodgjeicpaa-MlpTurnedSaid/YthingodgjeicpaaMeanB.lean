/-
  Layer vec: the means of vectors, part by part.
-/
import Derived.Test.YthingodgjeicpaaMeanA
namespace Go.Proofs.Ythingodgjeicpaa
open Go.RowKit
set_option linter.unusedVariables false
set_option linter.unusedSimpArgs false

set_option maxHeartbeats 400000 in
set_option maxRecDepth 20000 in
theorem Means11_any (i j q c p : Nat) (a : Option Addr) (l : List Int) (w : World) (h1 : w.cell? ⟨p, 0, none⟩ = some (.int .i64 i)) (h : Rd w .i64 a q l) (hi : i < q) :
    Calls Try.prog 46 #[.int .i64 j, .slice a q c, .pointer (some ⟨p, 0, none⟩)] w fun e w' => e = .returned (.int .i64 (l[i]?.getD 0)) ∧ w = w' := by
  obtain ⟨b, o, rfl, hb, hc⟩ := h.at hi
  have hq := h.2.1
  clear h
  generalize l[i]?.getD 0 = z at *
  go_enter Try.func46, Try.ntmps46
  go_wp2
  go_ret
  exact ⟨rfl, rfl⟩

/-- The parts at the place i of the first o lists. -/
def colK (ll : List (List Int)) (i o : Nat) : List Int := (List.range o).map fun j => (ll[j]?.getD [])[i]?.getD 0
theorem colK_succ (ll : List (List Int)) (i o : Nat) : colK ll i (o + 1) = colK ll i o ++ [(ll[o]?.getD [])[i]?.getD 0] := by simp [colK, List.range_succ]
theorem colK_len (ll : List (List Int)) (i o : Nat) : (colK ll i o).length = o := by simp [colK]
theorem A64_colK {ll : List (List Int)} (h : ∀ j : Nat, A64 (ll[j]?.getD [])) (i o : Nat) : A64 (colK ll i o) := fun t => by
  unfold colK
  rw [List.getElem?_map]
  cases (List.range o)[t]? with
  | none => unfold I64; simp
  | some v => exact h v i

set_option maxHeartbeats 1600000 in
set_option maxRecDepth 20000 in
theorem eachL_any (B : Nat) (al : Option Addr) (k q cl i p : Nat) (ll : List (List Int)) (w : World) (h1 : w.cell? ⟨p, 0, none⟩ = some (.int .i64 i)) (h : RdS w B al k q ll) (hk : k ≤ 65536) (hi : i < q) :
    Calls Try.prog 45 #[.slice al k cl, .func (Fn.func 46) #[] #[.pointer (some ⟨p, 0, none⟩)]] w fun e w' => ∃ v, e = .returned v ∧ Ow w' w.heap.size 38 .i64 v (colK ll i k) ∧ Below w.heap.size w w' := by
  obtain ⟨i0, hi0, hz0, hz1, hz2⟩ := eFs1
  have hp1 := World.block_lt_of_cell? _ _ h1
  simp only at hp1
  have HA := Lib.hid (fun w' (hb : Below w.heap.size w w') => h.kept hb)
  have H1 := Lib.hid (fun w' (hb : Below w.heap.size w w') => (hb.cell (p := ⟨p, 0, none⟩) hp1).trans h1)
  clear h h1 hp1
  go_enter Try.func45, Try.ntmps45
  go_wp2_with (at_make; refine wpList_make_own _ rfl _ _ 26 rfl w.heap.size 38 i0 (.int .i64 0) 1 eFs.und hi0 hz0 hz1 _ _ _ k rfl rfl rfl ?b1 ?b2 ?b3 ?_)
  case b1 => rw [hz2]; omega
  case b2 => unfold maxLen; omega
  case b3 => exact Nat.le_refl _
  intro w1 hown hg
  clear hi0 hz0 hz1 hz2
  have Hb1 : Hid (Below w.heap.size w w1) := Lib.hid ⟨hg.os, hg.tape, hg.output, hg.size, fun k hk => hg.block k hk (by simp)⟩
  have Ho1 := Lib.hid hown
  clear hown hg
  go_wp2
  go_loopw [5, 13] (fun lv s wr => ∃ o : Nat, o ≤ k ∧ s = .int .i64 o ∧ Hid (wr.ownsRow w.heap.size 38 1 lv o ((colK ll i o).map (Value.int .i64))) ∧ Hid (Below w.heap.size w wr)) (fun _ s _ => k - (intOf s).toNat)
  case atStart => exact ⟨0, Nat.zero_le _, rfl, Ho1.out, Hb1.out⟩
  case round =>
    obtain ⟨o, ho, rfl, hown, hbb⟩ := hrel
    by_cases hlt : o < k
    · obtain ⟨b, ob, a, c, rfl, hb, hB, hc, hy, hr⟩ := (HA.out _ hbb.out).2 o hlt
      have hzr := hbb.out.size
      have Hs1 := Lib.hid (colK_succ ll i o)
      have HM := Lib.hid (Means11_any i o q c p a (ll[o]?.getD []) wr (H1.out _ hbb.out) hr hi)
      clear hr hy
      generalize (ll[o]?.getD [])[i]?.getD 0 = z at *
      go_wp2_with fail
      ((with_reducible refine (HM.out).mono ?_); rintro e w8 ⟨rfl, rfl⟩)
      go_wp2_with (at_builtin; refine wpl_app1 eFs rfl _ _ rfl w.heap.size _ o _ rfl (hown.out.alloc _) wr.heap.size (.int .i64 z) rfl (World.cell?_alloc_at _ _ _ _ rfl) rfl ?c3 ?c4 ?c5 ?_)
      case c3 => unfold maxLen; omega
      case c4 => omega
      case c5 => simp; omega
      intro v' w9 hown9 hg9
      have Hb9 := Lib.hid (Below.grownOf (hbb.out.alloc hzr _) (hown.out.alloc _) hg9 (by simp; omega))
      have Hown9 := Lib.hid hown9
      clear hown9 hg9
      go_wp2
      go_roundw
      case rel => exact ⟨o + 1, by omega, by go_num, Lib.hid (by rw [Hs1.out]; simpa using Hown9.out), Hb9.out⟩
      case measure => simp [intOf]; omega
    · obtain rfl : o = k := by omega
      go_wp2
      go_ret
      exact ⟨_, rfl, Ow.of hown.out, hbb.out⟩

/-- What the mean of the parts at the place i comes to. -/
def mn1 (ll : List (List Int)) (k i : Nat) : Int := meanI (colK ll i k) k
def mns (ll : List (List Int)) (k o : Nat) : List Int := (List.range o).map fun i => clampI (mn1 ll k i)
theorem mns_succ (ll : List (List Int)) (k o : Nat) : mns ll k (o + 1) = mns ll k o ++ [clampI (mn1 ll k o)] := by simp [mns, List.range_succ]
theorem mns_len (ll : List (List Int)) (k o : Nat) : (mns ll k o).length = o := by simp [mns]
def cntM (n : Int) (ll : List (List Int)) (k : Nat) : Nat → Int
  | 0 => n
  | i + 1 => upC (cntM n ll k i) (over (mn1 ll k i))

set_option maxHeartbeats 1600000 in
set_option maxRecDepth 20000 in
theorem Means1_any (u : Option Nat) (n : Int) (B : Nat) (al : Option Addr) (k q cl i p1 p2 : Nat) (x : Int) (ll : List (List Int)) (w : World) (h1 : w.cell? ⟨p1, 0, none⟩ = some (.slice al k cl)) (h2 : w.cell? ⟨p2, 0, none⟩ = some (uV u))
    (h : RdS w B al k q ll) (hk0 : 0 < k) (hk : k ≤ 64) (hi : i < q) (ia : ∀ j : Nat, A64 (ll[j]?.getD [])) (hu : Un w u n) :
    Calls Try.prog 44 #[.int .i64 i, .int .i64 x, .pointer (some ⟨p1, 0, none⟩), .pointer (some ⟨p2, 0, none⟩)] w fun e w' => e = .returned (.int .i64 (clampI (mn1 ll k i))) ∧ Chg (UC u) w w' ∧ Un w' u (upC n (over (mn1 ll k i))) := by
  have HE := Lib.hid (fun p w' (hb : Below w.heap.size w w') h1 => eachL_any B al k q cl i p ll w' h1 (h.kept hb) (by omega) hi)
  have HM := Lib.hid (fun w' a c (hb : Below w.heap.size w w') (h : Rd w' .i64 a k (colK ll i k)) => Mean_any u n k c a (colK ll i k) w' h hk0 hk (A64_colK ia i k) (hu.kept hb))
  rw [show meanI (colK ll i k) k = mn1 ll k i from rfl] at HM
  have hp1 := World.block_lt_of_cell? _ _ h1
  have hp2 := World.block_lt_of_cell? _ _ h2
  simp only at hp1 hp2
  clear h ia hu
  generalize hcol : colK ll i k = col at *
  have hcl : col.length = k := by rw [← hcol, colK_len]
  clear hcol
  generalize mn1 ll k i = R at *
  generalize uV u = uv at *
  go_enter Try.func44, Try.ntmps44
  go_wp2_with fail
  ((with_reducible refine (HE.out _ _ (by (repeat first | assumption | exact Below.refl _ _ | refine Below.drew ?_ | refine Below.drewN ?_ _ | refine Below.alloc ?_ (by (first | omega | (simp; done) | (simp; omega))) _ | refine Below.setCell ?_ (by (first | omega | (simp; done) | (simp; omega))) _ | refine Below.trans ?_ (Below.mono (by assumption) (by (first | omega | (simp; done) | (simp; omega)))))) (World.cell?_alloc_at _ _ _ _ rfl)).mono ?_); rintro e w2 ⟨v, rfl, ho2, hb2⟩)
  have Hb2 : Hid (Below w.heap.size w w2) := Lib.hid (by (repeat first | assumption | exact Below.refl _ _ | refine Below.drew ?_ | refine Below.drewN ?_ _ | refine Below.alloc ?_ (by (first | omega | (simp; done) | (simp; omega))) _ | refine Below.setCell ?_ (by (first | omega | (simp; done) | (simp; omega))) _ | refine Below.trans ?_ (Below.mono (by assumption) (by (first | omega | (simp; done) | (simp; omega))))))
  have g2 : w2.cell? ⟨p2, 0, none⟩ = some uv := (Hb2.out.cell (p := ⟨p2, 0, none⟩) hp2).trans h2
  clear hb2
  unfold Ow at ho2
  rw [hcl] at ho2
  obtain ⟨a, c, rfl, _, _⟩ := ownsRow_form ho2
  have Hr := Lib.hid (Ow.rd (n := k) (a := a) (c := c) (Ow.of ho2) (by omega))
  clear ho2
  go_wp2_with fail
  ((with_reducible refine (HM.out _ _ _ Hb2.out Hr.out).mono ?_); rintro e w3 ⟨rfl, hc3, hu3⟩)
  go_wp2
  go_ret
  exact ⟨rfl, hc3.after_below Hb2.out, hu3⟩

set_option maxHeartbeats 1600000 in
set_option maxRecDepth 20000 in
theorem eachF_means (u : Option Nat) (n : Int) (B : Nat) (al : Option Addr) (k q cl p1 p2 ca : Nat) (aa : Option Addr) (a : List Int) (ll : List (List Int)) (w : World) (h1 : w.cell? ⟨p1, 0, none⟩ = some (.slice al k cl)) (h2 : w.cell? ⟨p2, 0, none⟩ = some (uV u))
    (h : RdS w B al k q ll) (hk0 : 0 < k) (hk : k ≤ 64) (hq : q ≤ 65536) (ia : ∀ j : Nat, A64 (ll[j]?.getD [])) (hu : Un w u n) (hB : ∀ b, UC u b → b < B) (o1 : ¬ UC u p1) (o2 : ¬ UC u p2) (ha : Rd w .i64 aa q a) (oa : ∀ y, aa = some y → B ≤ y.block) :
    Calls Try.prog 43 #[.slice aa q ca, .func (Fn.func 44) #[] #[.pointer (some ⟨p1, 0, none⟩), .pointer (some ⟨p2, 0, none⟩)]] w fun e w' => ∃ v, e = .returned v ∧ Ow w' w.heap.size 38 .i64 v (mns ll k q) ∧ Chg (UC u) w w' ∧ Un w' u (cntM n ll k q) := by
  obtain ⟨i0, hi, hz0, hz1, hz2⟩ := eFs1
  have hp1 := World.block_lt_of_cell? _ _ h1
  have hp2 := World.block_lt_of_cell? _ _ h2
  simp only at hp1 hp2
  have hUlt := Lib.hid (fun k (hk : UC u k) => hu.lt hk)
  have HA := Lib.hid (fun w' (hc : Chg (UC u) w w') => ha.chgB oa hc hB)
  have HS := Lib.hid (fun (i : Nat) x (nn : Int) w' (hi : i < q) (hc : Chg (UC u) w w') (hu' : Un w' u nn) => Means1_any u nn B al k q cl i p1 p2 x ll w' ((hc.cell hp1 o1).trans h1) ((hc.cell hp2 o2).trans h2) (h.chg hc hB) hk0 hk hi ia hu')
  have HU := Lib.hid hu
  have HBB := Lib.hid hB
  clear h1 h2 ha h ia hu o1 o2 oa hp1 hp2 hB
  go_enter Try.func43, Try.ntmps43
  go_wp2_with (at_make; refine wpList_make_own _ rfl _ _ 26 rfl w.heap.size 38 i0 (.int .i64 0) 1 eFs.und hi hz0 hz1 _ _ _ q rfl rfl rfl ?b1 ?b2 ?b3 ?_)
  case b1 => rw [hz2]; omega
  case b2 => unfold maxLen; omega
  case b3 => exact Nat.le_refl _
  intro w1 hown hg
  clear hi hz0 hz1 hz2
  have Hb1 : Hid (Below w.heap.size w w1) := Lib.hid ⟨hg.os, hg.tape, hg.output, hg.size, fun k hk => hg.block k hk (by simp)⟩
  have Ho1 := Lib.hid hown
  clear hown hg
  go_wp2
  go_loopw [5, 13] (fun lv s wr => ∃ o : Nat, o ≤ q ∧ s = .int .i64 o ∧ Hid (wr.ownsRow w.heap.size 38 1 lv o ((mns ll k o).map (Value.int .i64))) ∧ Hid (Chg (UC u) w wr) ∧ Hid (Un wr u (cntM n ll k o))) (fun _ s _ => q - (intOf s).toNat)
  case atStart => exact ⟨0, Nat.zero_le _, rfl, Ho1.out, Chg.of_below Hb1.out, HU.out.kept Hb1.out⟩
  case round =>
    obtain ⟨o, ho, rfl, hown, hch, hun⟩ := hrel
    by_cases hlt : o < q
    · obtain ⟨ba, oa, rfl, hba, hca⟩ := (HA.out _ hch.out).at hlt
      have hzr := hch.out.size
      have Hs1 := Lib.hid (mns_succ ll k o)
      have HSo := Lib.hid (HS.out o (a[o]?.getD 0) _ wr hlt hch.out hun.out)
      have Hc1 : Hid (cntM n ll k (o + 1) = upC (cntM n ll k o) (over (mn1 ll k o))) := Lib.hid rfl
      generalize a[o]?.getD 0 = z at *
      generalize mn1 ll k o = R at *
      go_wp2_with fail
      ((with_reducible refine (HSo.out).mono ?_); rintro e w8 ⟨rfl, hc8, hu8⟩)
      have Hown8 := Lib.hid (ownsRow_chg hown.out hc8 (fun k hk => hUlt.out k hk))
      have Hch8 := Lib.hid (hch.out.trans hc8)
      have hz8 := Hch8.out.size
      have Hu8 := Lib.hid hu8
      clear hc8 hu8
      go_wp2_with (at_builtin; refine wpl_app1 eFs rfl _ _ rfl w.heap.size _ o _ rfl (Hown8.out.alloc _) w8.heap.size (.int .i64 (clampI R)) rfl (World.cell?_alloc_at _ _ _ _ rfl) rfl ?c3 ?c4 ?c5 ?_)
      case c3 => unfold maxLen; omega
      case c4 => omega
      case c5 => simp; omega
      intro v' w9 hown9 hg9
      have Hch9 := Lib.hid (Chg.grownOf (Hch8.out.alloc _) (Hown8.out.alloc _) hg9 (Nat.le_refl _))
      have Hu9 := Lib.hid (Un.grown (Hu8.out.kept ((Below.refl _ _).alloc (Nat.le_refl _) _)) (Hown8.out.alloc _) hg9 (fun k hk => hUlt.out k hk))
      have Hown9 := Lib.hid hown9
      clear hown9 hg9
      go_wp2
      go_roundw
      case rel => exact ⟨o + 1, by omega, by go_num, Lib.hid (by rw [Hs1.out]; simpa using Hown9.out), Hch9.out, Lib.hid (by rw [Hc1.out]; exact Hu9.out)⟩
      case measure => simp [intOf]; omega
    · obtain rfl : o = q := by omega
      go_wp2
      go_ret
      exact ⟨_, rfl, Ow.of hown.out, hch.out, hun.out⟩

set_option maxHeartbeats 1600000 in
set_option maxRecDepth 20000 in
theorem Means_any (u : Option Nat) (n : Int) (B : Nat) (al : Option Addr) (k q cl : Nat) (ll : List (List Int)) (w : World)
    (h : RdS w B al k q ll) (hk0 : 0 < k) (hk : k ≤ 64) (hq : q ≤ 65536) (ia : ∀ j : Nat, A64 (ll[j]?.getD [])) (hu : Un w u n) (hB : ∀ b, UC u b → b < B) (hBw : B ≤ w.heap.size) :
    Calls Try.prog 23 #[uV u, .slice al k cl] w fun e w' => ∃ v, e = .returned (.tuple #[v, .int .i64 0]) ∧ Ow w' w.heap.size 38 .i64 v (mns ll k q) ∧ Chg (UC u) w w' ∧ Un w' u (cntM n ll k q) := by
  obtain ⟨b, o, a0, c0, rfl, hb, hBb, hc0, hy0, hr0⟩ := h.2 0 hk0
  have HF := Lib.hid (fun w' (hb : Below w.heap.size w w') => fitsN_any B (some ⟨b, o, none⟩) k q cl ll w' (h.kept hb) (by omega) hq)
  have hUlt := Lib.hid (fun k (hk : UC u k) => hu.lt hk)
  have HE := Lib.hid (fun w' p1 p2 (hb' : Below w.heap.size w w') h1 h2 (k1 : w.heap.size ≤ p1) (k2 : w.heap.size ≤ p2) => eachF_means u n B (some ⟨b, o, none⟩) k q cl p1 p2 c0 a0 (ll[0]?.getD []) ll w' h1 h2 (h.kept hb') hk0 hk hq ia (hu.kept hb') hB (fun h => by have := hUlt.out _ h; omega) (fun h => by have := hUlt.out _ h; omega) (hr0.kept hb') hy0)
  have HA := Lib.hid (fun w' (hb : Below w.heap.size w w') => h.kept hb)
  clear ia hu hB hr0 hy0 h
  rw [Nat.add_zero] at hc0
  unfold uV at *
  generalize (u.map fun b => (⟨b, 0, none⟩ : Addr)) = pu at *
  go_enter Try.func23, Try.ntmps23
  go_wp2_with fail
  ((with_reducible refine (HF.out _ (by (repeat first | assumption | exact Below.refl _ _ | refine Below.drew ?_ | refine Below.drewN ?_ _ | refine Below.alloc ?_ (by (first | omega | (simp; done) | (simp; omega))) _ | refine Below.setCell ?_ (by (first | omega | (simp; done) | (simp; omega))) _ | refine Below.trans ?_ (Below.mono (by assumption) (by (first | omega | (simp; done) | (simp; omega))))))).mono ?_); rintro e w1 ⟨rfl, rfl⟩)
  go_wp2
  have Hb1 : Hid (Below w.heap.size w ((w.alloc (.cells #[.pointer pu] 60)).alloc (.cells #[.slice (some ⟨b, o, none⟩) k cl] 66))) := Lib.hid (by (repeat first | assumption | exact Below.refl _ _ | refine Below.drew ?_ | refine Below.drewN ?_ _ | refine Below.alloc ?_ (by (first | omega | (simp; done) | (simp; omega))) _ | refine Below.setCell ?_ (by (first | omega | (simp; done) | (simp; omega))) _ | refine Below.trans ?_ (Below.mono (by assumption) (by (first | omega | (simp; done) | (simp; omega))))))
  have p1 : ((w.alloc (.cells #[.pointer pu] 60)).alloc (.cells #[.slice (some ⟨b, o, none⟩) k cl] 66)).cell? ⟨w.heap.size + 1, 0, none⟩ = some (.slice (some ⟨b, o, none⟩) k cl) := by go_simp
  have p2 : ((w.alloc (.cells #[.pointer pu] 60)).alloc (.cells #[.slice (some ⟨b, o, none⟩) k cl] 66)).cell? ⟨w.heap.size, 0, none⟩ = some (.pointer pu) := by go_simp
  have hz1 : w.heap.size + 2 ≤ ((w.alloc (.cells #[.pointer pu] 60)).alloc (.cells #[.slice (some ⟨b, o, none⟩) k cl] 66)).heap.size := by simp
  generalize (w.alloc (.cells #[.pointer pu] 60)).alloc (.cells #[.slice (some ⟨b, o, none⟩) k cl] 66) = W1 at *
  have h0 : W1.cell? ⟨b, o, none⟩ = some (.slice a0 q c0) := (Hb1.out.cell (p := ⟨b, o, none⟩) hb).trans hc0
  go_loopw [21] (fun s wr => ∃ t : Nat, t ≤ k ∧ s = .int .i64 t ∧ Hid (W1 = wr)) (fun s _ => k - (intOf s).toNat)
  case atStart => exact ⟨0, Nat.zero_le _, rfl, rfl⟩
  case round =>
    obtain ⟨t, ht, rfl, hwr⟩ := hrel
    obtain rfl := hwr.out
    by_cases hlt : t < k
    · obtain ⟨b', o', a, c, e', hb', hB', hc', hy', hr'⟩ := (HA.out _ Hb1.out).2 t hlt
      cases e'
      clear hy' hr'
      go_wp2
      go_roundw
      case rel => exact ⟨t + 1, by omega, by go_num, Lib.hid (by first | rfl | trivial)⟩
      case measure => simp [intOf]; omega
    · obtain rfl : t = k := by omega
      go_wp2_with fail
      ((with_reducible refine (HE.out _ _ _ Hb1.out p1 p2 (Nat.le_succ _) (Nat.le_refl _)).mono ?_); rintro e w2 ⟨v, rfl, ho2, hc2, hu2⟩)
      go_wp2
      go_ret2
      exact ⟨v, rfl, Ow.mono ho2 (by omega), (Chg.of_below Hb1.out).trans hc2, hu2⟩
end Go.Proofs.Ythingodgjeicpaa
