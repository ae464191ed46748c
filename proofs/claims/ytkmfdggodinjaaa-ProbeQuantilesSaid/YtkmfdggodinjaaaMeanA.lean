/-
  Layer vec: the mean of the parts.
-/
import Derived.Test.YtkmfdggodinjaaaTotA
import Derived.Test.YtkmfdggodinjaaaDivB
namespace Go.Proofs.Ytkmfdggodinjaaa
open Go.RowKit
set_option linter.unusedVariables false
set_option linter.unusedSimpArgs false

/-- Many slices of one length that are read; all lie from the block B on. -/
def RdS (w : World) (B : Nat) (al : Option Addr) (k q : Nat) (ll : List (List Int)) : Prop :=
  ll.length = k ∧ ∀ j, j < k → ∃ b o a c, al = some ⟨b, o, none⟩ ∧ b < w.heap.size ∧ B ≤ b ∧ w.cell? ⟨b, o + j, none⟩ = some (.slice a q c) ∧ (∀ y, a = some y → B ≤ y.block) ∧ Rd w .i64 a q (ll[j]?.getD [])
theorem Rd.chgB {S : Nat → Prop} {w w' : World} {k : IntKind} {a : Option Addr} {n B : Nat} {l : List Int} (h : Rd w k a n l) (hB : ∀ y, a = some y → B ≤ y.block) (hc : Chg S w w') (hS : ∀ k, S k → k < B) : Rd w' k a n l := by
  refine ⟨h.1, h.2.1, fun hn => ?_⟩
  obtain ⟨b, o, e, hb, hcc⟩ := h.2.2 hn
  have := hB _ e
  refine ⟨b, o, e, Nat.lt_of_lt_of_le hb hc.size, fun j hj => (hc.cell hb (fun hs => by have := hS _ hs; simp at *; omega)).trans (hcc j hj)⟩
theorem RdS.chg {S : Nat → Prop} {w w' : World} {B : Nat} {al : Option Addr} {k q : Nat} {ll : List (List Int)} (h : RdS w B al k q ll) (hc : Chg S w w') (hS : ∀ k, S k → k < B) : RdS w' B al k q ll := by
  refine ⟨h.1, fun j hj => ?_⟩
  obtain ⟨b, o, a, c, e, hlt, hB, hcc, hy, hr⟩ := h.2 j hj
  exact ⟨b, o, a, c, e, Nat.lt_of_lt_of_le hlt hc.size, hB, (hc.cell hlt (fun hs => by have := hS _ hs; omega)).trans hcc, hy, hr.chgB hy hc hS⟩
theorem RdS.kept {w w' : World} {B : Nat} {al : Option Addr} {k q : Nat} {ll : List (List Int)} (h : RdS w B al k q ll) (hb : Below w.heap.size w w') : RdS w' B al k q ll :=
  h.chg (S := fun _ => False) (Chg.of_below hb) (fun _ h => h.elim)

set_option maxHeartbeats 800000 in
set_option maxRecDepth 20000 in
theorem fitsN_any (B : Nat) (al : Option Addr) (k q cl : Nat) (ll : List (List Int)) (w : World) (h : RdS w B al k q ll) (hk : k ≤ 65536) (hq : q ≤ 65536) :
    Calls Try.prog 53 #[.slice al k cl] w fun e w' => e = .returned (.bool true) ∧ w = w' := by
  have HA := Lib.hid h
  clear h
  go_enter Try.func53, Try.ntmps53
  go_wp2
  go_loopw [7] (fun j wr => ∃ t : Nat, t ≤ k ∧ j = .int .i64 t ∧ Hid (w = wr)) (fun j _ => k - (intOf j).toNat)
  case atStart => exact ⟨0, Nat.zero_le _, rfl, rfl⟩
  case round =>
    obtain ⟨t, ht, rfl, hwr⟩ := hrel
    obtain rfl := hwr.out
    by_cases hlt : t < k
    · obtain ⟨b, o, a, c, rfl, hb, hB, hc, hy, hr⟩ := HA.out.2 t hlt
      have hr1 := hr.2.1
      clear hr hy
      go_wp2
      go_roundw
      case rel => exact ⟨t + 1, by omega, by go_num, Lib.hid (by first | rfl | trivial)⟩
      case measure => simp [intOf]; omega
    · obtain rfl : t = k := by omega
      go_wp2
      go_ret
      exact ⟨rfl, rfl⟩

theorem absR {v d : Int} {n : Nat} (h : -(n * 9223372036854775808) ≤ v ∧ v ≤ n * 9223372036854775808) (hn : n ≤ 65536) : -1267650600228229401496703205376 < v ∧ v < 1267650600228229401496703205376 := by omega
theorem rne_bd {v d : Int} (hd : 0 < d) (h : -1267650600228229401496703205376 < v ∧ v < 1267650600228229401496703205376) : I128 (rne v d) := by
  have h1 := Int.emod_nonneg v (b := d) (by omega)
  have h2 := Int.emod_lt_of_pos v hd
  have h3 : v / d < 1267650600228229401496703205376 := by
    rw [Int.ediv_lt_iff_lt_mul hd]
    have : (1267650600228229401496703205376 : Int) * 1 ≤ 1267650600228229401496703205376 * d := Int.mul_le_mul_of_nonneg_left (by omega) (by omega)
    omega
  have h4 : -1267650600228229401496703205376 ≤ v / d := by
    rw [Int.le_ediv_iff_mul_le hd]
    have : (-1267650600228229401496703205376 : Int) * d ≤ -1267650600228229401496703205376 * 1 := by omega
    omega
  unfold I128 rne
  split
  · omega
  · omega

/-- The mean of n numbers. -/
def meanI (l : List Int) (n : Nat) : Int := rne (sumI l n) n

set_option maxHeartbeats 1600000 in
set_option maxRecDepth 20000 in
theorem Mean_any (u : Option Nat) (n : Int) (m ca : Nat) (aa : Option Addr) (l : List Int) (w : World) (h : Rd w .i64 aa m l) (hm0 : 0 < m) (hm : m ≤ 64) (ia : A64 l) (hu : Un w u n) :
    Calls Try.prog 24 #[uV u, .slice aa m ca] w fun e w' => e = .returned (.tuple #[.int .i64 (clampI (meanI l m)), .int .i64 0]) ∧ Chg (UC u) w w' ∧ Un w' u (upC n (over (meanI l m))) := by
  have hbd := absR (d := 0) (sumI_bd ia m) (by omega)
  have HF := Lib.hid (fun g w h1 => fits1_any g aa m ca w h1 (by omega))
  have HT := Lib.hid (fun w' (hb : Below w.heap.size w w') => total_any aa m ca l w' (h.kept hb) (by omega) ia)
  have HQ := Lib.hid (fun w => Quo_any (sumI l m) m w hbd (by omega) (by omega))
  have HK := Lib.hid (fun w h => vtake_any u n (meanI l m) w h (rne_bd (by omega) hbd))
  unfold meanI at *
  have Hu := Lib.hid hu
  clear h ia hu hbd
  generalize uV u = p at *
  generalize sumI l m = S at *
  generalize rne S m = R at *
  unfold W at *
  go_enter Try.func24, Try.ntmps24
  go_wp2_with fail
  ((with_reducible refine (HF.out _ _ (World.cell?_alloc_at _ _ _ _ rfl)).mono ?_); rintro e w1 ⟨rfl, rfl⟩)
  go_wp2_with fail
  ((with_reducible refine (HT.out _ (by (repeat first | assumption | exact Below.refl _ _ | refine Below.drew ?_ | refine Below.drewN ?_ _ | refine Below.alloc ?_ (by (first | omega | (simp; done) | (simp; omega))) _ | refine Below.setCell ?_ (by (first | omega | (simp; done) | (simp; omega))) _ | refine Below.trans ?_ (Below.mono (by assumption) (by (first | omega | (simp; done) | (simp; omega))))))).mono ?_); rintro e w2 ⟨rfl, hb2⟩)
  have Hb2 : Hid (Below w.heap.size w w2) := Lib.hid (by (repeat first | assumption | exact Below.refl _ _ | refine Below.drew ?_ | refine Below.drewN ?_ _ | refine Below.alloc ?_ (by (first | omega | (simp; done) | (simp; omega))) _ | refine Below.setCell ?_ (by (first | omega | (simp; done) | (simp; omega))) _ | refine Below.trans ?_ (Below.mono (by assumption) (by (first | omega | (simp; done) | (simp; omega))))))
  clear hb2
  go_wp2_with fail
  ((with_reducible refine (HQ.out _).mono ?_); rintro e w3 ⟨rfl, hb3⟩)
  have Hb3 : Hid (Below w.heap.size w w3) := Lib.hid (Hb2.out.trans (hb3.mono Hb2.out.size))
  clear hb3
  have Hb4 : ∀ o, Hid (Below w.heap.size w (w3.alloc o)) := fun o => Lib.hid (Hb3.out.alloc Hb3.out.size _)
  go_wp2_with fail
  ((with_reducible refine (HK.out _ (Hu.out.kept (Hb4 _).out)).mono ?_); rintro e w4 ⟨rfl, hc4, hu4⟩)
  go_wp2
  go_ret2
  exact ⟨rfl, hc4.after_below (Hb4 _).out, hu4⟩
end Go.Proofs.Ytkmfdggodinjaaa
