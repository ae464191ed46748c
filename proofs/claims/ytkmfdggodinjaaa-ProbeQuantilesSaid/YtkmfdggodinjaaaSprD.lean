/-
  regattalaw29.awake: the chapter's examples.
-/
import Derived.Test.YtkmfdggodinjaaaSprC
import Derived.Test.YtkmfdggodinjaaaHisC
namespace Go.Proofs.Ytkmfdggodinjaaa
open Go.RowKit
set_option linter.unusedVariables false
set_option linter.unusedSimpArgs false

def exH : List Int := [0, 4294967296, 8589934592, 12884901888]
theorem exH_hist : histL exH 0 8589934592 2 4 = [0, 1, 1, 2] := by decide +kernel
theorem exH_64 : A64 exH := fun i => by
  match i with
  | 0 => unfold exH I64; simp
  | 1 => unfold exH I64; simp
  | 2 => unfold exH I64; simp
  | 3 => unfold exH I64; simp
  | i + 4 => unfold exH I64; simp
theorem Rd_litP (w : World) (k : IntKind) (E : TypeId) (l : List Int) (fr : Nat × Nat) (hl : l.length ≤ 140737488351232) : Rd (w.alloc (.cells (l.map (Value.int k)).toArray E fr)) k (some ⟨w.heap.size, 0, none⟩) l.length l := by
  refine ⟨rfl, hl, fun _ => ⟨w.heap.size, 0, rfl, by simp, fun j hj => ?_⟩⟩
  rw [cell_of_row _ _ _ _ _ _ (heap_alloc_new w _)]
  simp [List.getElem?_eq_getElem hj]

set_option maxHeartbeats 3200000 in
set_option maxRecDepth 100000 in
theorem awake_any (w : World) : Calls Try.prog 8 #[] w fun e w' => e = .returned (.bool true) ∧ Below w.heap.size w w' := by
  have HSf : ∀ (a : Addr) (n : Nat) (w : World), (store a (.float .f64 n)).run Try.prog w = stored Try.prog w a (.float .f64 n) .plain := fun a n w => run_store Try.prog w a _ _ rfl
  have HE1 : ∀ w, (binOp BinOp.eql 36 (.float .f64 4617315517961601024) (.float .f64 4617315517961601024)).run Try.prog w = .ok (.bool true) w := fun w => by kernel_rfl
  have HE2 : ∀ w, (binOp BinOp.eql 36 (.float .f64 13839561654909534208) (.float .f64 13839561654909534208)).run Try.prog w = .ok (.bool true) w := fun w => by kernel_rfl
  have HSp := Lib.hid (fun b c w h0 h1 h2 => Spread_ex b 0 c w h0 h1 h2)
  have HHi := Lib.hid (fun a c w (h : Rd w .i64 a 4 exH) => Histogram_any a 4 c exH 0 8589934592 2 w h (by omega) exH_64 (by unfold I64; omega) (by unfold I64; omega) (by omega) (by omega) (by omega))
  rw [exH_hist] at HHi
  simp only [show ((2 : Nat) : Int) = 2 from rfl, show (2 : Nat) + 2 = 4 from rfl] at HHi
  go_enter Try.func8, Try.ntmps8
  go_wp2_with fail
  ((with_reducible refine (HSp.out _ _ _ (World.cell?_alloc_at _ _ _ _ rfl) (World.cell?_alloc_at _ _ _ _ rfl) (World.cell?_alloc_at _ _ _ _ rfl)).mono ?_); rintro e w1 ⟨rm, rn, rfl, hb1⟩)
  have hz1 := hb1.size
  have Hb1 : Hid (Below w.heap.size w w1) := Lib.hid (by (repeat first | assumption | exact Below.refl _ _ | refine Below.drew ?_ | refine Below.drewN ?_ _ | refine Below.alloc ?_ (by (first | omega | (simp; done) | (simp; omega))) _ | refine Below.setCell ?_ (by (first | omega | (simp; done) | (simp; omega))) _ | refine Below.trans ?_ (Below.mono (by assumption) (by (first | omega | (simp; done) | (simp; omega))))))
  (try simp at hz1)
  clear hb1
  have HO1 : (FloatKind.f64.format.order 4617315517961601024 4617315517961601024 == some .eq) = true := by decide +kernel
  have HO2 : (FloatKind.f64.format.order 13839561654909534208 13839561654909534208 == some .eq) = true := by decide +kernel
  go_wp2_with fail
  have hrd : Rd ((w1.alloc (.cells #[.float .f64 13839561654909534208, .float .f64 rm, .float .f64 rn, .float .f64 4617315517961601024, .int .i64 1] 38)).alloc (.cells #[.int .i64 0, .int .i64 4294967296, .int .i64 8589934592, .int .i64 12884901888] 23)) .i64 (some ⟨w1.heap.size + 1, 0, none⟩) 4 exH := by
    have h := Rd_litP (w1.alloc (.cells #[.float .f64 13839561654909534208, .float .f64 rm, .float .f64 rn, .float .f64 4617315517961601024, .int .i64 1] 38)) .i64 23 exH (0, 0) (by decide)
    rw [show (w1.alloc (.cells #[.float .f64 13839561654909534208, .float .f64 rm, .float .f64 rn, .float .f64 4617315517961601024, .int .i64 1] 38)).heap.size = w1.heap.size + 1 by simp] at h
    exact h
  ((with_reducible refine (HHi.out _ _ _ hrd).mono ?_); rintro e w2 ⟨g, rfl, hr2, hb2⟩)
  obtain ⟨hc2, hf2⟩ := bcell hb2
  have hz2 := hb2.size
  have Hb2 : Hid (Below w.heap.size w w2) := Lib.hid (by have := Hb1.out; (repeat first | assumption | exact Below.refl _ _ | refine Below.drew ?_ | refine Below.drewN ?_ _ | refine Below.alloc ?_ (by (first | omega | (simp; done) | (simp; omega))) _ | refine Below.setCell ?_ (by (first | omega | (simp; done) | (simp; omega))) _ | refine Below.trans ?_ (Below.mono (by assumption) (by (first | omega | (simp; done) | (simp; omega))))))
  (try simp at hz2 hc2 hf2)
  have s3 : w2.cell? ⟨w1.heap.size, 3, none⟩ = some (.float .f64 4617315517961601024) := by rw [hc2 _ _ (by omega)]; go_simp
  have s0 : w2.cell? ⟨w1.heap.size, 0, none⟩ = some (.float .f64 13839561654909534208) := by rw [hc2 _ _ (by omega)]; go_simp
  have s4 : w2.cell? ⟨w1.heap.size, 4, none⟩ = some (.int .i64 1) := by rw [hc2 _ _ (by omega)]; go_simp
  have Hr2 := Lib.hid hr2
  clear hb2 hc2 hf2 hrd hr2 HE1 HE2
  have hlt2 : w1.heap.size < w2.heap.size := by omega
  go_wp2_with fail
  have hq : Rd (w2.alloc (.cells #[.int .i64 0, .int .i64 1, .int .i64 1, .int .i64 2] 3)) .i64 (some ⟨w2.heap.size, 0, none⟩) 4 [0, 1, 1, 2] := Rd_litP w2 .i64 3 [0, 1, 1, 2] (0, 0) (by decide)
  have HSm := Lib.hid (same6_any (some ⟨g, 0, none⟩) (some ⟨w2.heap.size, 0, none⟩) 4 4 4 [0, 1, 1, 2] _ (Hr2.out.kept ((Below.refl _ _).alloc (Nat.le_refl _) _)) hq)
  clear hq
  trace_state
  ((with_reducible refine (HSm.out).mono ?_); rintro e w3 ⟨rfl, ⟨nd, rfl⟩⟩)
  go_wp2
  go_ret
  exact ⟨rfl, by have := Hb2.out; (repeat first | assumption | exact Below.refl _ _ | refine Below.drew ?_ | refine Below.drewN ?_ _ | refine Below.alloc ?_ (by (first | omega | (simp; done) | (simp; omega))) _ | refine Below.setCell ?_ (by (first | omega | (simp; done) | (simp; omega))) _ | refine Below.trans ?_ (Below.mono (by assumption) (by (first | omega | (simp; done) | (simp; omega)))))⟩
end Go.Proofs.Ytkmfdggodinjaaa
