/-
  Layer fix: a unit or none: results taken, products, differences, long numbers to the nearest.
-/
import Derived.Test.YtkmfdggodinjaaaUnitB
import Derived.Test.YtkmfdggodinjaaaLongD
namespace Go.Proofs.Ytkmfdggodinjaaa
open Go.RowKit
set_option linter.unusedVariables false
set_option linter.unusedSimpArgs false
set_option maxRecDepth 8000

/-- A unit that has counted n, or none. -/
def Un (w : World) (u : Option Nat) (n : Int) : Prop := ∀ b, u = some b → UAt w b n
abbrev uV (u : Option Nat) : Value := .pointer (u.map fun b => ⟨b, 0, none⟩)
def UC (u : Option Nat) : Nat → Prop := fun k => u = some k

theorem Un.none (w : World) (n : Int) : Un w none n := fun b h => by cases h
theorem Un.kept {w w' : World} {u : Option Nat} {n : Int} (h : Un w u n) (hb : Below w.heap.size w w') : Un w' u n := fun b e => (h b e).kept hb
theorem Un.lt {w : World} {u : Option Nat} {n : Int} (h : Un w u n) {k : Nat} (hk : UC u k) : k < w.heap.size := (h k hk).lt

theorem Take_u (u : Option Nat) (n x : Int) (o : Bool) (w : World) (h : Un w u n) :
    Calls Try.prog 59 #[uV u, .int .i64 x, .bool o] w fun e w' => e = .returned (.int .i64 x) ∧ Chg (UC u) w w' ∧ Un w' u (upC n o) := by
  cases u with
  | none => exact (Take_nil x o w).mono fun e w' h => ⟨h.1, by rw [← h.2]; exact Chg.refl _ _, Un.none _ _⟩
  | some b => exact (Take_any b n x o w (h b rfl)).mono fun e w' h => ⟨h.1, h.2.1.mono fun k hk => by rw [hk]; rfl, fun b' e => by cases e; exact h.2.2⟩

set_option maxRecDepth 100000 in
set_option maxHeartbeats 800000 in
theorem two_Mul_u (u : Option Nat) (n x y : Int) (w : World) (h : Un w u n) (hx : I64 x) (hy : I64 y) :
    Calls Try.prog 145 #[uV u, .func (Fn.func 73) #[] #[], .int .i64 x, .int .i64 y] w fun e w' => e = .returned (.int .i64 (clampI (rne (x * y) 4294967296))) ∧ Chg (UC u) w w' ∧ Un w' u (upC n (over (rne (x * y) 4294967296))) := by
  have HM := Lib.hid (fun w => fixMul_any x y w hx hy)
  have HT := Lib.hid (fun w h => Take_u u n (clampI (rne (x * y) 4294967296)) (over (rne (x * y) 4294967296)) w h)
  have Hu := Lib.hid h
  clear h hx hy
  generalize uV u = p at *
  go_enter Try.func145, Try.ntmps145
  go_wp2_with first
    | ((with_reducible refine (HM.out _).mono ?_); rintro e w1 ⟨rfl, hb1⟩)
    | ((with_reducible refine (HT.out _ (Hu.out.kept hb1)).mono ?_); rintro e w2 ⟨rfl, hc2, hu2⟩)
    | fail
  go_ret
  exact ⟨rfl, hc2.after_below hb1, hu2⟩

set_option maxRecDepth 100000 in
set_option maxHeartbeats 800000 in
theorem two_Sub_u (u : Option Nat) (n x y : Int) (w : World) (h : Un w u n) (hx : I64 x) (hy : I64 y) :
    Calls Try.prog 145 #[uV u, .func (Fn.func 74) #[] #[], .int .i64 x, .int .i64 y] w fun e w' => e = .returned (.int .i64 (clampI (x - y))) ∧ Chg (UC u) w w' ∧ Un w' u (upC n (over (x - y))) := by
  have HM := Lib.hid (fun w => fixSub_any x y w hx hy)
  have HT := Lib.hid (fun w h => Take_u u n (clampI (x - y)) (over (x - y)) w h)
  have Hu := Lib.hid h
  clear h hx hy
  generalize uV u = p at *
  go_enter Try.func145, Try.ntmps145
  go_wp2_with first
    | ((with_reducible refine (HM.out _).mono ?_); rintro e w1 ⟨rfl, hb1⟩)
    | ((with_reducible refine (HT.out _ (Hu.out.kept hb1)).mono ?_); rintro e w2 ⟨rfl, hc2, hu2⟩)
    | fail
  go_ret
  exact ⟨rfl, hc2.after_below hb1, hu2⟩

set_option maxRecDepth 100000 in
set_option maxHeartbeats 800000 in
theorem uMul_u (u : Option Nat) (n x y : Int) (w : World) (h : Un w u n) (hx : I64 x) (hy : I64 y) :
    Calls Try.prog 150 #[uV u, .int .i64 x, .int .i64 y] w fun e w' => e = .returned (.int .i64 (clampI (rne (x * y) 4294967296))) ∧ Chg (UC u) w w' ∧ Un w' u (upC n (over (rne (x * y) 4294967296))) := by
  have HT := Lib.hid (two_Mul_u u n x y w h hx hy)
  clear h hx hy
  generalize uV u = p at *
  go_enter Try.func150, Try.ntmps150
  go_wp2_with first
    | ((with_reducible refine (HT.out).mono ?_); rintro e w2 ⟨rfl, hc2, hu2⟩)
    | fail
  go_ret
  exact ⟨rfl, hc2, hu2⟩

set_option maxRecDepth 100000 in
set_option maxHeartbeats 800000 in
theorem uSub_u (u : Option Nat) (n x y : Int) (w : World) (h : Un w u n) (hx : I64 x) (hy : I64 y) :
    Calls Try.prog 144 #[uV u, .int .i64 x, .int .i64 y] w fun e w' => e = .returned (.int .i64 (clampI (x - y))) ∧ Chg (UC u) w w' ∧ Un w' u (upC n (over (x - y))) := by
  have HT := Lib.hid (two_Sub_u u n x y w h hx hy)
  clear h hx hy
  generalize uV u = p at *
  go_enter Try.func144, Try.ntmps144
  go_wp2_with first
    | ((with_reducible refine (HT.out).mono ?_); rintro e w2 ⟨rfl, hc2, hu2⟩)
    | fail
  go_ret
  exact ⟨rfl, hc2, hu2⟩

set_option maxRecDepth 100000 in
set_option maxHeartbeats 800000 in
theorem uNear32_u (u : Option Nat) (n v : Int) (w : World) (h : Un w u n) (hv : I192 v) :
    Calls Try.prog 100 #[uV u, LG v, .int .i64 32] w fun e w' => e = .returned (.int .i64 (clampI (rne v 4294967296))) ∧ Chg (UC u) w w' ∧ Un w' u (upC n (over (rne v 4294967296))) := by
  have HN := Lib.hid (fun w => Near32_any v w hv)
  have HT := Lib.hid (fun w h => Take_u u n (clampI (rne v 4294967296)) (over (rne v 4294967296)) w h)
  have Hu := Lib.hid h
  clear h hv
  generalize uV u = p at *
  unfold LG at *
  go_enter Try.func100, Try.ntmps100
  go_wp2_with first
    | ((with_reducible refine (HN.out _).mono ?_); rintro e w1 ⟨rfl, hb1⟩; have hbb : Hid (Below w.heap.size w w1) := Lib.hid (by (repeat first | assumption | exact Below.refl _ _ | refine Below.drew ?_ | refine Below.drewN ?_ _ | refine Below.alloc ?_ (by (first | omega | (simp; done) | (simp; omega))) _ | refine Below.setCell ?_ (by (first | omega | (simp; done) | (simp; omega))) _ | refine Below.trans ?_ (Below.mono (by assumption) (by (first | omega | (simp; done) | (simp; omega)))))))
    | ((with_reducible refine (HT.out _ (Hu.out.kept hbb.out)).mono ?_); rintro e w2 ⟨rfl, hc2, hu2⟩)
    | fail
  go_ret
  exact ⟨rfl, hc2.after_below hbb.out, hu2⟩

set_option maxRecDepth 100000 in
set_option maxHeartbeats 800000 in
theorem uNear33_u (u : Option Nat) (n v : Int) (w : World) (h : Un w u n) (hv : I192 v) :
    Calls Try.prog 100 #[uV u, LG v, .int .i64 33] w fun e w' => e = .returned (.int .i64 (clampI (rne v 8589934592))) ∧ Chg (UC u) w w' ∧ Un w' u (upC n (over (rne v 8589934592))) := by
  have HN := Lib.hid (fun w => Near33_any v w hv)
  have HT := Lib.hid (fun w h => Take_u u n (clampI (rne v 8589934592)) (over (rne v 8589934592)) w h)
  have Hu := Lib.hid h
  clear h hv
  generalize uV u = p at *
  unfold LG at *
  go_enter Try.func100, Try.ntmps100
  go_wp2_with first
    | ((with_reducible refine (HN.out _).mono ?_); rintro e w1 ⟨rfl, hb1⟩; have hbb : Hid (Below w.heap.size w w1) := Lib.hid (by (repeat first | assumption | exact Below.refl _ _ | refine Below.drew ?_ | refine Below.drewN ?_ _ | refine Below.alloc ?_ (by (first | omega | (simp; done) | (simp; omega))) _ | refine Below.setCell ?_ (by (first | omega | (simp; done) | (simp; omega))) _ | refine Below.trans ?_ (Below.mono (by assumption) (by (first | omega | (simp; done) | (simp; omega)))))))
    | ((with_reducible refine (HT.out _ (Hu.out.kept hbb.out)).mono ?_); rintro e w2 ⟨rfl, hc2, hu2⟩)
    | fail
  go_ret
  exact ⟨rfl, hc2.after_below hbb.out, hu2⟩
end Go.Proofs.Ytkmfdggodinjaaa
