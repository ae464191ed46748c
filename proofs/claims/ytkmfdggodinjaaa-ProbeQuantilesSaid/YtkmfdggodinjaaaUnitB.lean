/-
  Layer fix: the unit's products and differences.
-/
import Derived.Test.YtkmfdggodinjaaaUnitA
import Derived.Test.YtkmfdggodinjaaaFixB
namespace Go.Proofs.Ytkmfdggodinjaaa
open Go.RowKit
set_option linter.unusedVariables false
set_option linter.unusedSimpArgs false
set_option maxRecDepth 8000

theorem Chg.after_below {S : Nat → Prop} {a b c : World} (h : Below a.heap.size a b) (k : Chg S b c) : Chg S a c := (Chg.of_below h).trans k

set_option maxRecDepth 100000 in
set_option maxHeartbeats 800000 in
theorem two_Mul (b : Nat) (n x y : Int) (w : World) (h : UAt w b n) (hx : I64 x) (hy : I64 y) :
    Calls Try.prog 145 #[.pointer (some ⟨b, 0, none⟩), .func (Fn.func 73) #[] #[], .int .i64 x, .int .i64 y] w fun e w' => e = .returned (.int .i64 (clampI (rne (x * y) 4294967296))) ∧ Chg (fun k => k = b) w w' ∧ UAt w' b (upC n (over (rne (x * y) 4294967296))) := by
  have HM := Lib.hid (fun w => fixMul_any x y w hx hy)
  have HT := Lib.hid (fun w h => Take_any b n (clampI (rne (x * y) 4294967296)) (over (rne (x * y) 4294967296)) w h)
  have Hu := Lib.hid h
  clear h hx hy
  go_enter Try.func145, Try.ntmps145
  go_wp2_with first
    | ((with_reducible refine (HM.out _).mono ?_); rintro e w1 ⟨rfl, hb1⟩)
    | ((with_reducible refine (HT.out _ (Hu.out.kept hb1)).mono ?_); rintro e w2 ⟨rfl, hc2, hu2⟩)
    | fail
  go_ret
  exact ⟨rfl, hc2.after_below hb1, hu2⟩

set_option maxRecDepth 100000 in
set_option maxHeartbeats 800000 in
theorem two_Sub (b : Nat) (n x y : Int) (w : World) (h : UAt w b n) (hx : I64 x) (hy : I64 y) :
    Calls Try.prog 145 #[.pointer (some ⟨b, 0, none⟩), .func (Fn.func 74) #[] #[], .int .i64 x, .int .i64 y] w fun e w' => e = .returned (.int .i64 (clampI (x - y))) ∧ Chg (fun k => k = b) w w' ∧ UAt w' b (upC n (over (x - y))) := by
  have HM := Lib.hid (fun w => fixSub_any x y w hx hy)
  have HT := Lib.hid (fun w h => Take_any b n (clampI (x - y)) (over (x - y)) w h)
  have Hu := Lib.hid h
  clear h hx hy
  go_enter Try.func145, Try.ntmps145
  go_wp2_with first
    | ((with_reducible refine (HM.out _).mono ?_); rintro e w1 ⟨rfl, hb1⟩)
    | ((with_reducible refine (HT.out _ (Hu.out.kept hb1)).mono ?_); rintro e w2 ⟨rfl, hc2, hu2⟩)
    | fail
  go_ret
  exact ⟨rfl, hc2.after_below hb1, hu2⟩

set_option maxRecDepth 100000 in
set_option maxHeartbeats 800000 in
theorem uMul_any (b : Nat) (n x y : Int) (w : World) (h : UAt w b n) (hx : I64 x) (hy : I64 y) :
    Calls Try.prog 150 #[.pointer (some ⟨b, 0, none⟩), .int .i64 x, .int .i64 y] w fun e w' => e = .returned (.int .i64 (clampI (rne (x * y) 4294967296))) ∧ Chg (fun k => k = b) w w' ∧ UAt w' b (upC n (over (rne (x * y) 4294967296))) := by
  have HT := Lib.hid (two_Mul b n x y w h hx hy)
  clear h hx hy
  go_enter Try.func150, Try.ntmps150
  go_wp2_with first
    | ((with_reducible refine (HT.out).mono ?_); rintro e w2 ⟨rfl, hc2, hu2⟩)
    | fail
  go_ret
  exact ⟨rfl, hc2, hu2⟩

set_option maxRecDepth 100000 in
set_option maxHeartbeats 800000 in
theorem uSub_any (b : Nat) (n x y : Int) (w : World) (h : UAt w b n) (hx : I64 x) (hy : I64 y) :
    Calls Try.prog 144 #[.pointer (some ⟨b, 0, none⟩), .int .i64 x, .int .i64 y] w fun e w' => e = .returned (.int .i64 (clampI (x - y))) ∧ Chg (fun k => k = b) w w' ∧ UAt w' b (upC n (over (x - y))) := by
  have HT := Lib.hid (two_Sub b n x y w h hx hy)
  clear h hx hy
  go_enter Try.func144, Try.ntmps144
  go_wp2_with first
    | ((with_reducible refine (HT.out).mono ?_); rintro e w2 ⟨rfl, hc2, hu2⟩)
    | fail
  go_ret
  exact ⟨rfl, hc2, hu2⟩

end Go.Proofs.Ytkmfdggodinjaaa
