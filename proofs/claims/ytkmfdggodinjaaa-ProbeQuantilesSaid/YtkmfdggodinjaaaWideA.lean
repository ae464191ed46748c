/-
  Layer wide: what each function answers, as whole numbers.
-/
import Derived.Test.YtkmfdggodinjaaaNum
import Derived.Laws.Externs
import Derived.Lib.Mul64
import Derived.Laws.Bits64b
import Derived.Shelf.Spec.BitsCarry
import Derived.Shelf.Bits.Mul64
namespace Go.Proofs.Ytkmfdggodinjaaa
open Go.RowKit
set_option linter.unusedVariables false
set_option linter.unusedSimpArgs false

theorem add64 (x y c : Int) (hx : 0 ≤ x) (hy : 0 ≤ y) (hc0 : 0 ≤ c) (hc : c ≤ 1) (w : World) :
    (callFunc 80 #[.int .u64 x, .int .u64 y, .int .u64 c]).run Try.prog w = .ok (.value (.tuple #[.int .u64 ((x + y + c) % 18446744073709551616), .int .u64 ((x + y + c) / 18446744073709551616)])) w := by
  rw [run_callFunc_extern Try.func80 (by kernel_rfl) (by kernel_rfl) (by kernel_rfl) (e := add64Entry) (by kernel_rfl), run_add64 x y c hx hy hc0 hc]
  rfl

theorem u64w_bd (n : Int) : 0 ≤ IntKind.u64.wrap n ∧ IntKind.u64.wrap n ≤ 18446744073709551615 := by rw [IntKind.wrap_u64]; omega
theorem bodyW {P : Program} {fn : Func} {R : Ending → World → Prop} {tmps : Array Value} {w : World} {t : TypeId} {T : Tmp} {b : Nat} {cs : Array Value} (hres : fn.results = #[.cell T t])
    (hT : tmps.getD T undef = .pointer (some ⟨b, 0, none⟩)) (hrun : (results fn tmps).run P w = .ok (.agg cs) w) (h : R (.returned (.agg cs)) w) : bodyPost P fn R .ret { tmps := tmps, defers := [] } w :=
  bodyPost_ret hrun rfl h

set_option maxHeartbeats 400000 in
theorem Of_any (n : Int) (w : World) (h : I64 n) :
    Calls Try.prog 48 #[.int .i64 n] w fun e w' => e = .returned (W n) ∧ Below w.heap.size w w' := by
  have HW : Hid (W n = .agg #[.int .i64 (n / 9223372036854775808), .int .u64 (IntKind.u64.wrap n)]) := by
    have e1 : whi n = n / 9223372036854775808 := by unfold I64 at h; unfold whi wrap64; omega
    have e2 : wlo n = IntKind.u64.wrap n := by rw [IntKind.wrap_u64]; rfl
    unfold Hid W
    rw [e1, e2]
  obtain ⟨h1, h2⟩ := h
  rw [HW.out]
  clear HW
  go_enter Try.func48, Try.ntmps48
  go_wp2
  refine bodyPost_ret (v := .agg #[.int .i64 (n / 9223372036854775808), .int .u64 (IntKind.u64.wrap n)]) ?_ rfl ⟨rfl, (Below.refl _ _).alloc (Nat.le_refl _) _⟩
  simp [results, Try.results48, go_sem]

theorem add_hi (a b : Int) : wrap64 ((IntKind.u64.wrap (whi a) + IntKind.u64.wrap (whi b) + (wlo a + wlo b + 0) / 18446744073709551616) % 18446744073709551616) = whi (a + b) := by
  rw [IntKind.wrap_u64, IntKind.wrap_u64]; unfold whi wlo wrap64; omega
theorem add_lo (a b : Int) : (wlo a + wlo b + 0) % 18446744073709551616 = wlo (a + b) := by unfold wlo; omega

set_option maxRecDepth 100000 in
set_option maxHeartbeats 400000 in
theorem Add_any (a b : Int) (w : World) :
    Calls Try.prog 77 #[W a, W b] w fun e w' => e = .returned (W (a + b)) ∧ Below w.heap.size w w' := by
  have A1 : ∀ w, (callFunc 80 #[.int .u64 (wlo a), .int .u64 (wlo b), .int .u64 0]).run Try.prog w = _ := fun w => add64 _ _ 0 (wlo_bd a).1 (wlo_bd b).1 (by omega) (by omega) w
  have A2 : ∀ w, (callFunc 80 #[.int .u64 (IntKind.u64.wrap (whi a)), .int .u64 (IntKind.u64.wrap (whi b)), .int .u64 ((wlo a + wlo b + 0) / 18446744073709551616)]).run Try.prog w = _ :=
    fun w => add64 _ _ _ (u64w_bd _).1 (u64w_bd _).1 (by have := wlo_bd a; have := wlo_bd b; omega) (by have := wlo_bd a; have := wlo_bd b; omega) w
  rw [add_lo] at A1
  generalize hc : (wlo a + wlo b + 0) / 18446744073709551616 = c at *
  have Hc := Lib.hid hc
  clear hc
  unfold W
  generalize hx : wlo a = x at *
  generalize hy : wlo b = y at *
  generalize hp : whi a = p at *
  generalize hq : whi b = q at *
  generalize hr : wlo (a + b) = r at *
  have HH : Hid (wrap64 ((IntKind.u64.wrap p + IntKind.u64.wrap q + c) % 18446744073709551616) = whi (a + b)) := by rw [← add_hi a b, hp, hq, ← Hc.out, hx, hy]; exact rfl
  clear hx hy hp hq hr Hc
  go_enter Try.func77, Try.ntmps77
  go_wp2
  refine bodyPost_ret (v := .agg #[.int .i64 (whi (a + b)), .int .u64 r]) (by simp [results, Try.results77, go_sem]; exact HH.out) rfl ⟨rfl, ((((Below.refl _ _).alloc (Nat.le_refl _) _).alloc (by simp) _).alloc (by simp; omega) _)⟩

theorem sub64 (x y c : Int) (hx : 0 ≤ x) (hy : 0 ≤ y) (hx2 : x ≤ 18446744073709551615) (hy2 : y ≤ 18446744073709551615) (hc0 : 0 ≤ c) (hc : c ≤ 1) (w : World) :
    (callFunc 76 #[.int .u64 x, .int .u64 y, .int .u64 c]).run Try.prog w = .ok (.value (.tuple #[.int .u64 ((x - y - c) % 18446744073709551616), .int .u64 (if x < y + c then 1 else 0)])) w := by
  obtain ⟨x, rfl⟩ := Int.eq_ofNat_of_zero_le hx
  obtain ⟨y, rfl⟩ := Int.eq_ofNat_of_zero_le hy
  obtain ⟨c, rfl⟩ := Int.eq_ofNat_of_zero_le hc0
  rw [run_callFunc_extern Try.func76 (by kernel_rfl) (by kernel_rfl) (by kernel_rfl) (e := sub64Entry) (by kernel_rfl), run_sub64 x y c (by omega)]
  have e1 : (((x + 18446744073709551616 - y - c) % 18446744073709551616 : Nat) : Int) = ((x : Int) - y - c) % 18446744073709551616 := by omega
  have e2 : ((if x < y + c then 1 else 0 : Nat) : Int) = if (x : Int) < y + c then 1 else 0 := by
    by_cases h : x < y + c
    · rw [if_pos h, if_pos (by omega)]; rfl
    · rw [if_neg h, if_neg (by omega)]; rfl
  simp only [Result.andThen, e1, e2]

theorem sub_hi (a b : Int) : wrap64 ((IntKind.u64.wrap (whi a) - IntKind.u64.wrap (whi b) - (if wlo a < wlo b + 0 then 1 else 0)) % 18446744073709551616) = whi (a - b) := by
  rw [IntKind.wrap_u64, IntKind.wrap_u64]; split <;> (unfold whi wlo at *; unfold wrap64; omega)
theorem sub_lo (a b : Int) : (wlo a - wlo b - 0) % 18446744073709551616 = wlo (a - b) := by unfold wlo; omega

set_option maxRecDepth 100000 in
set_option maxHeartbeats 400000 in
theorem Sub_any (a b : Int) (w : World) :
    Calls Try.prog 47 #[W a, W b] w fun e w' => e = .returned (W (a - b)) ∧ Below w.heap.size w w' := by
  have A1 : ∀ w, (callFunc 76 #[.int .u64 (wlo a), .int .u64 (wlo b), .int .u64 0]).run Try.prog w = _ := fun w => sub64 _ _ 0 (wlo_bd a).1 (wlo_bd b).1 (wlo_bd a).2 (wlo_bd b).2 (by omega) (by omega) w
  have A2 : ∀ w, (callFunc 76 #[.int .u64 (IntKind.u64.wrap (whi a)), .int .u64 (IntKind.u64.wrap (whi b)), .int .u64 (if wlo a < wlo b + 0 then 1 else 0)]).run Try.prog w = _ :=
    fun w => sub64 _ _ _ (u64w_bd _).1 (u64w_bd _).1 (u64w_bd _).2 (u64w_bd _).2 (by split <;> omega) (by split <;> omega) w
  rw [sub_lo] at A1
  have HH := Lib.hid (sub_hi a b)
  generalize (if wlo a < wlo b + 0 then (1 : Int) else 0) = c at *
  unfold W
  generalize wlo a = x at *
  generalize wlo b = y at *
  generalize whi a = p at *
  generalize whi b = q at *
  generalize wlo (a - b) = r at *
  go_enter Try.func47, Try.ntmps47
  go_wp2
  all_goals exact bodyPost_ret (v := .agg #[.int .i64 (whi (a - b)), .int .u64 r]) (by simp [results, Try.results47, go_sem]; exact HH.out) rfl ⟨rfl, ((((Below.refl _ _).alloc (Nat.le_refl _) _).alloc (by simp) _).alloc (by simp; omega) _)⟩

theorem whi_zero : whi 0 = 0 := by unfold whi wrap64; omega
theorem wlo_zero : wlo 0 = 0 := by unfold wlo; omega
theorem Wz : W 0 = .agg #[.int .i64 0, .int .u64 0] := by simp only [W, whi_zero, wlo_zero]

set_option maxHeartbeats 400000 in
theorem Neg_any (a : Int) (w : World) : Calls Try.prog 81 #[W a] w fun e w' => e = .returned (W (-a)) ∧ Below w.heap.size w w' := by
  have HS := Lib.hid (fun w => Sub_any 0 a w)
  rw [Wz, Int.zero_sub] at HS
  unfold W at HS ⊢
  go_enter Try.func81, Try.ntmps81
  go_wp2_with fail
  ((with_reducible refine (HS.out _).mono ?_); rintro e w1 ⟨rfl, hb⟩)
  obtain ⟨hc1, hf1⟩ := bcell hb
  have hsz := hb.size
  simp at hsz hc1 hf1
  have Hb := Lib.hid hb; clear hb
  go_wp2
  refine bodyPost_ret (v := .agg #[.int .i64 (whi (-a)), .int .u64 (wlo (-a))]) (by simp [results, Try.results81, go_sem, hc1, hf1]) rfl ⟨rfl, ?_⟩
  exact (((((Below.refl _ _).alloc (Nat.le_refl _) _).alloc (by simp) _).trans (Hb.out.mono (by simp; omega))).setCell (by simp) _).setCell (by simp) _

set_option maxHeartbeats 1000000 in
/-- math/bits.Mul64: every x, every y. -/
theorem Mul64_any (x y : Nat) (hx : x < 18446744073709551616) (hy : y < 18446744073709551616) (w : World) :
    Calls Try.prog 107 #[.int .u64 x, .int .u64 y] w fun e w' => e = .returned (.tuple #[.int .u64 ((x * y / 18446744073709551616 : Nat) : Int), .int .u64 ((x * y % 18446744073709551616 : Nat) : Int)]) ∧ w = w' := by
  obtain ⟨bd, bt, bw, hhi⟩ := Lib.mul64_hi x y hx hy
  have ba := Lib.half_mul_le (a := x / 4294967296) (b := y / 4294967296) (by omega) (by omega)
  have bb := Lib.half_mul_le (a := x / 4294967296) (b := y % 4294967296) (by omega) (by omega)
  have bc := Lib.half_mul_le (a := x % 4294967296) (b := y / 4294967296) (by omega) (by omega)
  have ba' : x / 4294967296 * (y / 4294967296) < 18446744073709551616 := by omega
  have bb' : x / 4294967296 * (y % 4294967296) < 18446744073709551616 := by omega
  have bc' : x % 4294967296 * (y / 4294967296) < 18446744073709551616 := by omega
  have bh1 : x / 4294967296 * (y / 4294967296) + (x / 4294967296 * (y % 4294967296) + x % 4294967296 * (y % 4294967296) / 4294967296) / 4294967296 < 18446744073709551616 := by omega
  have bh : x / 4294967296 * (y / 4294967296) + (x / 4294967296 * (y % 4294967296) + x % 4294967296 * (y % 4294967296) / 4294967296) / 4294967296 + ((x / 4294967296 * (y % 4294967296) + x % 4294967296 * (y % 4294967296) / 4294967296) % 4294967296 + x % 4294967296 * (y / 4294967296)) / 4294967296 < 18446744073709551616 := by omega
  go_enter Try.func107, Try.ntmps107
  go_wp2
  simp only [Mul64.maskN x hx, Mul64.maskN y hy, Mul64.divN, Mul64.mulN, Mul64.addN, Mul64.wrapN _ bd, Mul64.wrapN _ bb', Mul64.wrapN _ bt, Mul64.maskN _ bt, Mul64.wrapN _ bc', Mul64.wrapN _ bw, Mul64.wrapN _ ba', Mul64.wrapN _ bh1, Mul64.wrapN _ bh, Mul64.wrapM]
  rw [hhi]
  go_ret2
  exact ⟨rfl, rfl⟩

theorem Mul64_int (p q : Int) (h1 : 0 ≤ p) (h2 : p ≤ 18446744073709551615) (h3 : 0 ≤ q) (h4 : q ≤ 18446744073709551615) (w : World) :
    Calls Try.prog 107 #[.int .u64 p, .int .u64 q] w fun e w' => e = .returned (.tuple #[.int .u64 (p * q / 18446744073709551616), .int .u64 (p * q % 18446744073709551616)]) ∧ w = w' := by
  obtain ⟨x, rfl⟩ := Int.eq_ofNat_of_zero_le h1
  obtain ⟨y, rfl⟩ := Int.eq_ofNat_of_zero_le h3
  exact (Mul64_any x y (by omega) (by omega) w).mono fun e w' h => ⟨h.1.trans (by simp), h.2⟩

theorem mul_lo (a b : Int) : (IntKind.u64.wrap a * IntKind.u64.wrap b) % 18446744073709551616 = wlo (a * b) := by
  rw [IntKind.wrap_u64, IntKind.wrap_u64, ← Int.mul_emod]; rfl

theorem mul_hi (a b : Int) (ha : I64 a) (hb : I64 b) :
    wrap64 (IntKind.u64.wrap (IntKind.u64.wrap ((IntKind.u64.wrap a * IntKind.u64.wrap b) / 18446744073709551616 - (if a < 0 then IntKind.u64.wrap b else 0)) - (if b < 0 then IntKind.u64.wrap a else 0))) = whi (a * b) := by
  have e1 : IntKind.u64.wrap a = if a < 0 then a + 18446744073709551616 else a := by rw [IntKind.wrap_u64]; unfold I64 at ha; split <;> omega
  have e2 : IntKind.u64.wrap b = if b < 0 then b + 18446744073709551616 else b := by rw [IntKind.wrap_u64]; unfold I64 at hb; split <;> omega
  rw [e1, e2]
  simp only [IntKind.wrap_u64]
  unfold whi
  by_cases h1 : a < 0
  · by_cases h2 : b < 0
    · simp only [if_pos h1, if_pos h2, Int.add_mul, Int.mul_add]
      generalize a * b = p
      unfold wrap64; omega
    · simp only [if_pos h1, if_neg h2, Int.add_mul]
      generalize a * b = p
      unfold wrap64; omega
  · by_cases h2 : b < 0
    · simp only [if_neg h1, if_pos h2, Int.mul_add]
      generalize a * b = p
      unfold wrap64; omega
    · simp only [if_neg h1, if_neg h2]
      generalize a * b = p
      unfold wrap64; omega

set_option maxRecDepth 100000 in
set_option maxHeartbeats 400000 in
theorem Mul_any (a b : Int) (w : World) (ha : I64 a) (hb : I64 b) :
    Calls Try.prog 85 #[.int .i64 a, .int .i64 b] w fun e w' => e = .returned (W (a * b)) ∧ Below w.heap.size w w' := by
  have HM := Lib.hid (fun w => Mul64_int (IntKind.u64.wrap a) (IntKind.u64.wrap b) (u64w_bd a).1 (u64w_bd a).2 (u64w_bd b).1 (u64w_bd b).2 w)
  have Hl := Lib.hid (mul_lo a b)
  have Hh := Lib.hid (mul_hi a b ha hb)
  rw [Hl.out] at HM
  unfold W
  generalize wlo (a * b) = r at *
  generalize IntKind.u64.wrap a * IntKind.u64.wrap b / 18446744073709551616 = h at *
  clear Hl
  by_cases h1 : a < 0
  all_goals by_cases h2 : b < 0
  all_goals
    simp only [h1, h2, if_true, if_false] at Hh
    go_enter Try.func85, Try.ntmps85
    go_wp2_with (go_at_call 107; refine (HM.out _).mono ?_; rintro e w1 ⟨rfl, rfl⟩)
    refine bodyPost_ret (v := .agg #[.int .i64 (whi (a * b)), .int .u64 r]) ?_ rfl ⟨rfl, (Below.refl _ _).alloc (Nat.le_refl _) _⟩
    simp [results, Try.results85, go_sem]
    have := Hh.out
    simp only [IntKind.wrap_u64] at this ⊢
    first | exact this | (rw [← this]; unfold wrap64; omega)
end Go.Proofs.Ytkmfdggodinjaaa
