/-
  Layer mlp: losses and slopes asked.
-/
import Derived.Test.YtdamenbpgkhiiaaHinB
import Derived.Test.YtdamenbpgkhiiaaMlpI
namespace Go.Proofs.Ytdamenbpgkhiiaa
open Go.RowKit
set_option linter.unusedVariables false
set_option linter.unusedSimpArgs false

set_option maxHeartbeats 400000 in
theorem of_hi (w : World) : Calls Try.prog 64 #[.int .i64 2] w fun e w' => e = .returned (.tuple #[.iface 168 (.agg #[]), .bool true]) ∧ w = w' := by
  go_enter Try.func64, Try.ntmps64
  go_wp2
  go_ret2
  exact ⟨rfl, rfl⟩
set_option maxHeartbeats 400000 in
theorem of_no (k : Int) (w : World) (h1 : k ≠ 1) (h2 : k ≠ 2) : Calls Try.prog 64 #[.int .i64 k] w fun e w' => e = .returned (.tuple #[Value.nilIface, .bool false]) ∧ w = w' := by
  have e1 : (k == 1) = false := by simpa using h1
  have e2 : (k == 2) = false := by simpa using h2
  go_enter Try.func64, Try.ntmps64
  go_wp2
  go_ret2
  exact ⟨rfl, rfl⟩


set_option maxHeartbeats 400000 in
theorem asked_ok (T : TypeId) (k : Int) (ay at' : Option Addr) (m cy ct : Nat) (w : World) (hm : m ≤ 65536) (hof : ∀ w, Calls Try.prog 64 #[.int .i64 k] w fun e w' => e = .returned (.tuple #[.iface T (.agg #[]), .bool true]) ∧ w = w') :
    Calls Try.prog 73 #[.int .i64 k, .slice ay m cy, .slice at' m ct] w fun e w' => e = .returned (.tuple #[.iface T (.agg #[]), .int .i64 0]) ∧ w = w' := by
  have HO := Lib.hid hof
  clear hof
  have hmi : ¬ ((m : Int) > 65536) := by omega
  go_enter Try.func73, Try.ntmps73
  go_wp2_with first
    | ((with_reducible refine (HO.out _).mono ?_); rintro e w1 ⟨rfl, rfl⟩)
    | fail
  go_ret2
  exact ⟨rfl, rfl⟩
set_option maxHeartbeats 400000 in
theorem asked_no (k : Int) (ay at' : Option Addr) (my mt cy ct : Nat) (w : World) (h1 : k ≠ 1) (h2 : k ≠ 2) :
    Calls Try.prog 73 #[.int .i64 k, .slice ay my cy, .slice at' mt ct] w fun e w' => e = .returned (.tuple #[Value.nilIface, .int .i64 71]) ∧ w = w' := by
  have HO := Lib.hid (fun w => of_no k w h1 h2)
  go_enter Try.func73, Try.ntmps73
  go_wp2_with first
    | ((with_reducible refine (HO.out _).mono ?_); rintro e w1 ⟨rfl, rfl⟩)
    | fail
  go_ret2
  exact ⟨rfl, rfl⟩
set_option maxHeartbeats 400000 in
theorem asked_len (T : TypeId) (k : Int) (ay at' : Option Addr) (my mt cy ct : Nat) (w : World) (hne : my ≠ mt) (hof : ∀ w, Calls Try.prog 64 #[.int .i64 k] w fun e w' => e = .returned (.tuple #[.iface T (.agg #[]), .bool true]) ∧ w = w') :
    Calls Try.prog 73 #[.int .i64 k, .slice ay my cy, .slice at' mt ct] w fun e w' => e = .returned (.tuple #[Value.nilIface, .int .i64 40]) ∧ w = w' := by
  have HO := Lib.hid hof
  clear hof
  have e1 : ((my : Int) != (mt : Int)) = true := by simpa using (by omega : ¬ (my : Int) = mt)
  have e2 : ((my : Int) == (mt : Int)) = false := by simpa using (by omega : ¬ (my : Int) = mt)
  go_enter Try.func73, Try.ntmps73
  go_wp2_with first
    | ((with_reducible refine (HO.out _).mono ?_); rintro e w1 ⟨rfl, rfl⟩)
    | fail
  go_ret2
  exact ⟨rfl, rfl⟩

set_option maxHeartbeats 1600000 in
set_option maxRecDepth 20000 in
theorem pLoss1_any (u : Option Nat) (n : Int) (m ca cb : Nat) (aa ab : Option Addr) (y t : List Int) (w : World) (ha : Rd w .i64 aa m y) (hb : Rd w .i64 ab m t) (hm : m ≤ 65536) (ia : A64 y) (ib : A64 t) (hu : Un w u n) (oa : 0 < m → ∀ z, aa = some z → ¬ UC u z.block) (ob : 0 < m → ∀ z, ab = some z → ¬ UC u z.block) :
    Calls Try.prog 44 #[uV u, .int .i64 1, .slice aa m ca, .slice ab m cb] w fun e w' => e = .returned (.tuple #[.int .i64 (sqFar y t m), .int .i64 0]) ∧ Chg (UC u) w w' ∧ Un w' u (upC (cntD n y t m) (over (rne (sqS (subs y t m) m) 8589934592))) := by
  have HA := Lib.hid (fun w => asked_ok 167 1 aa ab m ca cb w hm (fun w => of_sq w))
  have HF := Lib.hid (sqFar_any u n m ca cb aa ab y t w ha hb hm ia ib hu oa ob)
  clear ha hb ia ib hu oa ob
  unfold uV at *
  generalize (u.map fun b => (⟨b, 0, none⟩ : Addr)) = pu at *
  go_enter Try.func44, Try.ntmps44
  go_wp2_with first
    | ((with_reducible refine (HA.out _).mono ?_); rintro e w1 ⟨rfl, rfl⟩)
    | fail
  refine upon_of (f := 162) (args := #[.agg #[], .pointer pu, .slice aa m ca, .slice ab m cb]) (w' := w) (by kernel_rfl) ?_
  ((with_reducible refine (HF.out).mono ?_); rintro e w2 ⟨rfl, hc2, hu2⟩)
  go_wp2
  go_ret2
  exact ⟨rfl, hc2, hu2⟩

set_option maxHeartbeats 1600000 in
set_option maxRecDepth 20000 in
theorem pSlope1_any (u : Option Nat) (n : Int) (m ca cb : Nat) (aa ab : Option Addr) (y t : List Int) (w : World) (ha : Rd w .i64 aa m y) (hb : Rd w .i64 ab m t) (hm : m ≤ 65536) (ia : A64 y) (ib : A64 t) (hu : Un w u n) (oa : 0 < m → ∀ z, aa = some z → ¬ UC u z.block) (ob : 0 < m → ∀ z, ab = some z → ¬ UC u z.block) :
    Calls Try.prog 45 #[uV u, .int .i64 1, .slice aa m ca, .slice ab m cb] w fun e w' => ∃ v, e = .returned (.tuple #[v, .int .i64 0]) ∧ Ow w' w.heap.size 39 .i64 v (subs y t m) ∧ Chg (UC u) w w' ∧ Un w' u (cntD n y t m) := by
  have HA := Lib.hid (fun w => asked_ok 167 1 aa ab m ca cb w hm (fun w => of_sq w))
  have HF := Lib.hid (sqSlope_any u n m ca cb aa ab y t w ha hb hm ia ib hu oa ob)
  clear ha hb ia ib hu oa ob
  unfold uV at *
  generalize (u.map fun b => (⟨b, 0, none⟩ : Addr)) = pu at *
  go_enter Try.func45, Try.ntmps45
  go_wp2_with first
    | ((with_reducible refine (HA.out _).mono ?_); rintro e w1 ⟨rfl, rfl⟩)
    | fail
  refine upon_of (f := 163) (args := #[.agg #[], .pointer pu, .slice aa m ca, .slice ab m cb]) (w' := w) (by kernel_rfl) ?_
  ((with_reducible refine (HF.out).mono ?_); rintro e w2 ⟨v, rfl, ho2, hc2, hu2⟩)
  go_wp2
  go_ret2
  exact ⟨v, rfl, ho2, hc2, hu2⟩

set_option maxHeartbeats 1600000 in
set_option maxRecDepth 20000 in
theorem pLoss2_any (u : Option Nat) (n : Int) (m ca cb : Nat) (aa ab : Option Addr) (y t : List Int) (w : World) (ha : Rd w .i64 aa m y) (hb : Rd w .i64 ab m t) (hm : m ≤ 65536) (ia : A64 y) (ib : A64 t) (hu : Un w u n) (oa : 0 < m → ∀ z, aa = some z → ¬ UC u z.block) (ob : 0 < m → ∀ z, ab = some z → ¬ UC u z.block) :
    Calls Try.prog 44 #[uV u, .int .i64 2, .slice aa m ca, .slice ab m cb] w fun e w' => e = .returned (.tuple #[.int .i64 (clampI (hgS y t m)), .int .i64 0]) ∧ Chg (UC u) w w' ∧ Un w' u (upC (cntH n y t m) (over (hgS y t m))) := by
  have HA := Lib.hid (fun w => asked_ok 168 2 aa ab m ca cb w hm (fun w => of_hi w))
  have HF := Lib.hid (hfar_any u n m ca cb aa ab y t w ha hb hm ia ib hu oa ob)
  clear ha hb ia ib hu oa ob
  unfold uV at *
  generalize (u.map fun b => (⟨b, 0, none⟩ : Addr)) = pu at *
  go_enter Try.func44, Try.ntmps44
  go_wp2_with first
    | ((with_reducible refine (HA.out _).mono ?_); rintro e w1 ⟨rfl, rfl⟩)
    | fail
  refine upon_of (f := 172) (args := #[.agg #[], .pointer pu, .slice aa m ca, .slice ab m cb]) (w' := w) (by kernel_rfl) ?_
  ((with_reducible refine (HF.out).mono ?_); rintro e w2 ⟨rfl, hc2, hu2⟩)
  go_wp2
  go_ret2
  exact ⟨rfl, hc2, hu2⟩

set_option maxHeartbeats 1600000 in
set_option maxRecDepth 20000 in
theorem pSlope2_any (u : Option Nat) (n : Int) (m ca cb : Nat) (aa ab : Option Addr) (y t : List Int) (w : World) (ha : Rd w .i64 aa m y) (hb : Rd w .i64 ab m t) (hm : m ≤ 65536) (ia : A64 y) (ib : A64 t) (hu : Un w u n) (oa : 0 < m → ∀ z, aa = some z → ¬ UC u z.block) (ob : 0 < m → ∀ z, ab = some z → ¬ UC u z.block) :
    Calls Try.prog 45 #[uV u, .int .i64 2, .slice aa m ca, .slice ab m cb] w fun e w' => ∃ v, e = .returned (.tuple #[v, .int .i64 0]) ∧ Ow w' w.heap.size 39 .i64 v (slS y t m) ∧ Chg (UC u) w w' ∧ Un w' u (cntG (cntH n y t m) y t m) := by
  have HA := Lib.hid (fun w => asked_ok 168 2 aa ab m ca cb w hm (fun w => of_hi w))
  have HF := Lib.hid (hslope_any u n m ca cb aa ab y t w ha hb hm ia ib hu oa ob)
  clear ha hb ia ib hu oa ob
  unfold uV at *
  generalize (u.map fun b => (⟨b, 0, none⟩ : Addr)) = pu at *
  go_enter Try.func45, Try.ntmps45
  go_wp2_with first
    | ((with_reducible refine (HA.out _).mono ?_); rintro e w1 ⟨rfl, rfl⟩)
    | fail
  refine upon_of (f := 173) (args := #[.agg #[], .pointer pu, .slice aa m ca, .slice ab m cb]) (w' := w) (by kernel_rfl) ?_
  ((with_reducible refine (HF.out).mono ?_); rintro e w2 ⟨v, rfl, ho2, hc2, hu2⟩)
  go_wp2
  go_ret2
  exact ⟨v, rfl, ho2, hc2, hu2⟩

set_option maxHeartbeats 800000 in
theorem pLoss_bad (u : Value) (k er : Int) (ay at' : Option Addr) (my mt cy ct : Nat) (w : World) (h0 : er ≠ 0) (hA : ∀ w, Calls Try.prog 73 #[.int .i64 k, .slice ay my cy, .slice at' mt ct] w fun e w' => e = .returned (.tuple #[Value.nilIface, .int .i64 er]) ∧ w = w') :
    Calls Try.prog 44 #[u, .int .i64 k, .slice ay my cy, .slice at' mt ct] w fun e w' => e = .returned (.tuple #[.int .i64 0, .int .i64 er]) ∧ w = w' := by
  have HA := Lib.hid hA
  have hne : (er == 0) = false := by simpa using h0
  have hne2 : (er != 0) = true := by simpa using h0
  clear hA h0
  go_enter Try.func44, Try.ntmps44
  go_wp2_with first
    | ((with_reducible refine (HA.out _).mono ?_); rintro e w1 ⟨rfl, rfl⟩)
    | fail
  go_ret2
  exact ⟨rfl, rfl⟩
set_option maxHeartbeats 800000 in
theorem pSlope_bad (u : Value) (k er : Int) (ay at' : Option Addr) (my mt cy ct : Nat) (w : World) (h0 : er ≠ 0) (hA : ∀ w, Calls Try.prog 73 #[.int .i64 k, .slice ay my cy, .slice at' mt ct] w fun e w' => e = .returned (.tuple #[Value.nilIface, .int .i64 er]) ∧ w = w') :
    Calls Try.prog 45 #[u, .int .i64 k, .slice ay my cy, .slice at' mt ct] w fun e w' => e = .returned (.tuple #[.slice none 0 0, .int .i64 er]) ∧ w = w' := by
  have HA := Lib.hid hA
  have hne : (er == 0) = false := by simpa using h0
  have hne2 : (er != 0) = true := by simpa using h0
  clear hA h0
  go_enter Try.func45, Try.ntmps45
  go_wp2_with first
    | ((with_reducible refine (HA.out _).mono ?_); rintro e w1 ⟨rfl, rfl⟩)
    | fail
  go_ret2
  exact ⟨rfl, rfl⟩
end Go.Proofs.Ytdamenbpgkhiiaa
