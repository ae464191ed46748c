/-
  Layer mlp: batches in which an example doesn't go with the net.
-/
import Derived.Test.YthingodgjeicpaaBatA
namespace Go.Proofs.Ythingodgjeicpaa
open Go.RowKit
set_option linter.unusedVariables false
set_option linter.unusedSimpArgs false

set_option maxHeartbeats 3200000 in
set_option maxRecDepth 100000 in
theorem Batch_odd0 (aS : Option Addr) (ns cS : Nat) (s : List Int) (ap : Option Addr) (np cp : Nat) (bE oE cE K : Nat) (L : List ExD) (m : Nat) (w : World) (hs : Rd w .i64 aS ns s) (hok : okS s) (hm : s.length = m + 1) (hnp : np ≤ 140737488351232) (hL : ExsAt w bE oE L) (hbE : bE < w.heap.size) (hK : L.length = K) (hK0 : 0 < K) (hK1 : K ≤ 64) (hR : ExR w L) (i0 : Nat) (hi0 : i0 < K) (hlow : ∀ j, j < i0 → Fit s m np (exAt L j)) (h0 : shp s np ≠ 0) :
    Calls Try.prog 12 #[.pointer none, .int .i64 1, .slice aS ns cS, .slice ap np cp, .slice (some ⟨bE, oE, none⟩) K cE] w fun e w' => e = .returned (.tuple #[.slice none 0 0, .int .i64 0, .int .i64 40]) ∧ Below w.heap.size w w' := by
  have hns : ns = m + 1 := by rw [← hs.1]; exact hm
  have hm15 : 1 ≤ m ∧ m ≤ 5 := by have := hok.1; have := hok.2.1; omega
  obtain ⟨hm1, hm5⟩ := hm15
  have HCo := Lib.hid (fun w' (hb' : Below w.heap.size w w') => mCount_any aS ns cS s w' (hs.kept hb'))
  have hce : cnt s = ((cntN s : Int), 0) := by unfold cnt; rw [if_pos hok]
  rw [hce] at HCo
  have HSh := Lib.hid (fun w' (hb' : Below w.heap.size w w') => shaped_any aS ns cS s ap np cp w' (hs.kept hb') hnp)
  have Hof := Lib.hid (fun w => of_sq w)
  obtain ⟨bs, os, rfl, hbs, hcs⟩ := hs.at (i := 0) (by omega)
  obtain ⟨bs', os', e', _, hcm'⟩ := hs.at (i := m) (by omega)
  cases e'
  have hs0 := hok.szv (i := 0) (by rw [hm]; omega)
  have hsm := hok.szv (i := m) (by rw [hm]; omega)
  rw [hs0.1, Nat.add_zero] at hcs
  rw [hsm.1] at hcm'
  subst hns
  have HE := Lib.hid (fun w' (hb' : Below w.heap.size w w') => hL.kept hbE hb')
  have HF : Hid (∀ j, j < i0 → (exAt L j).nx = szN s 0 ∧ (exAt L j).nt = szN s m) := Lib.hid (fun j hj => ⟨(hlow j hj).2.1, (hlow j hj).2.2⟩)
  have hxb := (hR i0 (by omega)).1
  have hxb2 : (exAt L i0).nx ≤ 9223372036854775807 := by have := hxb.nc; have := hxb.cm; omega
  have htb := (hR i0 (by omega)).2
  have htb2 : (exAt L i0).nt ≤ 9223372036854775807 := by have := htb.nc; have := htb.cm; omega
  have HK := Lib.hid hK
  have H0 := Lib.hid h0
  have hs00 : ∀ j, j < i0 → False := fun j hj => h0 (by unfold shp; rw [if_pos hok, if_pos (hlow j hj).1])
  have hne : (shp s np == 0) = false := by simpa using h0
  have hne2 : (shp s np != 0) = true := by simpa using h0
  clear hs hok hL hR hlow hs0 hsm hce hK hxb htb h0
  generalize szN s 0 = q0 at *
  generalize szN s m = qm at *
  generalize shp s np = sp at *
  have hK0i : ¬ ((K : Int) < 1) := by omega
  have hK1i : ¬ ((64 : Int) < (K : Int)) := by omega
  go_enter Try.func12, Try.ntmps12
  go_wp2_with first
    | ((with_reducible refine (HCo.out _ (by (repeat first | assumption | exact Below.refl _ _ | refine Below.drew ?_ | refine Below.drewN ?_ _ | refine Below.alloc ?_ (by (first | omega | (simp; done) | (simp; omega))) _ | refine Below.setCell ?_ (by (first | omega | (simp; done) | (simp; omega))) _ | refine Below.trans ?_ (Below.mono (by assumption) (by (first | omega | (simp; done) | (simp; omega))))))).mono ?_); rintro e w1 ⟨rfl, rfl⟩)
    | ((with_reducible refine (Hof.out _).mono ?_); rintro e w1 ⟨rfl, rfl⟩)
    | fail
  have hwm : IntKind.i64.wrap (m : Int) = (m : Int) := by rw [IntKind.wrap_i64]; omega
  have hmlt : m < m + 1 := by omega
  have hm0i : (0 : Int) ≤ (m : Int) := by omega
  have hm1i : (m : Int) < (m : Int) + 1 := by omega
  have hwm2 : IntKind.i64.wrap ((m : Int) + 1 - 1) = (m : Int) := by rw [IntKind.wrap_i64]; omega
  go_loopw [53] (fun j wr => ∃ i : Nat, i ≤ i0 ∧ j = .int .i64 i ∧ Hid (Below w.heap.size w wr)) (fun j _ => i0 - (intOf j).toNat)
  case atStart => exact ⟨0, Nat.zero_le _, rfl, Lib.hid (by (repeat first | assumption | exact Below.refl _ _ | refine Below.drew ?_ | refine Below.drewN ?_ _ | refine Below.alloc ?_ (by (first | omega | (simp; done) | (simp; omega))) _ | refine Below.setCell ?_ (by (first | omega | (simp; done) | (simp; omega))) _ | refine Below.trans ?_ (Below.mono (by assumption) (by (first | omega | (simp; done) | (simp; omega))))))⟩
  case round =>
    obtain ⟨i, hi, rfl, hbb⟩ := hrel
    have hzr := hbb.out.size
    have hi0 : (0 : Int) ≤ (i : Int) := by omega
    have hiK : (i : Int) < (K : Int) := by omega
    have hiKn : i < K := by omega
    have hbsr : bs < wr.heap.size := by omega
    obtain ⟨c0, c1⟩ := HE.out _ hbb.out i (by rw [HK.out]; omega)
    have d0 : wr.cell? ⟨bs, os, none⟩ = some (.int .i64 (q0 : Int)) := (hbb.out.cell (p := ⟨bs, os, none⟩) hbs).trans hcs
    have dm : wr.cell? ⟨bs, os + m, none⟩ = some (.int .i64 (qm : Int)) := (hbb.out.cell (p := ⟨bs, os + m, none⟩) hbs).trans hcm'
    obtain rfl : i = i0 := by
      by_cases h : i < i0
      · exact (hs00 i h).elim
      · omega
    clear hs00
    generalize (exAt L i).nx = nx at *
    generalize (exAt L i).nt = nt at *
    generalize (exAt L i).ax = ax at *
    generalize (exAt L i).cx = cx at *
    generalize (exAt L i).aT = aT at *
    generalize (exAt L i).ct = ct at *
    go_wp2
    refine wp_region_held_drew (S := (fun w' => w'.cell? ⟨wr.heap.size, 0, none⟩ = some (.slice ax nx cx) ∧ w'.cell? ⟨wr.heap.size, 1, none⟩ = some (.slice aT nt ct) ∧ w'.cell? ⟨bs, os, none⟩ = some (.int .i64 (q0 : Int)) ∧ w'.cell? ⟨bs, os + m, none⟩ = some (.int .i64 (qm : Int)))) (by kernel_rfl) ?_ (fun hHeld => ?_)
    · exact ⟨by go_simp, by go_simp, by go_simp, by go_simp⟩
    refine tkW (v := ?_) 0 rfl (by kernel_rfl) (by kernel_rfl) (by kernel_rfl) (fun _ _ _ h => h) (by rfl) (by assumption) ?_ ?_
    rotate_left
    · intro w' hSw; obtain ⟨s0, s1, s2, s3⟩ := hSw; go_simp; (try with_reducible rfl)
    (try simp only [Act.put, List.setIfInBounds_toArray, List.set_cons_zero, List.set_cons_succ])
    refine tkW (v := ?_) 1 rfl (by kernel_rfl) (by kernel_rfl) (by kernel_rfl) (fun _ _ _ h => h) (by rfl) (by assumption) ?_ ?_
    rotate_left
    · intro w' hSw; obtain ⟨s0, s1, s2, s3⟩ := hSw; go_simp; (try with_reducible rfl)
    (try simp only [Act.put, List.setIfInBounds_toArray, List.set_cons_zero, List.set_cons_succ])
    refine tkC 2 rfl (by kernel_rfl) (by rfl) (fun K hK => ?_)
    go_simp
    (go_at_call 22; refine (HSh.out _ (by (repeat first | assumption | exact Below.refl _ _ | refine Below.drew ?_ | refine Below.drewN ?_ _ | refine Below.alloc ?_ (by (first | omega | (simp; done) | (simp; omega))) _ | refine Below.setCell ?_ (by (first | omega | (simp; done) | (simp; omega))) _ | refine Below.trans ?_ (Below.mono (by assumption) (by (first | omega | (simp; done) | (simp; omega))))))).mono ?_; rintro e w1 ⟨rfl, rfl⟩)
    (try dsimp only)
    refine hK.out _ _ ?_ (fun hHeld2 => ?_)
    · exact ⟨by go_simp, by go_simp, by go_simp, by go_simp⟩
    clear hK K
    (try simp only [Act.put, List.setIfInBounds_toArray, List.set_cons_zero, List.set_cons_succ])
    refine tkW (v := ?_) 3 rfl (by kernel_rfl) (by kernel_rfl) (by kernel_rfl) (fun _ _ _ h => h) (by rfl) (by assumption) ?_ ?_
    rotate_left
    · intro w' hSw; obtain ⟨s0, s1, s2, s3⟩ := hSw; go_simp; (try with_reducible rfl)
    (try simp only [Act.put, List.setIfInBounds_toArray, List.set_cons_zero, List.set_cons_succ])
    refine tkW (v := ?_) 4 rfl (by kernel_rfl) (by kernel_rfl) (by kernel_rfl) (fun _ _ _ h => h) (by rfl) (by assumption) ?_ ?_
    rotate_left
    · intro w' hSw; obtain ⟨s0, s1, s2, s3⟩ := hSw; go_simp; (try with_reducible rfl)
    (try simp only [Act.put, List.setIfInBounds_toArray, List.set_cons_zero, List.set_cons_succ])
    refine tkU 5 rfl (by kernel_rfl) (by kernel_rfl) (by kernel_rfl) (fun _ _ _ h => h) (by rfl) (by assumption) ?_
    (try simp only [Act.put, List.setIfInBounds_toArray, List.set_cons_zero, List.set_cons_succ])
    refine tkU 6 rfl (by kernel_rfl) (by kernel_rfl) (by kernel_rfl) (fun _ _ _ h => h) (by rfl) (by assumption) ?_
    (try simp only [Act.put, List.setIfInBounds_toArray, List.set_cons_zero, List.set_cons_succ])
    refine tkU 7 rfl (by kernel_rfl) (by kernel_rfl) (by kernel_rfl) (fun _ _ _ h => h) (by rfl) (by assumption) ?_
    (try simp only [Act.put, List.setIfInBounds_toArray, List.set_cons_zero, List.set_cons_succ])
    refine tkU 8 rfl (by kernel_rfl) (by kernel_rfl) (by kernel_rfl) (fun _ _ _ h => h) (by rfl) (by assumption) ?_
    (try simp only [Act.put, List.setIfInBounds_toArray, List.set_cons_zero, List.set_cons_succ])
    refine tkU 9 rfl (by kernel_rfl) (by kernel_rfl) (by kernel_rfl) (fun _ _ _ h => h) (by rfl) (by assumption) ?_
    (try simp only [Act.put, List.setIfInBounds_toArray, List.set_cons_zero, List.set_cons_succ])
    refine tkU 10 rfl (by kernel_rfl) (by kernel_rfl) (by kernel_rfl) (fun _ _ _ h => h) (by rfl) (by assumption) ?_
    (try simp only [Act.put, List.setIfInBounds_toArray, List.set_cons_zero, List.set_cons_succ])
    refine tkU 11 rfl (by kernel_rfl) (by kernel_rfl) (by kernel_rfl) (fun _ _ _ h => h) (by rfl) (by assumption) ?_
    (try simp only [Act.put, List.setIfInBounds_toArray, List.set_cons_zero, List.set_cons_succ])
    refine tkW (v := ?_) 12 rfl (by kernel_rfl) (by kernel_rfl) (by kernel_rfl) (fun _ _ _ h => h) (by rfl) (by assumption) ?_ ?_
    rotate_left
    · intro w' hSw; obtain ⟨s0, s1, s2, s3⟩ := hSw; go_simp; (try with_reducible rfl)
    (try simp only [Act.put, List.setIfInBounds_toArray, List.set_cons_zero, List.set_cons_succ])
    refine tkW (v := ?_) 13 rfl (by kernel_rfl) (by kernel_rfl) (by kernel_rfl) (fun _ _ _ h => h) (by rfl) (by assumption) ?_ ?_
    rotate_left
    · intro w' hSw; obtain ⟨s0, s1, s2, s3⟩ := hSw; go_simp; (try with_reducible rfl)
    (try simp only [Act.put, List.setIfInBounds_toArray, List.set_cons_zero, List.set_cons_succ])
    refine tkU 14 rfl (by kernel_rfl) (by kernel_rfl) (by kernel_rfl) (fun _ _ _ h => h) (by rfl) (by assumption) ?_
    (try simp only [Act.put, List.setIfInBounds_toArray, List.set_cons_zero, List.set_cons_succ])
    refine tkU 15 rfl (by kernel_rfl) (by kernel_rfl) (by kernel_rfl) (fun _ _ _ h => h) (by rfl) (by assumption) ?_
    (try simp only [Act.put, List.setIfInBounds_toArray, List.set_cons_zero, List.set_cons_succ])
    refine tkU 16 rfl (by kernel_rfl) (by kernel_rfl) (by kernel_rfl) (fun _ _ _ h => h) (by rfl) (by assumption) ?_
    (try simp only [Act.put, List.setIfInBounds_toArray, List.set_cons_zero, List.set_cons_succ])
    refine tkU 17 rfl (by kernel_rfl) (by kernel_rfl) (by kernel_rfl) (fun _ _ _ h => h) (by rfl) (by assumption) ?_
    (try simp only [Act.put, List.setIfInBounds_toArray, List.set_cons_zero, List.set_cons_succ])
    refine tkU 18 rfl (by kernel_rfl) (by kernel_rfl) (by kernel_rfl) (fun _ _ _ h => h) (by rfl) (by assumption) ?_
    (try simp only [Act.put, List.setIfInBounds_toArray, List.set_cons_zero, List.set_cons_succ])
    refine tkU 19 rfl (by kernel_rfl) (by kernel_rfl) (by kernel_rfl) (fun _ _ _ h => h) (by rfl) (by assumption) ?_
    (try simp only [Act.put, List.setIfInBounds_toArray, List.set_cons_zero, List.set_cons_succ])
    refine tkU 20 rfl (by kernel_rfl) (by kernel_rfl) (by kernel_rfl) (fun _ _ _ h => h) (by rfl) (by assumption) ?_
    (try simp only [Act.put, List.setIfInBounds_toArray, List.set_cons_zero, List.set_cons_succ])
    refine tkU 21 rfl (by kernel_rfl) (by kernel_rfl) (by kernel_rfl) (fun _ _ _ h => h) (by rfl) (by assumption) ?_
    (try simp only [Act.put, List.setIfInBounds_toArray, List.set_cons_zero, List.set_cons_succ])
    refine tkU 22 rfl (by kernel_rfl) (by kernel_rfl) (by kernel_rfl) (fun _ _ _ h => h) (by rfl) (by assumption) ?_
    (try simp only [Act.put, List.setIfInBounds_toArray, List.set_cons_zero, List.set_cons_succ])
    refine tkU 23 rfl (by kernel_rfl) (by kernel_rfl) (by kernel_rfl) (fun _ _ _ h => h) (by rfl) (by assumption) ?_
    (try simp only [Act.put, List.setIfInBounds_toArray, List.set_cons_zero, List.set_cons_succ])
    refine tkW (v := ?_) 24 rfl (by kernel_rfl) (by kernel_rfl) (by kernel_rfl) (fun _ _ _ h => h) (by rfl) (by assumption) ?_ ?_
    rotate_left
    · intro w' hSw; obtain ⟨s0, s1, s2, s3⟩ := hSw; go_simp; (try with_reducible rfl)
    (try simp only [Act.put, List.setIfInBounds_toArray, List.set_cons_zero, List.set_cons_succ])
    refine wpAnyH_done (by kernel_rfl) ?_ _
    go_wp2
    go_ret3
    exact ⟨rfl, by (repeat first | assumption | exact Below.refl _ _ | refine Below.drew ?_ | refine Below.drewN ?_ _ | refine Below.alloc ?_ (by (first | omega | (simp; done) | (simp; omega))) _ | refine Below.setCell ?_ (by (first | omega | (simp; done) | (simp; omega))) _ | refine Below.trans ?_ (Below.mono (by assumption) (by (first | omega | (simp; done) | (simp; omega)))))⟩

set_option maxHeartbeats 3200000 in
set_option maxRecDepth 100000 in
theorem Batch_odd1 (aS : Option Addr) (ns cS : Nat) (s : List Int) (ap : Option Addr) (np cp : Nat) (bE oE cE K : Nat) (L : List ExD) (m : Nat) (w : World) (hs : Rd w .i64 aS ns s) (hok : okS s) (hm : s.length = m + 1) (hnp : np ≤ 140737488351232) (hL : ExsAt w bE oE L) (hbE : bE < w.heap.size) (hK : L.length = K) (hK0 : 0 < K) (hK1 : K ≤ 64) (hR : ExR w L) (i0 : Nat) (hi0 : i0 < K) (hlow : ∀ j, j < i0 → Fit s m np (exAt L j)) (h0 : shp s np = 0) (h1 : (exAt L i0).nx ≠ szN s 0) :
    Calls Try.prog 12 #[.pointer none, .int .i64 1, .slice aS ns cS, .slice ap np cp, .slice (some ⟨bE, oE, none⟩) K cE] w fun e w' => e = .returned (.tuple #[.slice none 0 0, .int .i64 0, .int .i64 40]) ∧ Below w.heap.size w w' := by
  have hns : ns = m + 1 := by rw [← hs.1]; exact hm
  have hm15 : 1 ≤ m ∧ m ≤ 5 := by have := hok.1; have := hok.2.1; omega
  obtain ⟨hm1, hm5⟩ := hm15
  have HCo := Lib.hid (fun w' (hb' : Below w.heap.size w w') => mCount_any aS ns cS s w' (hs.kept hb'))
  have hce : cnt s = ((cntN s : Int), 0) := by unfold cnt; rw [if_pos hok]
  rw [hce] at HCo
  have HSh := Lib.hid (fun w' (hb' : Below w.heap.size w w') => shaped_any aS ns cS s ap np cp w' (hs.kept hb') hnp)
  have Hof := Lib.hid (fun w => of_sq w)
  obtain ⟨bs, os, rfl, hbs, hcs⟩ := hs.at (i := 0) (by omega)
  obtain ⟨bs', os', e', _, hcm'⟩ := hs.at (i := m) (by omega)
  cases e'
  have hs0 := hok.szv (i := 0) (by rw [hm]; omega)
  have hsm := hok.szv (i := m) (by rw [hm]; omega)
  rw [hs0.1, Nat.add_zero] at hcs
  rw [hsm.1] at hcm'
  subst hns
  have HE := Lib.hid (fun w' (hb' : Below w.heap.size w w') => hL.kept hbE hb')
  have HF : Hid (∀ j, j < i0 → (exAt L j).nx = szN s 0 ∧ (exAt L j).nt = szN s m) := Lib.hid (fun j hj => ⟨(hlow j hj).2.1, (hlow j hj).2.2⟩)
  have hxb := (hR i0 (by omega)).1
  have hxb2 : (exAt L i0).nx ≤ 9223372036854775807 := by have := hxb.nc; have := hxb.cm; omega
  have htb := (hR i0 (by omega)).2
  have htb2 : (exAt L i0).nt ≤ 9223372036854775807 := by have := htb.nc; have := htb.cm; omega
  have HK := Lib.hid hK
  have H0 := Lib.hid h0
  rw [h0] at HSh
  have hne : (((exAt L i0).nx : Int) != (szN s 0 : Int)) = true := by simpa using (by omega : ¬ ((exAt L i0).nx : Int) = szN s 0)
  have hne2 : (((exAt L i0).nx : Int) == (szN s 0 : Int)) = false := by simpa using (by omega : ¬ ((exAt L i0).nx : Int) = szN s 0)
  clear hs hok hL hR hlow hs0 hsm hce hK hxb htb h0 h1
  generalize szN s 0 = q0 at *
  generalize szN s m = qm at *
  have hK0i : ¬ ((K : Int) < 1) := by omega
  have hK1i : ¬ ((64 : Int) < (K : Int)) := by omega
  go_enter Try.func12, Try.ntmps12
  go_wp2_with first
    | ((with_reducible refine (HCo.out _ (by (repeat first | assumption | exact Below.refl _ _ | refine Below.drew ?_ | refine Below.drewN ?_ _ | refine Below.alloc ?_ (by (first | omega | (simp; done) | (simp; omega))) _ | refine Below.setCell ?_ (by (first | omega | (simp; done) | (simp; omega))) _ | refine Below.trans ?_ (Below.mono (by assumption) (by (first | omega | (simp; done) | (simp; omega))))))).mono ?_); rintro e w1 ⟨rfl, rfl⟩)
    | ((with_reducible refine (Hof.out _).mono ?_); rintro e w1 ⟨rfl, rfl⟩)
    | fail
  have hwm : IntKind.i64.wrap (m : Int) = (m : Int) := by rw [IntKind.wrap_i64]; omega
  have hmlt : m < m + 1 := by omega
  have hm0i : (0 : Int) ≤ (m : Int) := by omega
  have hm1i : (m : Int) < (m : Int) + 1 := by omega
  have hwm2 : IntKind.i64.wrap ((m : Int) + 1 - 1) = (m : Int) := by rw [IntKind.wrap_i64]; omega
  go_loopw [53] (fun j wr => ∃ i : Nat, i ≤ i0 ∧ j = .int .i64 i ∧ Hid (Below w.heap.size w wr)) (fun j _ => i0 - (intOf j).toNat)
  case atStart => exact ⟨0, Nat.zero_le _, rfl, Lib.hid (by (repeat first | assumption | exact Below.refl _ _ | refine Below.drew ?_ | refine Below.drewN ?_ _ | refine Below.alloc ?_ (by (first | omega | (simp; done) | (simp; omega))) _ | refine Below.setCell ?_ (by (first | omega | (simp; done) | (simp; omega))) _ | refine Below.trans ?_ (Below.mono (by assumption) (by (first | omega | (simp; done) | (simp; omega))))))⟩
  case round =>
    obtain ⟨i, hi, rfl, hbb⟩ := hrel
    have hzr := hbb.out.size
    have hi0 : (0 : Int) ≤ (i : Int) := by omega
    have hiK : (i : Int) < (K : Int) := by omega
    have hiKn : i < K := by omega
    have hbsr : bs < wr.heap.size := by omega
    obtain ⟨c0, c1⟩ := HE.out _ hbb.out i (by rw [HK.out]; omega)
    have d0 : wr.cell? ⟨bs, os, none⟩ = some (.int .i64 (q0 : Int)) := (hbb.out.cell (p := ⟨bs, os, none⟩) hbs).trans hcs
    have dm : wr.cell? ⟨bs, os + m, none⟩ = some (.int .i64 (qm : Int)) := (hbb.out.cell (p := ⟨bs, os + m, none⟩) hbs).trans hcm'
    by_cases hlt : i < i0
    · obtain ⟨fx, ft⟩ := HF.out i hlt
      rw [fx] at c0
      rw [ft] at c1
      clear fx ft
      generalize (exAt L i).ax = ax at *
      generalize (exAt L i).cx = cx at *
      generalize (exAt L i).aT = aT at *
      generalize (exAt L i).ct = ct at *
      go_wp2
      go_region_held3 (fun w' => w'.cell? ⟨wr.heap.size, 0, none⟩ = some (.slice ax q0 cx) ∧ w'.cell? ⟨wr.heap.size, 1, none⟩ = some (.slice aT qm ct) ∧ w'.cell? ⟨bs, os, none⟩ = some (.int .i64 (q0 : Int)) ∧ w'.cell? ⟨bs, os + m, none⟩ = some (.int .i64 (qm : Int)))
        (first | assumption | go_keep)
        (first
          | (go_at_call 22; refine (HSh.out _ (by (repeat first | assumption | exact Below.refl _ _ | refine Below.drew ?_ | refine Below.drewN ?_ _ | refine Below.alloc ?_ (by (first | omega | (simp; done) | (simp; omega))) _ | refine Below.setCell ?_ (by (first | omega | (simp; done) | (simp; omega))) _ | refine Below.trans ?_ (Below.mono (by assumption) (by (first | omega | (simp; done) | (simp; omega))))))).mono ?_; rintro e w1 ⟨rfl, rfl⟩))
      go_wp2
      go_roundw
      case rel => exact ⟨i + 1, by omega, by go_num, Lib.hid (by (repeat first | assumption | exact Below.refl _ _ | refine Below.drew ?_ | refine Below.drewN ?_ _ | refine Below.alloc ?_ (by (first | omega | (simp; done) | (simp; omega))) _ | refine Below.setCell ?_ (by (first | omega | (simp; done) | (simp; omega))) _ | refine Below.trans ?_ (Below.mono (by assumption) (by (first | omega | (simp; done) | (simp; omega))))))⟩
      case measure => simp [intOf]; omega
    · obtain rfl : i = i0 := by omega
      generalize (exAt L i).nx = nx at *
      generalize (exAt L i).nt = nt at *
      generalize (exAt L i).ax = ax at *
      generalize (exAt L i).cx = cx at *
      generalize (exAt L i).aT = aT at *
      generalize (exAt L i).ct = ct at *
      go_wp2
      refine wp_region_held_drew (S := (fun w' => w'.cell? ⟨wr.heap.size, 0, none⟩ = some (.slice ax nx cx) ∧ w'.cell? ⟨wr.heap.size, 1, none⟩ = some (.slice aT nt ct) ∧ w'.cell? ⟨bs, os, none⟩ = some (.int .i64 (q0 : Int)) ∧ w'.cell? ⟨bs, os + m, none⟩ = some (.int .i64 (qm : Int)))) (by kernel_rfl) ?_ (fun hHeld => ?_)
      · exact ⟨by go_simp, by go_simp, by go_simp, by go_simp⟩
      refine tkW (v := ?_) 0 rfl (by kernel_rfl) (by kernel_rfl) (by kernel_rfl) (fun _ _ _ h => h) (by rfl) (by assumption) ?_ ?_
      rotate_left
      · intro w' hSw; obtain ⟨s0, s1, s2, s3⟩ := hSw; go_simp; (try with_reducible rfl)
      (try simp only [Act.put, List.setIfInBounds_toArray, List.set_cons_zero, List.set_cons_succ])
      refine tkW (v := ?_) 1 rfl (by kernel_rfl) (by kernel_rfl) (by kernel_rfl) (fun _ _ _ h => h) (by rfl) (by assumption) ?_ ?_
      rotate_left
      · intro w' hSw; obtain ⟨s0, s1, s2, s3⟩ := hSw; go_simp; (try with_reducible rfl)
      (try simp only [Act.put, List.setIfInBounds_toArray, List.set_cons_zero, List.set_cons_succ])
      refine tkC 2 rfl (by kernel_rfl) (by rfl) (fun K hK => ?_)
      go_simp
      (go_at_call 22; refine (HSh.out _ (by (repeat first | assumption | exact Below.refl _ _ | refine Below.drew ?_ | refine Below.drewN ?_ _ | refine Below.alloc ?_ (by (first | omega | (simp; done) | (simp; omega))) _ | refine Below.setCell ?_ (by (first | omega | (simp; done) | (simp; omega))) _ | refine Below.trans ?_ (Below.mono (by assumption) (by (first | omega | (simp; done) | (simp; omega))))))).mono ?_; rintro e w1 ⟨rfl, rfl⟩)
      (try dsimp only)
      refine hK.out _ _ ?_ (fun hHeld2 => ?_)
      · exact ⟨by go_simp, by go_simp, by go_simp, by go_simp⟩
      clear hK K
      (try simp only [Act.put, List.setIfInBounds_toArray, List.set_cons_zero, List.set_cons_succ])
      refine tkW (v := ?_) 3 rfl (by kernel_rfl) (by kernel_rfl) (by kernel_rfl) (fun _ _ _ h => h) (by rfl) (by assumption) ?_ ?_
      rotate_left
      · intro w' hSw; obtain ⟨s0, s1, s2, s3⟩ := hSw; go_simp; (try with_reducible rfl)
      (try simp only [Act.put, List.setIfInBounds_toArray, List.set_cons_zero, List.set_cons_succ])
      refine tkW (v := ?_) 4 rfl (by kernel_rfl) (by kernel_rfl) (by kernel_rfl) (fun _ _ _ h => h) (by rfl) (by assumption) ?_ ?_
      rotate_left
      · intro w' hSw; obtain ⟨s0, s1, s2, s3⟩ := hSw; go_simp; (try with_reducible rfl)
      (try simp only [Act.put, List.setIfInBounds_toArray, List.set_cons_zero, List.set_cons_succ])
      refine tkW (v := ?_) 5 rfl (by kernel_rfl) (by kernel_rfl) (by kernel_rfl) (fun _ _ _ h => h) (by rfl) (by assumption) ?_ ?_
      rotate_left
      · intro w' hSw; obtain ⟨s0, s1, s2, s3⟩ := hSw; go_simp; (try with_reducible rfl)
      (try simp only [Act.put, List.setIfInBounds_toArray, List.set_cons_zero, List.set_cons_succ])
      refine tkW (v := ?_) 6 rfl (by kernel_rfl) (by kernel_rfl) (by kernel_rfl) (fun _ _ _ h => h) (by rfl) (by assumption) ?_ ?_
      rotate_left
      · intro w' hSw; obtain ⟨s0, s1, s2, s3⟩ := hSw; go_simp; (try with_reducible rfl)
      (try simp only [Act.put, List.setIfInBounds_toArray, List.set_cons_zero, List.set_cons_succ])
      refine tkW (v := ?_) 7 rfl (by kernel_rfl) (by kernel_rfl) (by kernel_rfl) (fun _ _ _ h => h) (by rfl) (by assumption) ?_ ?_
      rotate_left
      · intro w' hSw; obtain ⟨s0, s1, s2, s3⟩ := hSw; go_simp; (try with_reducible rfl)
      (try simp only [Act.put, List.setIfInBounds_toArray, List.set_cons_zero, List.set_cons_succ])
      refine tkW (v := ?_) 8 rfl (by kernel_rfl) (by kernel_rfl) (by kernel_rfl) (fun _ _ _ h => h) (by rfl) (by assumption) ?_ ?_
      rotate_left
      · intro w' hSw; obtain ⟨s0, s1, s2, s3⟩ := hSw; go_simp; (try with_reducible rfl)
      (try simp only [Act.put, List.setIfInBounds_toArray, List.set_cons_zero, List.set_cons_succ])
      refine tkW (v := ?_) 9 rfl (by kernel_rfl) (by kernel_rfl) (by kernel_rfl) (fun _ _ _ h => h) (by rfl) (by assumption) ?_ ?_
      rotate_left
      · intro w' hSw; obtain ⟨s0, s1, s2, s3⟩ := hSw; go_simp; (try with_reducible rfl)
      (try simp only [Act.put, List.setIfInBounds_toArray, List.set_cons_zero, List.set_cons_succ])
      refine tkW (v := ?_) 10 rfl (by kernel_rfl) (by kernel_rfl) (by kernel_rfl) (fun _ _ _ h => h) (by rfl) (by assumption) ?_ ?_
      rotate_left
      · intro w' hSw; obtain ⟨s0, s1, s2, s3⟩ := hSw; go_simp; (try with_reducible rfl)
      (try simp only [Act.put, List.setIfInBounds_toArray, List.set_cons_zero, List.set_cons_succ])
      refine tkW (v := ?_) 11 rfl (by kernel_rfl) (by kernel_rfl) (by kernel_rfl) (fun _ _ _ h => h) (by rfl) (by assumption) ?_ ?_
      rotate_left
      · intro w' hSw; obtain ⟨s0, s1, s2, s3⟩ := hSw; go_simp; (try with_reducible rfl)
      (try simp only [Act.put, List.setIfInBounds_toArray, List.set_cons_zero, List.set_cons_succ])
      refine tkW (v := ?_) 12 rfl (by kernel_rfl) (by kernel_rfl) (by kernel_rfl) (fun _ _ _ h => h) (by rfl) (by assumption) ?_ ?_
      rotate_left
      · intro w' hSw; obtain ⟨s0, s1, s2, s3⟩ := hSw; go_simp; (try with_reducible rfl)
      (try simp only [Act.put, List.setIfInBounds_toArray, List.set_cons_zero, List.set_cons_succ])
      refine tkW (v := ?_) 13 rfl (by kernel_rfl) (by kernel_rfl) (by kernel_rfl) (fun _ _ _ h => h) (by rfl) (by assumption) ?_ ?_
      rotate_left
      · intro w' hSw; obtain ⟨s0, s1, s2, s3⟩ := hSw; go_simp; (try with_reducible rfl)
      (try simp only [Act.put, List.setIfInBounds_toArray, List.set_cons_zero, List.set_cons_succ])
      refine tkU 14 rfl (by kernel_rfl) (by kernel_rfl) (by kernel_rfl) (fun _ _ _ h => h) (by rfl) (by assumption) ?_
      (try simp only [Act.put, List.setIfInBounds_toArray, List.set_cons_zero, List.set_cons_succ])
      refine tkU 15 rfl (by kernel_rfl) (by kernel_rfl) (by kernel_rfl) (fun _ _ _ h => h) (by rfl) (by assumption) ?_
      (try simp only [Act.put, List.setIfInBounds_toArray, List.set_cons_zero, List.set_cons_succ])
      refine tkU 16 rfl (by kernel_rfl) (by kernel_rfl) (by kernel_rfl) (fun _ _ _ h => h) (by rfl) (by assumption) ?_
      (try simp only [Act.put, List.setIfInBounds_toArray, List.set_cons_zero, List.set_cons_succ])
      refine tkU 17 rfl (by kernel_rfl) (by kernel_rfl) (by kernel_rfl) (fun _ _ _ h => h) (by rfl) (by assumption) ?_
      (try simp only [Act.put, List.setIfInBounds_toArray, List.set_cons_zero, List.set_cons_succ])
      refine tkU 18 rfl (by kernel_rfl) (by kernel_rfl) (by kernel_rfl) (fun _ _ _ h => h) (by rfl) (by assumption) ?_
      (try simp only [Act.put, List.setIfInBounds_toArray, List.set_cons_zero, List.set_cons_succ])
      refine tkU 19 rfl (by kernel_rfl) (by kernel_rfl) (by kernel_rfl) (fun _ _ _ h => h) (by rfl) (by assumption) ?_
      (try simp only [Act.put, List.setIfInBounds_toArray, List.set_cons_zero, List.set_cons_succ])
      refine tkU 20 rfl (by kernel_rfl) (by kernel_rfl) (by kernel_rfl) (fun _ _ _ h => h) (by rfl) (by assumption) ?_
      (try simp only [Act.put, List.setIfInBounds_toArray, List.set_cons_zero, List.set_cons_succ])
      refine tkU 21 rfl (by kernel_rfl) (by kernel_rfl) (by kernel_rfl) (fun _ _ _ h => h) (by rfl) (by assumption) ?_
      (try simp only [Act.put, List.setIfInBounds_toArray, List.set_cons_zero, List.set_cons_succ])
      refine tkU 22 rfl (by kernel_rfl) (by kernel_rfl) (by kernel_rfl) (fun _ _ _ h => h) (by rfl) (by assumption) ?_
      (try simp only [Act.put, List.setIfInBounds_toArray, List.set_cons_zero, List.set_cons_succ])
      refine tkU 23 rfl (by kernel_rfl) (by kernel_rfl) (by kernel_rfl) (fun _ _ _ h => h) (by rfl) (by assumption) ?_
      (try simp only [Act.put, List.setIfInBounds_toArray, List.set_cons_zero, List.set_cons_succ])
      refine tkW (v := ?_) 24 rfl (by kernel_rfl) (by kernel_rfl) (by kernel_rfl) (fun _ _ _ h => h) (by rfl) (by assumption) ?_ ?_
      rotate_left
      · intro w' hSw; obtain ⟨s0, s1, s2, s3⟩ := hSw; go_simp; (try with_reducible rfl)
      (try simp only [Act.put, List.setIfInBounds_toArray, List.set_cons_zero, List.set_cons_succ])
      refine wpAnyH_done (by kernel_rfl) ?_ _
      go_wp2
      go_ret3
      exact ⟨rfl, by (repeat first | assumption | exact Below.refl _ _ | refine Below.drew ?_ | refine Below.drewN ?_ _ | refine Below.alloc ?_ (by (first | omega | (simp; done) | (simp; omega))) _ | refine Below.setCell ?_ (by (first | omega | (simp; done) | (simp; omega))) _ | refine Below.trans ?_ (Below.mono (by assumption) (by (first | omega | (simp; done) | (simp; omega)))))⟩

set_option maxHeartbeats 3200000 in
set_option maxRecDepth 100000 in
theorem Batch_odd2 (aS : Option Addr) (ns cS : Nat) (s : List Int) (ap : Option Addr) (np cp : Nat) (bE oE cE K : Nat) (L : List ExD) (m : Nat) (w : World) (hs : Rd w .i64 aS ns s) (hok : okS s) (hm : s.length = m + 1) (hnp : np ≤ 140737488351232) (hL : ExsAt w bE oE L) (hbE : bE < w.heap.size) (hK : L.length = K) (hK0 : 0 < K) (hK1 : K ≤ 64) (hR : ExR w L) (i0 : Nat) (hi0 : i0 < K) (hlow : ∀ j, j < i0 → Fit s m np (exAt L j)) (h0 : shp s np = 0) (h1 : (exAt L i0).nx = szN s 0) (h2 : (exAt L i0).nt ≠ szN s m) :
    Calls Try.prog 12 #[.pointer none, .int .i64 1, .slice aS ns cS, .slice ap np cp, .slice (some ⟨bE, oE, none⟩) K cE] w fun e w' => e = .returned (.tuple #[.slice none 0 0, .int .i64 0, .int .i64 40]) ∧ Below w.heap.size w w' := by
  have hns : ns = m + 1 := by rw [← hs.1]; exact hm
  have hm15 : 1 ≤ m ∧ m ≤ 5 := by have := hok.1; have := hok.2.1; omega
  obtain ⟨hm1, hm5⟩ := hm15
  have HCo := Lib.hid (fun w' (hb' : Below w.heap.size w w') => mCount_any aS ns cS s w' (hs.kept hb'))
  have hce : cnt s = ((cntN s : Int), 0) := by unfold cnt; rw [if_pos hok]
  rw [hce] at HCo
  have HSh := Lib.hid (fun w' (hb' : Below w.heap.size w w') => shaped_any aS ns cS s ap np cp w' (hs.kept hb') hnp)
  have Hof := Lib.hid (fun w => of_sq w)
  obtain ⟨bs, os, rfl, hbs, hcs⟩ := hs.at (i := 0) (by omega)
  obtain ⟨bs', os', e', _, hcm'⟩ := hs.at (i := m) (by omega)
  cases e'
  have hs0 := hok.szv (i := 0) (by rw [hm]; omega)
  have hsm := hok.szv (i := m) (by rw [hm]; omega)
  rw [hs0.1, Nat.add_zero] at hcs
  rw [hsm.1] at hcm'
  subst hns
  have HE := Lib.hid (fun w' (hb' : Below w.heap.size w w') => hL.kept hbE hb')
  have HF : Hid (∀ j, j < i0 → (exAt L j).nx = szN s 0 ∧ (exAt L j).nt = szN s m) := Lib.hid (fun j hj => ⟨(hlow j hj).2.1, (hlow j hj).2.2⟩)
  have hxb := (hR i0 (by omega)).1
  have hxb2 : (exAt L i0).nx ≤ 9223372036854775807 := by have := hxb.nc; have := hxb.cm; omega
  have htb := (hR i0 (by omega)).2
  have htb2 : (exAt L i0).nt ≤ 9223372036854775807 := by have := htb.nc; have := htb.cm; omega
  have HK := Lib.hid hK
  have H0 := Lib.hid h0
  rw [h0] at HSh
  have hne : (((exAt L i0).nt : Int) != (szN s m : Int)) = true := by simpa using (by omega : ¬ ((exAt L i0).nt : Int) = szN s m)
  have hne2 : (((exAt L i0).nt : Int) == (szN s m : Int)) = false := by simpa using (by omega : ¬ ((exAt L i0).nt : Int) = szN s m)
  have H1 := Lib.hid h1
  clear h1
  clear hs hok hL hR hlow hs0 hsm hce hK hxb htb h0 h2
  generalize szN s 0 = q0 at *
  generalize szN s m = qm at *
  have hK0i : ¬ ((K : Int) < 1) := by omega
  have hK1i : ¬ ((64 : Int) < (K : Int)) := by omega
  go_enter Try.func12, Try.ntmps12
  go_wp2_with first
    | ((with_reducible refine (HCo.out _ (by (repeat first | assumption | exact Below.refl _ _ | refine Below.drew ?_ | refine Below.drewN ?_ _ | refine Below.alloc ?_ (by (first | omega | (simp; done) | (simp; omega))) _ | refine Below.setCell ?_ (by (first | omega | (simp; done) | (simp; omega))) _ | refine Below.trans ?_ (Below.mono (by assumption) (by (first | omega | (simp; done) | (simp; omega))))))).mono ?_); rintro e w1 ⟨rfl, rfl⟩)
    | ((with_reducible refine (Hof.out _).mono ?_); rintro e w1 ⟨rfl, rfl⟩)
    | fail
  have hwm : IntKind.i64.wrap (m : Int) = (m : Int) := by rw [IntKind.wrap_i64]; omega
  have hmlt : m < m + 1 := by omega
  have hm0i : (0 : Int) ≤ (m : Int) := by omega
  have hm1i : (m : Int) < (m : Int) + 1 := by omega
  have hwm2 : IntKind.i64.wrap ((m : Int) + 1 - 1) = (m : Int) := by rw [IntKind.wrap_i64]; omega
  go_loopw [53] (fun j wr => ∃ i : Nat, i ≤ i0 ∧ j = .int .i64 i ∧ Hid (Below w.heap.size w wr)) (fun j _ => i0 - (intOf j).toNat)
  case atStart => exact ⟨0, Nat.zero_le _, rfl, Lib.hid (by (repeat first | assumption | exact Below.refl _ _ | refine Below.drew ?_ | refine Below.drewN ?_ _ | refine Below.alloc ?_ (by (first | omega | (simp; done) | (simp; omega))) _ | refine Below.setCell ?_ (by (first | omega | (simp; done) | (simp; omega))) _ | refine Below.trans ?_ (Below.mono (by assumption) (by (first | omega | (simp; done) | (simp; omega))))))⟩
  case round =>
    obtain ⟨i, hi, rfl, hbb⟩ := hrel
    have hzr := hbb.out.size
    have hi0 : (0 : Int) ≤ (i : Int) := by omega
    have hiK : (i : Int) < (K : Int) := by omega
    have hiKn : i < K := by omega
    have hbsr : bs < wr.heap.size := by omega
    obtain ⟨c0, c1⟩ := HE.out _ hbb.out i (by rw [HK.out]; omega)
    have d0 : wr.cell? ⟨bs, os, none⟩ = some (.int .i64 (q0 : Int)) := (hbb.out.cell (p := ⟨bs, os, none⟩) hbs).trans hcs
    have dm : wr.cell? ⟨bs, os + m, none⟩ = some (.int .i64 (qm : Int)) := (hbb.out.cell (p := ⟨bs, os + m, none⟩) hbs).trans hcm'
    by_cases hlt : i < i0
    · obtain ⟨fx, ft⟩ := HF.out i hlt
      rw [fx] at c0
      rw [ft] at c1
      clear fx ft
      generalize (exAt L i).ax = ax at *
      generalize (exAt L i).cx = cx at *
      generalize (exAt L i).aT = aT at *
      generalize (exAt L i).ct = ct at *
      go_wp2
      go_region_held3 (fun w' => w'.cell? ⟨wr.heap.size, 0, none⟩ = some (.slice ax q0 cx) ∧ w'.cell? ⟨wr.heap.size, 1, none⟩ = some (.slice aT qm ct) ∧ w'.cell? ⟨bs, os, none⟩ = some (.int .i64 (q0 : Int)) ∧ w'.cell? ⟨bs, os + m, none⟩ = some (.int .i64 (qm : Int)))
        (first | assumption | go_keep)
        (first
          | (go_at_call 22; refine (HSh.out _ (by (repeat first | assumption | exact Below.refl _ _ | refine Below.drew ?_ | refine Below.drewN ?_ _ | refine Below.alloc ?_ (by (first | omega | (simp; done) | (simp; omega))) _ | refine Below.setCell ?_ (by (first | omega | (simp; done) | (simp; omega))) _ | refine Below.trans ?_ (Below.mono (by assumption) (by (first | omega | (simp; done) | (simp; omega))))))).mono ?_; rintro e w1 ⟨rfl, rfl⟩))
      go_wp2
      go_roundw
      case rel => exact ⟨i + 1, by omega, by go_num, Lib.hid (by (repeat first | assumption | exact Below.refl _ _ | refine Below.drew ?_ | refine Below.drewN ?_ _ | refine Below.alloc ?_ (by (first | omega | (simp; done) | (simp; omega))) _ | refine Below.setCell ?_ (by (first | omega | (simp; done) | (simp; omega))) _ | refine Below.trans ?_ (Below.mono (by assumption) (by (first | omega | (simp; done) | (simp; omega))))))⟩
      case measure => simp [intOf]; omega
    · obtain rfl : i = i0 := by omega
      rw [H1.out] at c0
      generalize (exAt L i).nt = nt at *
      generalize (exAt L i).ax = ax at *
      generalize (exAt L i).cx = cx at *
      generalize (exAt L i).aT = aT at *
      generalize (exAt L i).ct = ct at *
      go_wp2
      refine wp_region_held_drew (S := (fun w' => w'.cell? ⟨wr.heap.size, 0, none⟩ = some (.slice ax q0 cx) ∧ w'.cell? ⟨wr.heap.size, 1, none⟩ = some (.slice aT nt ct) ∧ w'.cell? ⟨bs, os, none⟩ = some (.int .i64 (q0 : Int)) ∧ w'.cell? ⟨bs, os + m, none⟩ = some (.int .i64 (qm : Int)))) (by kernel_rfl) ?_ (fun hHeld => ?_)
      · exact ⟨by go_simp, by go_simp, by go_simp, by go_simp⟩
      refine tkW (v := ?_) 0 rfl (by kernel_rfl) (by kernel_rfl) (by kernel_rfl) (fun _ _ _ h => h) (by rfl) (by assumption) ?_ ?_
      rotate_left
      · intro w' hSw; obtain ⟨s0, s1, s2, s3⟩ := hSw; go_simp; (try with_reducible rfl)
      (try simp only [Act.put, List.setIfInBounds_toArray, List.set_cons_zero, List.set_cons_succ])
      refine tkW (v := ?_) 1 rfl (by kernel_rfl) (by kernel_rfl) (by kernel_rfl) (fun _ _ _ h => h) (by rfl) (by assumption) ?_ ?_
      rotate_left
      · intro w' hSw; obtain ⟨s0, s1, s2, s3⟩ := hSw; go_simp; (try with_reducible rfl)
      (try simp only [Act.put, List.setIfInBounds_toArray, List.set_cons_zero, List.set_cons_succ])
      refine tkC 2 rfl (by kernel_rfl) (by rfl) (fun K hK => ?_)
      go_simp
      (go_at_call 22; refine (HSh.out _ (by (repeat first | assumption | exact Below.refl _ _ | refine Below.drew ?_ | refine Below.drewN ?_ _ | refine Below.alloc ?_ (by (first | omega | (simp; done) | (simp; omega))) _ | refine Below.setCell ?_ (by (first | omega | (simp; done) | (simp; omega))) _ | refine Below.trans ?_ (Below.mono (by assumption) (by (first | omega | (simp; done) | (simp; omega))))))).mono ?_; rintro e w1 ⟨rfl, rfl⟩)
      (try dsimp only)
      refine hK.out _ _ ?_ (fun hHeld2 => ?_)
      · exact ⟨by go_simp, by go_simp, by go_simp, by go_simp⟩
      clear hK K
      (try simp only [Act.put, List.setIfInBounds_toArray, List.set_cons_zero, List.set_cons_succ])
      refine tkW (v := ?_) 3 rfl (by kernel_rfl) (by kernel_rfl) (by kernel_rfl) (fun _ _ _ h => h) (by rfl) (by assumption) ?_ ?_
      rotate_left
      · intro w' hSw; obtain ⟨s0, s1, s2, s3⟩ := hSw; go_simp; (try with_reducible rfl)
      (try simp only [Act.put, List.setIfInBounds_toArray, List.set_cons_zero, List.set_cons_succ])
      refine tkW (v := ?_) 4 rfl (by kernel_rfl) (by kernel_rfl) (by kernel_rfl) (fun _ _ _ h => h) (by rfl) (by assumption) ?_ ?_
      rotate_left
      · intro w' hSw; obtain ⟨s0, s1, s2, s3⟩ := hSw; go_simp; (try with_reducible rfl)
      (try simp only [Act.put, List.setIfInBounds_toArray, List.set_cons_zero, List.set_cons_succ])
      refine tkW (v := ?_) 5 rfl (by kernel_rfl) (by kernel_rfl) (by kernel_rfl) (fun _ _ _ h => h) (by rfl) (by assumption) ?_ ?_
      rotate_left
      · intro w' hSw; obtain ⟨s0, s1, s2, s3⟩ := hSw; go_simp; (try with_reducible rfl)
      (try simp only [Act.put, List.setIfInBounds_toArray, List.set_cons_zero, List.set_cons_succ])
      refine tkW (v := ?_) 6 rfl (by kernel_rfl) (by kernel_rfl) (by kernel_rfl) (fun _ _ _ h => h) (by rfl) (by assumption) ?_ ?_
      rotate_left
      · intro w' hSw; obtain ⟨s0, s1, s2, s3⟩ := hSw; go_simp; (try with_reducible rfl)
      (try simp only [Act.put, List.setIfInBounds_toArray, List.set_cons_zero, List.set_cons_succ])
      refine tkW (v := ?_) 7 rfl (by kernel_rfl) (by kernel_rfl) (by kernel_rfl) (fun _ _ _ h => h) (by rfl) (by assumption) ?_ ?_
      rotate_left
      · intro w' hSw; obtain ⟨s0, s1, s2, s3⟩ := hSw; go_simp; (try with_reducible rfl)
      (try simp only [Act.put, List.setIfInBounds_toArray, List.set_cons_zero, List.set_cons_succ])
      refine tkW (v := ?_) 8 rfl (by kernel_rfl) (by kernel_rfl) (by kernel_rfl) (fun _ _ _ h => h) (by rfl) (by assumption) ?_ ?_
      rotate_left
      · intro w' hSw; obtain ⟨s0, s1, s2, s3⟩ := hSw; go_simp; (try with_reducible rfl)
      (try simp only [Act.put, List.setIfInBounds_toArray, List.set_cons_zero, List.set_cons_succ])
      refine tkW (v := ?_) 9 rfl (by kernel_rfl) (by kernel_rfl) (by kernel_rfl) (fun _ _ _ h => h) (by rfl) (by assumption) ?_ ?_
      rotate_left
      · intro w' hSw; obtain ⟨s0, s1, s2, s3⟩ := hSw; go_simp; (try with_reducible rfl)
      (try simp only [Act.put, List.setIfInBounds_toArray, List.set_cons_zero, List.set_cons_succ])
      refine tkW (v := ?_) 10 rfl (by kernel_rfl) (by kernel_rfl) (by kernel_rfl) (fun _ _ _ h => h) (by rfl) (by assumption) ?_ ?_
      rotate_left
      · intro w' hSw; obtain ⟨s0, s1, s2, s3⟩ := hSw; go_simp; (try with_reducible rfl)
      (try simp only [Act.put, List.setIfInBounds_toArray, List.set_cons_zero, List.set_cons_succ])
      refine tkW (v := ?_) 11 rfl (by kernel_rfl) (by kernel_rfl) (by kernel_rfl) (fun _ _ _ h => h) (by rfl) (by assumption) ?_ ?_
      rotate_left
      · intro w' hSw; obtain ⟨s0, s1, s2, s3⟩ := hSw; go_simp; (try with_reducible rfl)
      (try simp only [Act.put, List.setIfInBounds_toArray, List.set_cons_zero, List.set_cons_succ])
      refine tkW (v := ?_) 12 rfl (by kernel_rfl) (by kernel_rfl) (by kernel_rfl) (fun _ _ _ h => h) (by rfl) (by assumption) ?_ ?_
      rotate_left
      · intro w' hSw; obtain ⟨s0, s1, s2, s3⟩ := hSw; go_simp; (try with_reducible rfl)
      (try simp only [Act.put, List.setIfInBounds_toArray, List.set_cons_zero, List.set_cons_succ])
      refine tkW (v := ?_) 13 rfl (by kernel_rfl) (by kernel_rfl) (by kernel_rfl) (fun _ _ _ h => h) (by rfl) (by assumption) ?_ ?_
      rotate_left
      · intro w' hSw; obtain ⟨s0, s1, s2, s3⟩ := hSw; go_simp; (try with_reducible rfl)
      (try simp only [Act.put, List.setIfInBounds_toArray, List.set_cons_zero, List.set_cons_succ])
      refine tkW (v := ?_) 14 rfl (by kernel_rfl) (by kernel_rfl) (by kernel_rfl) (fun _ _ _ h => h) (by rfl) (by assumption) ?_ ?_
      rotate_left
      · intro w' hSw; obtain ⟨s0, s1, s2, s3⟩ := hSw; go_simp; (try with_reducible rfl)
      (try simp only [Act.put, List.setIfInBounds_toArray, List.set_cons_zero, List.set_cons_succ])
      refine tkW (v := ?_) 15 rfl (by kernel_rfl) (by kernel_rfl) (by kernel_rfl) (fun _ _ _ h => h) (by rfl) (by assumption) ?_ ?_
      rotate_left
      · intro w' hSw; obtain ⟨s0, s1, s2, s3⟩ := hSw; go_simp; (try with_reducible rfl)
      (try simp only [Act.put, List.setIfInBounds_toArray, List.set_cons_zero, List.set_cons_succ])
      refine tkW (v := ?_) 16 rfl (by kernel_rfl) (by kernel_rfl) (by kernel_rfl) (fun _ _ _ h => h) (by rfl) (by assumption) ?_ ?_
      rotate_left
      · intro w' hSw; obtain ⟨s0, s1, s2, s3⟩ := hSw; go_simp; (try with_reducible rfl)
      (try simp only [Act.put, List.setIfInBounds_toArray, List.set_cons_zero, List.set_cons_succ])
      refine tkW (v := ?_) 17 rfl (by kernel_rfl) (by kernel_rfl) (by kernel_rfl) (fun _ _ _ h => h) (by rfl) (by assumption) ?_ ?_
      rotate_left
      · intro w' hSw; obtain ⟨s0, s1, s2, s3⟩ := hSw; go_simp; (try with_reducible rfl)
      (try simp only [Act.put, List.setIfInBounds_toArray, List.set_cons_zero, List.set_cons_succ])
      refine tkW (v := ?_) 18 rfl (by kernel_rfl) (by kernel_rfl) (by kernel_rfl) (fun _ _ _ h => h) (by rfl) (by assumption) ?_ ?_
      rotate_left
      · intro w' hSw; obtain ⟨s0, s1, s2, s3⟩ := hSw; go_simp; (try with_reducible rfl)
      (try simp only [Act.put, List.setIfInBounds_toArray, List.set_cons_zero, List.set_cons_succ])
      refine tkW (v := ?_) 19 rfl (by kernel_rfl) (by kernel_rfl) (by kernel_rfl) (fun _ _ _ h => h) (by rfl) (by assumption) ?_ ?_
      rotate_left
      · intro w' hSw; obtain ⟨s0, s1, s2, s3⟩ := hSw; go_simp; (try with_reducible rfl)
      (try simp only [Act.put, List.setIfInBounds_toArray, List.set_cons_zero, List.set_cons_succ])
      refine tkW (v := ?_) 20 rfl (by kernel_rfl) (by kernel_rfl) (by kernel_rfl) (fun _ _ _ h => h) (by rfl) (by assumption) ?_ ?_
      rotate_left
      · intro w' hSw; obtain ⟨s0, s1, s2, s3⟩ := hSw; go_simp; (try with_reducible rfl)
      (try simp only [Act.put, List.setIfInBounds_toArray, List.set_cons_zero, List.set_cons_succ])
      refine tkW (v := ?_) 21 rfl (by kernel_rfl) (by kernel_rfl) (by kernel_rfl) (fun _ _ _ h => h) (by rfl) (by assumption) ?_ ?_
      rotate_left
      · intro w' hSw; obtain ⟨s0, s1, s2, s3⟩ := hSw; go_simp; (try with_reducible rfl)
      (try simp only [Act.put, List.setIfInBounds_toArray, List.set_cons_zero, List.set_cons_succ])
      refine tkW (v := ?_) 22 rfl (by kernel_rfl) (by kernel_rfl) (by kernel_rfl) (fun _ _ _ h => h) (by rfl) (by assumption) ?_ ?_
      rotate_left
      · intro w' hSw; obtain ⟨s0, s1, s2, s3⟩ := hSw; go_simp; (try with_reducible rfl)
      (try simp only [Act.put, List.setIfInBounds_toArray, List.set_cons_zero, List.set_cons_succ])
      refine tkW (v := ?_) 23 rfl (by kernel_rfl) (by kernel_rfl) (by kernel_rfl) (fun _ _ _ h => h) (by rfl) (by assumption) ?_ ?_
      rotate_left
      · intro w' hSw; obtain ⟨s0, s1, s2, s3⟩ := hSw; go_simp; (try with_reducible rfl)
      (try simp only [Act.put, List.setIfInBounds_toArray, List.set_cons_zero, List.set_cons_succ])
      refine tkW (v := ?_) 24 rfl (by kernel_rfl) (by kernel_rfl) (by kernel_rfl) (fun _ _ _ h => h) (by rfl) (by assumption) ?_ ?_
      rotate_left
      · intro w' hSw; obtain ⟨s0, s1, s2, s3⟩ := hSw; go_simp; (try with_reducible rfl)
      (try simp only [Act.put, List.setIfInBounds_toArray, List.set_cons_zero, List.set_cons_succ])
      refine wpAnyH_done (by kernel_rfl) ?_ _
      go_wp2
      go_ret3
      exact ⟨rfl, by (repeat first | assumption | exact Below.refl _ _ | refine Below.drew ?_ | refine Below.drewN ?_ _ | refine Below.alloc ?_ (by (first | omega | (simp; done) | (simp; omega))) _ | refine Below.setCell ?_ (by (first | omega | (simp; done) | (simp; omega))) _ | refine Below.trans ?_ (Below.mono (by assumption) (by (first | omega | (simp; done) | (simp; omega)))))⟩
end Go.Proofs.Ythingodgjeicpaa
