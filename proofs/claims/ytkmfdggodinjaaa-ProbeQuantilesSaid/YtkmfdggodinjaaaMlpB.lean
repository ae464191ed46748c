/-
  Layer mlp: parameters taken apart, layer by layer.
-/
import Derived.Test.YtkmfdggodinjaaaMlpA
namespace Go.Proofs.Ytkmfdggodinjaaa
open Go.RowKit
set_option linter.unusedVariables false
set_option linter.unusedSimpArgs false

theorem eLs : Elem Try.prog 91 132 4 64 (.agg #[.int .i64 0, .int .i64 0, .slice none 0 0, .slice none 0 0]) := ⟨Try.underlying91, by kernel_rfl, rfl, by omega⟩

/-- The cells of the layers of parameters that lie at block b from place o on. -/
def layC (b o : Nat) (s : List Int) (i : Nat) : List Value :=
  [.int .i64 (szN s (i + 1)), .int .i64 (szN s i), .slice (some ⟨b, o + fst s i, none⟩) (szN s (i + 1) * szN s i) (szN s (i + 1) * szN s i),
   .slice (some ⟨b, o + fst s i + szN s (i + 1) * szN s i, none⟩) (szN s (i + 1)) (szN s (i + 1))]
def LayX (b o : Nat) (s : List Int) (xs : List Value) (m : Nat) : Prop := xs.length = m * 4 ∧ ∀ i, i < m → ∀ t, t < 4 → xs[i * 4 + t]? = (layC b o s i)[t]?

theorem LayX.snoc {b o : Nat} {s : List Int} {xs : List Value} {m : Nat} (h : LayX b o s xs m) : LayX b o s (xs ++ layC b o s m) (m + 1) := by
  refine ⟨by simp [h.1, layC]; omega, fun i hi t ht => ?_⟩
  by_cases e : i < m
  · rw [List.getElem?_append_left (by rw [h.1]; omega)]; exact h.2 i e t ht
  · obtain rfl : i = m := by omega
    rw [List.getElem?_append_right (by rw [h.1]; omega), h.1, Nat.add_sub_cancel_left]

theorem fst_succ (s : List Int) (i : Nat) : fst s (i + 1) = fst s i + (szN s (i + 1) * szN s i + szN s (i + 1)) := by simp [fst, Nat.mul_add]
theorem fst_mono (s : List Int) {i j : Nat} (h : i ≤ j) : fst s i ≤ fst s j := by
  induction h with
  | refl => exact Nat.le_refl _
  | step h ih => rw [fst_succ]; omega

set_option maxHeartbeats 1600000 in
set_option maxRecDepth 100000 in
theorem layers_any (a : Option Addr) (n c : Nat) (s : List Int) (b o np cp : Nat) (w : World) (h : Rd w .i64 a n s) (hs : okS s) (hp : cntN s = np) (hcp : np ≤ cp) (hcm : cp ≤ 9223372036854775807) :
    Calls Try.prog 42 #[.slice a n c, .slice (some ⟨b, o, none⟩) np cp] w fun e w' => ∃ v xs, e = .returned v ∧ w'.ownsRow w.heap.size 132 4 v (n - 1) xs ∧ LayX b o s xs (n - 1) ∧ Below w.heap.size w w' := by
  have hl := h.1
  have h2 := hs.1
  have h6 := hs.2.1
  rw [hl] at h2 h6
  obtain ⟨m, rfl⟩ : ∃ m, n = m + 1 := ⟨n - 1, by omega⟩
  rw [Nat.add_sub_cancel]
  have hp' : fst s m = np := by rw [← hp]; unfold cntN; rw [hl, Nat.add_sub_cancel]
  have H := Lib.hid h; clear h
  have Hs := Lib.hid hs; clear hs
  have HL := Lib.hid hl; clear hl
  have Hp := Lib.hid hp'; clear hp hp'
  go_enter Try.func42, Try.ntmps42
  go_wp2
  go_loopw [1, 5, 13] (fun pv lv k wr => ∃ (i t tc : Nat) (a' : Option Addr) (xs : List Value), i ≤ m ∧ k = .int .i64 i ∧ pv = .slice a' t tc ∧ Hid (fst s i + t = np) ∧ Hid (fst s i + tc = cp) ∧ Hid (i < m → a' = some ⟨b, o + fst s i, none⟩) ∧ Hid (wr.ownsRow w.heap.size 132 4 lv i xs) ∧ Hid (LayX b o s xs i) ∧ Hid (Below w.heap.size w wr)) (fun _ _ k _ => m - (intOf k).toNat)
  case atStart => exact ⟨0, np, cp, _, [], Nat.zero_le _, rfl, rfl, by simp [Hid, fst], by simp [Hid, fst], fun _ => rfl, World.ownsRow_nil _ _ _ _, ⟨rfl, fun i hi => absurd hi (by omega)⟩, Below.refl _ _⟩
  case round =>
    obtain ⟨i, t, tc, a', xs, hi, rfl, rfl, ht, htc, ha', hown, hx, hb⟩ := hrel
    by_cases hlt : i < m
    · obtain ⟨b0, o0, rfl, hb0w, hcell0⟩ := H.out.at (i := i) (by omega)
      rw [← hb.out.cell (p := ⟨b0, o0 + i, none⟩) hb0w] at hcell0
      have Hne : Hid (some b0 ≠ u5.ownBlock) := Lib.hid (fun e => by have := (hown.out.lt b0 e.symm).1; omega)
      have hb0z := hb.out.size
      obtain ⟨b1, o1, e1, _, hcell1⟩ := (H.out.kept hb.out).at (i := i + 1) (by omega)
      cases e1
      obtain ⟨e0, q1, q2⟩ := Hs.out.szv (i := i) (by rw [HL.out]; omega)
      obtain ⟨e1, r1, r2⟩ := Hs.out.szv (i := i + 1) (by rw [HL.out]; omega)
      rw [e0] at hcell0
      rw [e1] at hcell1
      have Hx := Lib.hid hx.out.snoc
      have Hf := Lib.hid (fst_succ s i)
      have Hfm := Lib.hid (fst_mono s (i := i + 1) (j := m) (by omega))
      rw [Hp.out, Hf.out] at Hfm
      have Hc : Hid (layC b o s i = [.int .i64 (szN s (i + 1)), .int .i64 (szN s i), .slice (some ⟨b, o + fst s i, none⟩) (szN s (i + 1) * szN s i) (szN s (i + 1) * szN s i),
   .slice (some ⟨b, o + fst s i + szN s (i + 1) * szN s i, none⟩) (szN s (i + 1)) (szN s (i + 1))]) := Lib.hid rfl
      have hqr : szN s (i + 1) * szN s i ≤ 64 * 64 := Nat.mul_le_mul r2 q2
      have hqr1 : 1 ≤ szN s (i + 1) * szN s i := Nat.mul_le_mul r1 q1
      have hmul : (szN s (i + 1) : Int) * (szN s i : Int) = ((szN s (i + 1) * szN s i : Nat) : Int) := by simp
      clear e0 e1
      generalize szN s i = q at *
      generalize szN s (i + 1) = r at *
      generalize r * q = p at *
      generalize hF : fst s i = f at *
      obtain rfl := ha'.out hlt
      have hpt : p + r ≤ t := by have := Hfm.out; have := ht.out; omega
      have hptc : p + r ≤ tc := by have := Hfm.out; have := htc.out; have := ht.out; omega
      have Hsz := Lib.hid hb.out.size
      have htcm : tc ≤ 9223372036854775807 := by have := htc.out; omega
      have htt : t ≤ tc := by have := htc.out; have := ht.out; omega
      have hne1 : ¬ tc = p := by omega
      have hp1 : p ≤ t := by omega
      have hp0 : ¬ p = 0 := by omega
      have hr0 : ¬ r = 0 := by omega
      have hp0' : ¬ 0 = p := by omega
      obtain ⟨e, he⟩ : ∃ e, p + r = e := ⟨_, rfl⟩
      have hsum : (p : Int) + (r : Int) = (e : Int) := by omega
      have hep : p ≤ e := by omega
      have het : e ≤ t := by omega
      have hetc : e ≤ tc := by omega
      have hnep : ¬ e = p := by omega
      have hsub : e - p = r := by omega
      rw [he] at *
      have he4 : e ≤ 5000 := by omega
      have Hee := Lib.hid he; clear he
      have hp2 : p ≤ tc := by omega
      have hlastx : Hid (i + 1 < m → p + r < t) := by
        apply Lib.hid
        intro hi2
        have h5 := fst_mono s (i := i + 1 + 1) (j := m) (by omega)
        rw [fst_succ] at h5
        have := (Hs.out.szv (i := i + 1 + 1) (by rw [HL.out]; omega)).2.1
        have h7 := Hf.out
        have h8 := ht.out
        have h9 := Hp.out
        omega
      go_wp2
      go_quiet (fail)
      go_wp2
      have hwe : IntKind.i64.wrap (e : Int) = (e : Int) := by rw [IntKind.wrap_i64]; omega
      have hT : Hid True := Lib.hid trivial
      go_region_held3 (fun w' => Hid True)
        (exact Lib.hid trivial)
        (first
          | (refine step_of_op rfl (op_app eLs (.tmp 28) (.tmp 46) rfl w.heap.size u5 i xs rfl (by exact (ownsRow_kept hown.out (by (repeat first | assumption | exact Below.refl _ _ | refine Below.drew ?_ | refine Below.drewN ?_ _ | refine Below.alloc ?_ (by (first | omega | (simp; done) | (simp; omega))) _ | refine Below.setCell ?_ (by (first | omega | (simp; done) | (simp; omega))) _ | refine Below.trans ?_ (Below.mono (by assumption) (by (first | omega | (simp; done) | (simp; omega)))))))) wr.heap.size (layC b o s i) rfl rfl (by rw [Hc.out]; intro j u hj; rcases j with _ | _ | _ | _ | j <;> simp at hj <;> (try subst hj) <;> exact World.cell?_alloc_at _ _ _ _ rfl) (by rw [Hc.out]; intro u hu; simp at hu; rcases hu with rfl | rfl | rfl | rfl <;> rfl) (by unfold maxLen; omega) (by omega) (by have := Hsz.out; simp; omega) ?_); intro v1 w1 hown1 hgrow))
      have Hb1 := Lib.hid (Below.grownOf (by (repeat first | assumption | exact Below.refl _ _ | refine Below.drew ?_ | refine Below.drewN ?_ _ | refine Below.alloc ?_ (by (first | omega | (simp; done) | (simp; omega))) _ | refine Below.setCell ?_ (by (first | omega | (simp; done) | (simp; omega))) _ | refine Below.trans ?_ (Below.mono (by assumption) (by (first | omega | (simp; done) | (simp; omega)))))) (ownsRow_kept hown.out (by (repeat first | assumption | exact Below.refl _ _ | refine Below.drew ?_ | refine Below.drewN ?_ _ | refine Below.alloc ?_ (by (first | omega | (simp; done) | (simp; omega))) _ | refine Below.setCell ?_ (by (first | omega | (simp; done) | (simp; omega))) _ | refine Below.trans ?_ (Below.mono (by assumption) (by (first | omega | (simp; done) | (simp; omega))))))) hgrow (by have := Hsz.out; simp; omega) : Below w.heap.size w w1)
      have Hown1 := Lib.hid hown1
      clear hown1 hgrow hT Hsz
      by_cases hte : tc = e
      · have hte2 : t = e := by omega
        subst hte
        subst hte2
        go_wp2
        go_roundw
        case rel => exact ⟨i + 1, _, _, _, _, by omega, by go_num, rfl, by have := Hf.out; have := ht.out; simp only [Hid]; omega, by have := Hf.out; have := htc.out; simp only [Hid]; omega, fun hi2 => by have := hlastx.out hi2; omega, Hown1.out, Hx.out, Hb1.out⟩
        case measure => simp [intOf]; omega
      · go_wp2
        go_roundw
        case rel => exact ⟨i + 1, _, _, _, _, by omega, by go_num, rfl, by have := Hf.out; have := ht.out; simp only [Hid]; omega, by have := Hf.out; have := htc.out; simp only [Hid]; omega, fun hi2 => by rw [Hf.out]; simp <;> omega, Hown1.out, Hx.out, Hb1.out⟩
        case measure => simp [intOf]; omega
    · obtain rfl : i = m := by omega
      go_wp2
      go_ret
      exact ⟨_, xs, rfl, hown.out, hx.out, hb.out⟩
end Go.Proofs.Ytkmfdggodinjaaa
