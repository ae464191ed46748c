/-
  A batch's answer, in whatever order its examples stand.
-/
import Derived.Test.YthingodgjeicpaaBatC
import Derived.Test.YthingodgjeicpaaQuoN
namespace Go.Proofs.Ythingodgjeicpaa
open Go.RowKit
set_option linter.unusedVariables false
set_option linter.unusedSimpArgs false

theorem map_range_exAt {α : Type} (f : ExD → α) (L : List ExD) : (List.range L.length).map (fun i => f (exAt L i)) = L.map f := by
  apply List.ext_getElem
  · simp
  · intro i h1 h2
    have h : i < L.length := by simpa using h2
    simp [exAt, List.getElem?_eq_getElem h]
theorem sumI_take (l : List Int) : ∀ k, sumI l k = (l.take k).sum
  | 0 => by simp [sumI]
  | k + 1 => by
    simp only [sumI]
    rw [sumI_take l k]
    by_cases h : k < l.length
    · rw [List.take_succ_eq_append_getElem h, List.sum_append]
      simp [List.getElem?_eq_getElem h]
    · rw [List.take_of_length_le (by omega), List.take_of_length_le (by omega), List.getElem?_eq_none (by omega)]
      simp
theorem sumI_len {l : List Int} {n : Nat} (h : l.length = n) : sumI l n = l.sum := by rw [sumI_take, List.take_of_length_le (by omega)]

def turnL (L : List ExD) (k : Nat) : List ExD := L.drop k ++ L.take k
theorem turnL_len (L : List ExD) (k : Nat) : (turnL L k).length = L.length := by
  have := congrArg List.length (List.take_append_drop k L)
  unfold turnL
  rw [List.length_append] at *
  omega
theorem turnL_zero (L : List ExD) : turnL L 0 = L := by simp [turnL]
theorem gsK_map (s p : List Int) (m : Nat) (L : List ExD) : gsK s p m L L.length = L.map fun e => gradS s p e.x e.t m := map_range_exAt (fun e => gradS s p e.x e.t m) L
theorem fsK_map (s p : List Int) (m : Nat) (L : List ExD) : fsK s p m L L.length = L.map fun e => sqFar (val s p e.x m) e.t (szN s m) := map_range_exAt (fun e => sqFar (val s p e.x m) e.t (szN s m)) L
theorem colK_map (ll : List (List Int)) (i : Nat) : colK ll i ll.length = ll.map fun l => l[i]?.getD 0 := by
  unfold colK
  apply List.ext_getElem
  · simp
  · intro j h1 h2
    have h : j < ll.length := by simpa using h2
    simp [List.getElem?_eq_getElem h]
theorem map_turn {α : Type} (f : ExD → α) (L : List ExD) (k : Nat) : (turnL L k).map f = (L.map f).drop k ++ (L.map f).take k := by
  unfold turnL
  rw [List.map_append, List.map_drop, List.map_take]
theorem mean_fs (s p : List Int) (m : Nat) (L : List ExD) (k : Nat) : meanI (fsK s p m (turnL L k) L.length) L.length = meanI (fsK s p m L L.length) L.length := by
  unfold meanI
  rw [sumI_len (fsK_len ..), sumI_len (fsK_len ..), fsK_map]
  have e := fsK_map s p m (turnL L k)
  rw [turnL_len] at e
  rw [e, map_turn, sum_turned]
theorem mns_gs (s p : List Int) (m : Nat) (L : List ExD) (k q : Nat) : mns (gsK s p m (turnL L k) L.length) L.length q = mns (gsK s p m L L.length) L.length q := by
  have e := gsK_map s p m (turnL L k)
  rw [turnL_len] at e
  rw [e, gsK_map]
  unfold mns mn1 meanI
  refine List.map_congr_left fun i _ => ?_
  rw [sumI_len (colK_len ..), sumI_len (colK_len ..)]
  have h1 := colK_map ((turnL L k).map fun e => gradS s p e.x e.t m) i
  have h2 := colK_map (L.map fun e => gradS s p e.x e.t m) i
  rw [List.length_map, turnL_len] at h1
  rw [List.length_map] at h2
  rw [h1, h2, map_turn, List.map_append, List.map_drop, List.map_take, sum_turned]

theorem exAt_turn (L : List ExD) (k i : Nat) (hk : k ≤ L.length) (hi : i < L.length) : ∃ j, j < L.length ∧ exAt (turnL L k) i = exAt L j := by
  by_cases h : i < L.length - k
  · refine ⟨k + i, by omega, ?_⟩
    unfold exAt turnL
    rw [List.getElem?_append_left (by rw [List.length_drop]; exact h), List.getElem?_drop]
  · refine ⟨i - (L.length - k), by omega, ?_⟩
    unfold exAt turnL
    rw [List.getElem?_append_right (by rw [List.length_drop]; omega), List.length_drop, List.getElem?_take_of_lt (by omega)]
theorem exAt_turn' (L : List ExD) (k j : Nat) (hk : k ≤ L.length) (hj : j < L.length) : ∃ i, i < L.length ∧ exAt (turnL L k) i = exAt L j := by
  by_cases h : j < k
  · refine ⟨L.length - k + j, by omega, ?_⟩
    unfold exAt turnL
    rw [List.getElem?_append_right (by rw [List.length_drop]; omega), List.length_drop, List.getElem?_take_of_lt (by omega), Nat.add_sub_cancel_left]
  · refine ⟨j - k, by omega, ?_⟩
    unfold exAt turnL
    rw [List.getElem?_append_left (by rw [List.length_drop]; omega), List.getElem?_drop, show k + (j - k) = j by omega]
theorem ExR.turn {w : World} {L : List ExD} (h : ExR w L) {k : Nat} (hk : k ≤ L.length) : ExR w (turnL L k) := fun i hi => by
  rw [turnL_len] at hi
  obtain ⟨j, hj, e⟩ := exAt_turn L k i hk hi
  rw [e]
  exact h j hj

theorem Rd_nil (w : World) : Rd w .i64 none 0 [] := Rd.empty _ _ _

set_option maxHeartbeats 1600000 in
theorem Batch_same (aS : Option Addr) (ns cS : Nat) (s : List Int) (ap : Option Addr) (np cp : Nat) (p : List Int) (K : Nat) (L : List ExD) (w : World) (hs : Rd w .i64 aS ns s) (hp : Rd w .i64 ap np p) (hcp : np ≤ cp) (hcm : cp ≤ 9223372036854775807) (ip : A64 p)
    (hK : L.length = K) (hK0 : 0 < K) (hK1 : K ≤ 64) (hR : ExR w L) :
    ∃ (n : Nat) (G : List Int) (y er : Int), ∀ k bE oE cE w', k ≤ K → Below w.heap.size w w' → bE < w'.heap.size → ExsAt w' bE oE (turnL L k) →
      Calls Try.prog 12 #[.pointer none, .int .i64 1, .slice aS ns cS, .slice ap np cp, .slice (some ⟨bE, oE, none⟩) K cE] w' fun e w'' => ∃ a c, e = .returned (.tuple #[.slice a n c, .int .i64 y, .int .i64 er]) ∧ Rd w'' .i64 a n G ∧ Below w'.heap.size w' w'' := by
  by_cases hok : okS s
  · obtain ⟨m, hm⟩ : ∃ m, s.length = m + 1 := ⟨s.length - 1, by have := hok.1; omega⟩
    have hnp := hp.2.1
    by_cases hfit : ∀ j, j < K → Fit s m np (exAt L j)
    · refine ⟨np, mns (gsK s p m L K) K np, clampI (meanI (fsK s p m L K) K), 0, fun k bE oE cE w' hk hb hbE hE => ?_⟩
      have h := Batch_ok aS ns cS s ap np cp bE oE cE K (turnL L k) m w' (hs.kept hb) hok hm hnp hE hbE (by rw [turnL_len, hK]) hK0 hK1 ((hR.turn (by omega)).kept hb) p (hp.kept hb) hcp hcm ip (fun j hj => by
        obtain ⟨i, hi, e⟩ := exAt_turn L k j (by omega) (by omega)
        rw [e]
        exact hfit i (by omega))
      have e1 := mns_gs s p m L k np
      have e2 := mean_fs s p m L k
      rw [hK] at e1 e2
      rw [e1, e2] at h
      refine h.mono ?_
      rintro e w'' ⟨v, rfl, ho, hbb⟩
      obtain ⟨a, c, rfl, _, _⟩ := ownsRow_form ho
      have hr := Ow.rd (a := a) (c := c) ho (by rw [mns_len]; exact hnp)
      rw [mns_len] at hr ⊢
      exact ⟨a, c, rfl, hr, hbb⟩
    · refine ⟨0, [], 0, 40, fun k bE oE cE w' hk hb hbE hE => ?_⟩
      have hodd : ∃ i, i < K ∧ ¬ Fit s m np (exAt (turnL L k) i) := by
        obtain ⟨j, hj⟩ := Classical.not_forall.1 hfit
        obtain ⟨hj, hn⟩ := Classical.not_imp.1 hj
        obtain ⟨i, hi, e⟩ := exAt_turn' L k j (by omega) (by omega)
        exact ⟨i, by omega, by rw [e]; exact hn⟩
      obtain ⟨i0, hi0, hn0, hlow⟩ := first_odd hodd
      have fin : ∀ e w'', e = Ending.returned (.tuple #[.slice none 0 0, .int .i64 0, .int .i64 40]) ∧ Below w'.heap.size w' w'' → ∃ a c, e = Ending.returned (.tuple #[.slice a 0 c, .int .i64 0, .int .i64 40]) ∧ Rd w'' .i64 a 0 [] ∧ Below w'.heap.size w' w'' := by
        rintro e w'' ⟨rfl, hb⟩
        exact ⟨none, 0, rfl, Rd.empty _ _ _, hb⟩
      by_cases h0 : shp s np = 0
      · have hc : np = cntN s := by
          unfold shp at h0
          rw [if_pos hok] at h0
          by_cases hc : np = cntN s
          · exact hc
          · rw [if_neg hc] at h0; omega
        by_cases h1 : (exAt (turnL L k) i0).nx = szN s 0
        · exact (Batch_odd2 aS ns cS s ap np cp bE oE cE K (turnL L k) m w' (hs.kept hb) hok hm hnp hE hbE (by rw [turnL_len, hK]) hK0 hK1 ((hR.turn (by omega)).kept hb) i0 hi0 hlow h0 h1 (fun h2 => hn0 ⟨hc, h1, h2⟩)).mono fin
        · exact (Batch_odd1 aS ns cS s ap np cp bE oE cE K (turnL L k) m w' (hs.kept hb) hok hm hnp hE hbE (by rw [turnL_len, hK]) hK0 hK1 ((hR.turn (by omega)).kept hb) i0 hi0 hlow h0 h1).mono fin
      · exact (Batch_odd0 aS ns cS s ap np cp bE oE cE K (turnL L k) m w' (hs.kept hb) hok hm hnp hE hbE (by rw [turnL_len, hK]) hK0 hK1 ((hR.turn (by omega)).kept hb) i0 hi0 hlow h0).mono fin
  · refine ⟨0, [], 0, 70, fun k bE oE cE w' hk hb hbE hE => ?_⟩
    refine (Batch_bad aS ns cS s _ _ w' (hs.kept hb) hok).mono ?_
    rintro e w'' ⟨rfl, rfl⟩
    exact ⟨none, 0, rfl, Rd.empty _ _ _, Below.refl _ _⟩

set_option maxHeartbeats 1600000 in
theorem lSame_any (a b : Option Addr) (n ca cb : Nat) (l : List Int) (w : World) (ha : Rd w .i64 a n l) (hb : Rd w .i64 b n l) :
    Calls Try.prog 13 #[.slice a n ca, .slice b n cb] w fun e w' => e = .returned (.bool true) ∧ w = w' := by
  have HA := Lib.hid ha; have HB := Lib.hid hb
  have hn := ha.2.1
  clear ha hb
  go_enter Try.func13, Try.ntmps13
  go_wp2
  go_loopw [14] (fun k wr => ∃ i : Nat, i ≤ n ∧ k = .int .i64 i ∧ Hid (w = wr)) (fun k _ => n - (intOf k).toNat)
  case atStart => exact ⟨0, Nat.zero_le _, rfl, rfl⟩
  case round =>
    obtain ⟨i, hi, rfl, hq⟩ := hrel
    obtain rfl := hq.out
    by_cases hlt : i < n
    · obtain ⟨ba, oa, rfl, hba, hca⟩ := HA.out.at hlt
      obtain ⟨bb, ob, rfl, hbb, hcb⟩ := HB.out.at hlt
      generalize l[i]?.getD 0 = z at *
      have hi0 : (0 : Int) ≤ (i : Int) := by omega
      have hin : (i : Int) < (n : Int) := by omega
      go_wp2
      go_roundw
      case rel => exact ⟨i + 1, by omega, by go_num, Lib.hid (by first | rfl | trivial)⟩
      case measure => simp [intOf]; omega
    · obtain rfl : i = n := by omega
      go_wp2
      go_ret
      exact ⟨rfl, rfl⟩
end Go.Proofs.Ythingodgjeicpaa
