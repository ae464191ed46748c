/-
  regattalaw07.plain, regattaref07.Net: where a layer's parameters begin, a weight, an offset.
-/
import Derived.Test.YthingodgjeicpaaLawC
import Derived.Test.YthingodgjeicpaaMlpK
namespace Go.Proofs.Ythingodgjeicpaa
open Go.RowKit
set_option linter.unusedVariables false
set_option linter.unusedSimpArgs false

theorem eIs : Elem Try.prog 31 2 1 8 (.int .i64 0) := ⟨Try.underlying31, by kernel_rfl, rfl, by omega⟩
theorem eIs1 : ∃ i0, Try.prog.info? 2 = some i0 ∧ i0.zero = some (.int .i64 0) ∧ i0.size = 1 ∧ i0.bytes = 8 := info_parts eIs.inf

set_option maxHeartbeats 800000 in
theorem plain_any (a : Option Addr) (n c : Nat) (l : List Int) (w : World) (h : Rd w .i64 a n l) (hn : n ≤ 100000) :
    Calls Try.prog 9 #[.slice a n c] w fun e w' => ∃ v, e = .returned v ∧ Ow w' w.heap.size 2 .i64 v l ∧ Below w.heap.size w w' := by
  obtain ⟨i0, hi, hz0, hz1, hz2⟩ := eIs1
  have H := Lib.hid h; clear h
  go_enter Try.func9, Try.ntmps9
  go_wp2_with (at_make; refine wpList_make_own _ rfl _ _ 31 rfl w.heap.size 2 i0 (.int .i64 0) 1 eIs.und hi hz0 hz1 _ _ _ n rfl rfl rfl ?b1 ?b2 ?b3 ?_)
  case b1 => rw [hz2]; omega
  case b2 => unfold maxLen; omega
  case b3 => exact Nat.le_refl _
  intro w1 hown hg
  clear hi hz0 hz1 hz2
  have Hb1 : Hid (Below w.heap.size w w1) := Lib.hid ⟨hg.os, hg.tape, hg.output, hg.size, fun k hk => hg.block k hk (by simp)⟩
  have Ho1 := Lib.hid hown
  clear hown hg
  go_wp2
  go_loopw [3, 11] (fun lv k wr => ∃ o : Nat, o ≤ n ∧ k = .int .i64 o ∧ Hid (wr.ownsRow w.heap.size 2 1 lv o ((l.take o).map (Value.int .i64))) ∧ Hid (Below w.heap.size w wr)) (fun _ k _ => n - (intOf k).toNat)
  case atStart => exact ⟨0, Nat.zero_le _, rfl, Lib.hid (by simpa using Ho1.out), Hb1.out⟩
  case round =>
    obtain ⟨o, ho, rfl, hown, hb⟩ := hrel
    by_cases hlt : o < n
    · obtain ⟨ba, oa, rfl, hba, hca⟩ := (H.out.kept hb.out).at hlt
      have hzr := hb.out.size
      have Hs := Lib.hid (map_step (fun z => z) l o (by rw [H.out.1]; exact hlt))
      simp only [List.map_id'] at Hs
      generalize l[o]?.getD 0 = z at *
      go_wp2_with (at_builtin; refine wpl_app1 eIs rfl _ _ rfl w.heap.size _ o _ rfl (hown.out.alloc _) wr.heap.size (.int .i64 z) rfl (World.cell?_alloc_at _ _ _ _ rfl) rfl ?c3 ?c4 ?c5 ?_)
      case c3 => unfold maxLen; omega
      case c4 => omega
      case c5 => simp; omega
      intro v' w9 hown9 hg9
      have Hb9 := Lib.hid (Below.grownOf (hb.out.alloc hzr _) (hown.out.alloc _) hg9 (by simp; omega))
      have Hown9 := Lib.hid hown9
      clear hown9 hg9
      go_wp2
      go_roundw
      case rel => exact ⟨o + 1, by omega, by go_num, Lib.hid (by rw [Hs.out]; simpa using Hown9.out), Hb9.out⟩
      case measure => simp [intOf]; omega
    · obtain rfl : o = n := by omega
      have Hf : Hid (l.take o = l) := Lib.hid (List.take_of_length_le (by rw [H.out.1]; exact Nat.le_refl _))
      go_wp2
      go_ret
      exact ⟨_, rfl, Ow.of (n := o) (by have := hown.out; rw [Hf.out] at this; exact this), hb.out⟩

set_option maxHeartbeats 1600000 in
set_option maxRecDepth 20000 in
theorem First_any (bs os cS m : Nat) (s : List Int) (a : Option Addr) (np c l : Nat) (w : World) (hs : Rd w .i64 (some ⟨bs, os, none⟩) (m + 1) s) (hok : okS s) (hl : l ≤ m) :
    Calls Try.prog 19 #[.agg #[.slice (some ⟨bs, os, none⟩) (m + 1) cS, .slice a np c], .int .i64 l] w fun e w' => e = .returned (.int .i64 (fst s l)) ∧ Below w.heap.size w w' := by
  have hsl := hs.1
  have h6 := hok.2.1
  rw [hsl] at h6
  have HS := Lib.hid hs
  have HO := Lib.hid hok
  have HL := Lib.hid hsl
  have hbs : bs < w.heap.size := by obtain ⟨b', o', e, hb, _⟩ := hs.2.2 (by omega); cases e; exact hb
  clear hs hok hsl
  go_enter Try.func19, Try.ntmps19
  go_wp2
  generalize hW : w.alloc (.cells #[.slice (some ⟨bs, os, none⟩) (m + 1) cS, .slice a np c] _) = Wb
  have hWz : Wb.heap.size = w.heap.size + 1 := by rw [← hW]; simp
  have d0 : Wb.cell? ⟨w.heap.size, 0, none⟩ = some (.slice (some ⟨bs, os, none⟩) (m + 1) cS) := by rw [← hW]; exact World.cell?_alloc_at _ _ _ _ rfl
  have HW : Hid (Below w.heap.size w Wb) := Lib.hid (by rw [← hW]; (repeat first | assumption | exact Below.refl _ _ | refine Below.drew ?_ | refine Below.drewN ?_ _ | refine Below.alloc ?_ (by (first | omega | (simp; done) | (simp; omega))) _ | refine Below.setCell ?_ (by (first | omega | (simp; done) | (simp; omega))) _ | refine Below.trans ?_ (Below.mono (by assumption) (by (first | omega | (simp; done) | (simp; omega))))))
  clear hW
  go_loopw [5, 6] (fun v i wr => ∃ k : Nat, k ≤ l ∧ i = .int .i64 k ∧ v = .int .i64 (fst s k) ∧ Hid (Drew Wb wr)) (fun _ i _ => l - (intOf i).toNat)
  case atStart => exact ⟨0, Nat.zero_le _, rfl, rfl, Drew.refl _⟩
  case round =>
    obtain ⟨k, hk, rfl, rfl, hq⟩ := hrel
    obtain ⟨nd, rfl⟩ := hq.out
    by_cases hlt : k < l
    · obtain ⟨_, _, e1, _, hcell⟩ := (HS.out.kept HW.out).at (i := k) (by omega)
      cases e1
      obtain ⟨_, _, e1, _, hcell'⟩ := (HS.out.kept HW.out).at (i := k + 1) (by omega)
      cases e1
      obtain ⟨e0, _, q2⟩ := HO.out.szv (i := k) (by rw [HL.out]; omega)
      obtain ⟨e1, _, r2⟩ := HO.out.szv (i := k + 1) (by rw [HL.out]; omega)
      rw [e0] at hcell
      rw [e1] at hcell'
      have hfb := fst_bd (s := s) (m := m + 1) (fun i hi => (HO.out.2.2 i (by rw [HL.out]; omega)).2) k (by omega)
      have hmulb : szN s (k + 1) * szN s k ≤ 64 * 64 := Nat.mul_le_mul r2 q2
      have Hf : Hid (fst s (k + 1) = fst s k + (szN s (k + 1) * szN s k + szN s (k + 1))) := Lib.hid (fst_succ s k)
      clear e0 e1
      generalize szN s (k + 1) = p at *
      generalize szN s k = q at *
      generalize fst s k = f at *
      have hpq : (q : Int) * (p : Int) = ((p * q : Nat) : Int) := by simp [Int.mul_comm]
      generalize p * q = r at *
      have hk6 : k ≤ 6 := by omega
      go_wp2
      go_quiet (fail)
      go_wp2
      go_roundw
      case rel => exact ⟨k + 1, by omega, by go_num, by rw [Hf.out]; go_num, (Drew.refl _).drewN _⟩
      case measure => simp [intOf]; omega
    · obtain rfl : k = l := by omega
      go_wp2
      go_ret
      exact ⟨rfl, HW.out.trans (Go.Proofs.Ythingodgjeicpaa.Below.drewN (Below.refl _ _) _)⟩
end Go.Proofs.Ythingodgjeicpaa
