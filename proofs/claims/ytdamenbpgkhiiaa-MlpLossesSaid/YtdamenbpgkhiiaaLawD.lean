/-
  regattalaw07.plain, regattaref07.Net: where a layer's parameters begin, a weight, an offset.
-/
import Derived.Test.YtdamenbpgkhiiaaLawC
import Derived.Test.YtdamenbpgkhiiaaMlpK
namespace Go.Proofs.Ytdamenbpgkhiiaa
open Go.RowKit
set_option linter.unusedVariables false
set_option linter.unusedSimpArgs false

theorem eIs : Elem Try.prog 53 2 1 8 (.int .i64 0) := ⟨Try.underlying53, by kernel_rfl, rfl, by omega⟩
theorem eIs1 : ∃ i0, Try.prog.info? 2 = some i0 ∧ i0.zero = some (.int .i64 0) ∧ i0.size = 1 ∧ i0.bytes = 8 := info_parts eIs.inf

set_option maxHeartbeats 800000 in
theorem plain_any (a : Option Addr) (n c : Nat) (l : List Int) (w : World) (h : Rd w .i64 a n l) (hn : n ≤ 100000) :
    Calls Try.prog 42 #[.slice a n c] w fun e w' => ∃ v, e = .returned v ∧ Ow w' w.heap.size 2 .i64 v l ∧ Below w.heap.size w w' := by
  obtain ⟨i0, hi, hz0, hz1, hz2⟩ := eIs1
  have H := Lib.hid h; clear h
  go_enter Try.func42, Try.ntmps42
  go_wp2_with (at_make; refine wpList_make_own _ rfl _ _ 53 rfl w.heap.size 2 i0 (.int .i64 0) 1 eIs.und hi hz0 hz1 _ _ _ n rfl rfl rfl ?b1 ?b2 ?b3 ?_)
  case b1 => rw [hz2]; omega
  case b2 => unfold maxLen; omega
  case b3 => exact Nat.le_refl _
  intro w1 hown hg
  clear hi hz0 hz1 hz2
  have Hb1 : Hid (Below w.heap.size w w1) := Lib.hid ⟨hg.os, hg.tape, hg.output, hg.size, fun k hk => hg.block k hk (by simp)⟩
  have Ho1 := Lib.hid hown
  clear hown hg
  go_wp2
  go_loopw [3, 11] (fun lv k wr => ∃ o : Nat, o ≤ n ∧ k = .int .i64 o ∧ Hid (wr.ownsRow w.heap.size 2 1 lv o ((l.take o).map (Value.int .i64))) ∧ Hid (Below w.heap.size w wr)) (fun _ k _ => n - (intOf k).toNat)
  case atStart => exact ⟨0, Nat.zero_le _, rfl, Lib.hid (by simpa using Ho1.out), Hb1.out⟩
  case round =>
    obtain ⟨o, ho, rfl, hown, hb⟩ := hrel
    by_cases hlt : o < n
    · obtain ⟨ba, oa, rfl, hba, hca⟩ := (H.out.kept hb.out).at hlt
      have hzr := hb.out.size
      have Hs := Lib.hid (map_step (fun z => z) l o (by rw [H.out.1]; exact hlt))
      simp only [List.map_id'] at Hs
      generalize l[o]?.getD 0 = z at *
      go_wp2_with (at_builtin; refine wpl_app1 eIs rfl _ _ rfl w.heap.size _ o _ rfl (hown.out.alloc _) wr.heap.size (.int .i64 z) rfl (World.cell?_alloc_at _ _ _ _ rfl) rfl ?c3 ?c4 ?c5 ?_)
      case c3 => unfold maxLen; omega
      case c4 => omega
      case c5 => simp; omega
      intro v' w9 hown9 hg9
      have Hb9 := Lib.hid (Below.grownOf (hb.out.alloc hzr _) (hown.out.alloc _) hg9 (by simp; omega))
      have Hown9 := Lib.hid hown9
      clear hown9 hg9
      go_wp2
      go_roundw
      case rel => exact ⟨o + 1, by omega, by go_num, Lib.hid (by rw [Hs.out]; simpa using Hown9.out), Hb9.out⟩
      case measure => simp [intOf]; omega
    · obtain rfl : o = n := by omega
      have Hf : Hid (l.take o = l) := Lib.hid (List.take_of_length_le (by rw [H.out.1]; exact Nat.le_refl _))
      go_wp2
      go_ret
      exact ⟨_, rfl, Ow.of (n := o) (by have := hown.out; rw [Hf.out] at this; exact this), hb.out⟩

set_option maxHeartbeats 800000 in
set_option maxRecDepth 20000 in
theorem nplain_any (aS : Option Addr) (ns cS : Nat) (ap : Option Addr) (np cp : Nat) (p : List Int) (w : World) (h : Rd w .i64 ap np p) (hn : np ≤ 100000) :
    Calls Try.prog 37 #[.agg #[.slice aS ns cS, .slice ap np cp]] w fun e w' => ∃ a c, e = .returned (.agg #[.slice aS ns cS, .slice a np c]) ∧ Rd w' .i64 a np p ∧ (∀ y, a = some y → w.heap.size ≤ y.block) ∧ Below w.heap.size w w' := by
  have HP := Lib.hid (fun w' (hb : Below w.heap.size w w') => plain_any ap np cp p w' (h.kept hb) hn)
  have hl := h.1
  clear h
  go_enter Try.func37, Try.ntmps37
  go_wp2_with fail
  go_region_with first
    | ((with_reducible refine (HP.out _ (by (repeat first | assumption | exact Below.refl _ _ | refine Below.drew ?_ | refine Below.drewN ?_ _ | refine Below.alloc ?_ (by (first | omega | (simp; done) | (simp; omega))) _ | refine Below.setCell ?_ (by (first | omega | (simp; done) | (simp; omega))) _ | refine Below.trans ?_ (Below.mono (by assumption) (by (first | omega | (simp; done) | (simp; omega))))))).mono ?_); rintro e w1 ⟨v, rfl, ho, hb1⟩; obtain ⟨a, c, rfl, _, ha⟩ := ownsRow_form ho; obtain ⟨hc1, hf1⟩ := bcell hb1; have hz1 := hb1.size; (try simp at hz1 hc1 hf1); have lt1 : w.heap.size + 1 < w1.heap.size := (by omega); have lt1a : w.heap.size < w1.heap.size := (by omega))
    | fail
  all_goals
    have hr := Ow.rd ho (by omega)
    rw [hl] at hr
    have Hr := Lib.hid hr
    have Ha : Hid (∀ y, a = some y → w.heap.size + 2 ≤ y.block) := Lib.hid (fun y hy => by have := (ha y hy).1; simp at this; omega)
    have Hb : Hid (Below w.heap.size w w1) := Lib.hid (by (repeat first | assumption | exact Below.refl _ _ | refine Below.drew ?_ | refine Below.drewN ?_ _ | refine Below.alloc ?_ (by (first | omega | (simp; done) | (simp; omega))) _ | refine Below.setCell ?_ (by (first | omega | (simp; done) | (simp; omega))) _ | refine Below.trans ?_ (Below.mono (by assumption) (by (first | omega | (simp; done) | (simp; omega))))))
    clear hr ha ho
    go_wp2
    refine bodyPost_ret (v := .agg #[.slice aS ns cS, .slice a np c]) (by simp [results, Try.results37, go_sem, hc1, hf1, lt1]) rfl ⟨a, c, rfl, ?_, fun y hy => by have := Ha.out y hy; omega, ?_⟩
    · exact Hr.out.chg (((Chg.refl (fun k => k = w.heap.size + 1) w1).setCell_in ⟨w.heap.size + 1, 0, none⟩ (show w.heap.size + 1 = w.heap.size + 1 from rfl) _).setCell_in ⟨w.heap.size + 1, 1, none⟩ (show w.heap.size + 1 = w.heap.size + 1 from rfl) _) (fun y hy e => by have := Ha.out y hy; omega)
    · have := Hb.out
      (repeat first | assumption | exact Below.refl _ _ | refine Below.drew ?_ | refine Below.drewN ?_ _ | refine Below.alloc ?_ (by (first | omega | (simp; done) | (simp; omega))) _ | refine Below.setCell ?_ (by (first | omega | (simp; done) | (simp; omega))) _ | refine Below.trans ?_ (Below.mono (by assumption) (by (first | omega | (simp; done) | (simp; omega)))))

set_option maxHeartbeats 1600000 in
set_option maxRecDepth 20000 in
theorem First_any (bs os cS m : Nat) (s : List Int) (a : Option Addr) (np c l : Nat) (w : World) (hs : Rd w .i64 (some ⟨bs, os, none⟩) (m + 1) s) (hok : okS s) (hl : l ≤ m) :
    Calls Try.prog 67 #[.agg #[.slice (some ⟨bs, os, none⟩) (m + 1) cS, .slice a np c], .int .i64 l] w fun e w' => e = .returned (.int .i64 (fst s l)) ∧ Below w.heap.size w w' := by
  have hsl := hs.1
  have h6 := hok.2.1
  rw [hsl] at h6
  have HS := Lib.hid hs
  have HO := Lib.hid hok
  have HL := Lib.hid hsl
  have hbs : bs < w.heap.size := by obtain ⟨b', o', e, hb, _⟩ := hs.2.2 (by omega); cases e; exact hb
  clear hs hok hsl
  go_enter Try.func67, Try.ntmps67
  go_wp2
  generalize hW : w.alloc (.cells #[.slice (some ⟨bs, os, none⟩) (m + 1) cS, .slice a np c] _) = Wb
  have hWz : Wb.heap.size = w.heap.size + 1 := by rw [← hW]; simp
  have d0 : Wb.cell? ⟨w.heap.size, 0, none⟩ = some (.slice (some ⟨bs, os, none⟩) (m + 1) cS) := by rw [← hW]; exact World.cell?_alloc_at _ _ _ _ rfl
  have HW : Hid (Below w.heap.size w Wb) := Lib.hid (by rw [← hW]; (repeat first | assumption | exact Below.refl _ _ | refine Below.drew ?_ | refine Below.drewN ?_ _ | refine Below.alloc ?_ (by (first | omega | (simp; done) | (simp; omega))) _ | refine Below.setCell ?_ (by (first | omega | (simp; done) | (simp; omega))) _ | refine Below.trans ?_ (Below.mono (by assumption) (by (first | omega | (simp; done) | (simp; omega))))))
  clear hW
  go_loopw [5, 6] (fun v i wr => ∃ k : Nat, k ≤ l ∧ i = .int .i64 k ∧ v = .int .i64 (fst s k) ∧ Hid (Drew Wb wr)) (fun _ i _ => l - (intOf i).toNat)
  case atStart => exact ⟨0, Nat.zero_le _, rfl, rfl, Drew.refl _⟩
  case round =>
    obtain ⟨k, hk, rfl, rfl, hq⟩ := hrel
    obtain ⟨nd, rfl⟩ := hq.out
    by_cases hlt : k < l
    · obtain ⟨_, _, e1, _, hcell⟩ := (HS.out.kept HW.out).at (i := k) (by omega)
      cases e1
      obtain ⟨_, _, e1, _, hcell'⟩ := (HS.out.kept HW.out).at (i := k + 1) (by omega)
      cases e1
      obtain ⟨e0, _, q2⟩ := HO.out.szv (i := k) (by rw [HL.out]; omega)
      obtain ⟨e1, _, r2⟩ := HO.out.szv (i := k + 1) (by rw [HL.out]; omega)
      rw [e0] at hcell
      rw [e1] at hcell'
      have hfb := fst_bd (s := s) (m := m + 1) (fun i hi => (HO.out.2.2 i (by rw [HL.out]; omega)).2) k (by omega)
      have hmulb : szN s (k + 1) * szN s k ≤ 64 * 64 := Nat.mul_le_mul r2 q2
      have Hf : Hid (fst s (k + 1) = fst s k + (szN s (k + 1) * szN s k + szN s (k + 1))) := Lib.hid (fst_succ s k)
      clear e0 e1
      generalize szN s (k + 1) = p at *
      generalize szN s k = q at *
      generalize fst s k = f at *
      have hpq : (q : Int) * (p : Int) = ((p * q : Nat) : Int) := by simp [Int.mul_comm]
      generalize p * q = r at *
      have hk6 : k ≤ 6 := by omega
      go_wp2
      go_quiet (fail)
      go_wp2
      go_roundw
      case rel => exact ⟨k + 1, by omega, by go_num, by rw [Hf.out]; go_num, (Drew.refl _).drewN _⟩
      case measure => simp [intOf]; omega
    · obtain rfl : k = l := by omega
      go_wp2
      go_ret
      exact ⟨rfl, HW.out.trans (Go.Proofs.Ytdamenbpgkhiiaa.Below.drewN (Below.refl _ _) _)⟩

set_option maxHeartbeats 1600000 in
set_option maxRecDepth 20000 in
theorem Weight_any (bs os cS m : Nat) (s : List Int) (a : Option Addr) (np c : Nat) (p : List Int) (l o i : Nat) (w : World) (hs : Rd w .i64 (some ⟨bs, os, none⟩) (m + 1) s) (hok : okS s) (hl : l < m) (ho : o < 64) (hi : i < 64) (hp : Rd w .i64 a np p) (hix : fst s l + o * szN s l + i < np) (hn : np ≤ 100000) :
    Calls Try.prog 38 #[.agg #[.slice (some ⟨bs, os, none⟩) (m + 1) cS, .slice a np c], .int .i64 l, .int .i64 o, .int .i64 i] w fun e w' => e = .returned (.int .i64 (p[fst s l + o * szN s l + i]?.getD 0)) ∧ Below w.heap.size w w' := by
  have HF := Lib.hid (fun w' (hb : Below w.heap.size w w') => First_any bs os cS m s a np c l w' (hs.kept hb) hok (by omega))
  obtain ⟨bp, op, rfl, hbp, hcp⟩ := hp.at hix
  obtain ⟨_, _, e1, hbs, hcs⟩ := hs.at (i := l) (by omega)
  cases e1
  obtain ⟨e0, _, q2⟩ := hok.szv (i := l) (by rw [hs.1]; omega)
  rw [e0] at hcs
  clear hs hok hp e0
  generalize hq : szN s l = q at *
  obtain ⟨oc, hoc⟩ : ∃ oc, o * q = oc := ⟨_, rfl⟩
  have hmul : (o : Int) * (q : Int) = (oc : Int) := by rw [← hoc]; simp
  rw [hoc] at hcp hix ⊢
  have Hoc := Lib.hid hoc
  clear hoc
  generalize fst s l = f at *
  obtain ⟨x, hx⟩ : ∃ x, f + oc = x := ⟨_, rfl⟩
  obtain ⟨y, hy⟩ : ∃ y, x + i = y := ⟨_, rfl⟩
  have hax : (f : Int) + (oc : Int) = (x : Int) := by omega
  have hay : (x : Int) + (i : Int) = (y : Int) := by omega
  rw [hx, hy] at hcp hix ⊢
  have hw1 : IntKind.i64.wrap (oc : Int) = (oc : Int) := by rw [IntKind.wrap_i64]; omega
  have hw2 : IntKind.i64.wrap (x : Int) = (x : Int) := by rw [IntKind.wrap_i64]; omega
  have hw3 : IntKind.i64.wrap (y : Int) = (y : Int) := by rw [IntKind.wrap_i64]; omega
  have hlm : l < m + 1 := by omega
  have hlmi : (l : Int) < (m : Int) + 1 := by omega
  have hl0 : (0 : Int) ≤ (l : Int) := by omega
  generalize p[y]?.getD 0 = z at *
  have Hx := Lib.hid hx
  have Hy := Lib.hid hy
  clear hx hy
  go_enter Try.func38, Try.ntmps38
  go_wp2
  go_region_held3 (fun w' => w'.cell? ⟨w.heap.size, 0, none⟩ = some (.slice (some ⟨bs, os, none⟩) (m + 1) cS) ∧ w'.cell? ⟨w.heap.size, 1, none⟩ = some (.slice (some ⟨bp, op, none⟩) np c) ∧ w'.cell? ⟨bs, os + l, none⟩ = some (.int .i64 (q : Int)) ∧ w'.cell? ⟨bp, op + y, none⟩ = some (.int .i64 z))
    (first | assumption | go_keep)
    (first
      | (go_at_call 67; refine (HF.out _ (by (repeat first | assumption | exact Below.refl _ _ | refine Below.drew ?_ | refine Below.drewN ?_ _ | refine Below.alloc ?_ (by (first | omega | (simp; done) | (simp; omega))) _ | refine Below.setCell ?_ (by (first | omega | (simp; done) | (simp; omega))) _ | refine Below.trans ?_ (Below.mono (by assumption) (by (first | omega | (simp; done) | (simp; omega))))))).mono ?_; rintro e w5 ⟨rfl, hb5⟩; have hz5 := hb5.size; obtain ⟨hc5, hf5⟩ := bcell hb5; (try simp at hz5 hc5 hf5); have s5 : w5.cell? ⟨w.heap.size, 0, none⟩ = some (.slice (some ⟨bs, os, none⟩) (m + 1) cS) ∧ w5.cell? ⟨w.heap.size, 1, none⟩ = some (.slice (some ⟨bp, op, none⟩) np c) ∧ w5.cell? ⟨bs, os + l, none⟩ = some (.int .i64 (q : Int)) ∧ w5.cell? ⟨bp, op + y, none⟩ = some (.int .i64 z) := ⟨(hc5 _ _ (by omega)).trans (by go_simp), (hc5 _ _ (by omega)).trans (by go_simp), (hc5 _ _ (by omega)).trans (by go_simp), (hc5 _ _ (by omega)).trans (by go_simp)⟩; have Hb5 : Hid (Below w.heap.size w w5) := Lib.hid (by (repeat first | assumption | exact Below.refl _ _ | refine Below.drew ?_ | refine Below.drewN ?_ _ | refine Below.alloc ?_ (by (first | omega | (simp; done) | (simp; omega))) _ | refine Below.setCell ?_ (by (first | omega | (simp; done) | (simp; omega))) _ | refine Below.trans ?_ (Below.mono (by assumption) (by (first | omega | (simp; done) | (simp; omega))))))))
  all_goals go_wp2
  all_goals go_ret
  all_goals exact ⟨rfl, Hb5.out⟩
set_option maxHeartbeats 1600000 in
set_option maxRecDepth 20000 in
theorem Offset_any (bs os cS m : Nat) (s : List Int) (a : Option Addr) (np c : Nat) (p : List Int) (l o : Nat) (w : World) (hs : Rd w .i64 (some ⟨bs, os, none⟩) (m + 1) s) (hok : okS s) (hl : l < m) (ho : o < 64) (hp : Rd w .i64 a np p) (hix : fst s l + szN s (l + 1) * szN s l + o < np) (hn : np ≤ 100000) (hm5 : m ≤ 5) :
    Calls Try.prog 39 #[.agg #[.slice (some ⟨bs, os, none⟩) (m + 1) cS, .slice a np c], .int .i64 l, .int .i64 o] w fun e w' => e = .returned (.int .i64 (p[fst s l + szN s (l + 1) * szN s l + o]?.getD 0)) ∧ Below w.heap.size w w' := by
  have HF := Lib.hid (fun w' (hb : Below w.heap.size w w') => First_any bs os cS m s a np c l w' (hs.kept hb) hok (by omega))
  obtain ⟨bp, op, rfl, hbp, hcp⟩ := hp.at hix
  obtain ⟨_, _, e1, hbs, hcs⟩ := hs.at (i := l) (by omega)
  cases e1
  obtain ⟨_, _, e1, _, hcs1⟩ := hs.at (i := l + 1) (by omega)
  cases e1
  obtain ⟨e0, _, q2⟩ := hok.szv (i := l) (by rw [hs.1]; omega)
  obtain ⟨e1, _, r2⟩ := hok.szv (i := l + 1) (by rw [hs.1]; omega)
  rw [e0] at hcs
  rw [e1] at hcs1
  clear hs hok hp e0 e1
  generalize hq : szN s l = q at *
  generalize hr : szN s (l + 1) = r at *
  obtain ⟨oc, hoc⟩ : ∃ oc, r * q = oc := ⟨_, rfl⟩
  have hmul : (q : Int) * (r : Int) = (oc : Int) := by rw [← hoc, Int.mul_comm]; simp
  rw [hoc] at hcp hix ⊢
  have Hoc := Lib.hid hoc
  clear hoc
  generalize fst s l = f at *
  obtain ⟨x, hx⟩ : ∃ x, f + oc = x := ⟨_, rfl⟩
  obtain ⟨y, hy⟩ : ∃ y, x + o = y := ⟨_, rfl⟩
  have hax : (f : Int) + (oc : Int) = (x : Int) := by omega
  have hay : (x : Int) + (o : Int) = (y : Int) := by omega
  rw [hx, hy] at hcp hix ⊢
  have hw1 : IntKind.i64.wrap (oc : Int) = (oc : Int) := by rw [IntKind.wrap_i64]; omega
  have hw2 : IntKind.i64.wrap (x : Int) = (x : Int) := by rw [IntKind.wrap_i64]; omega
  have hw3 : IntKind.i64.wrap (y : Int) = (y : Int) := by rw [IntKind.wrap_i64]; omega
  have hw4 : IntKind.i64.wrap ((l : Int) + 1) = (l : Int) + 1 := by rw [IntKind.wrap_i64]; omega
  have hlm : l < m + 1 := by omega
  have hlm1 : l + 1 < m + 1 := by omega
  have hlmi : (l : Int) < (m : Int) + 1 := by omega
  have hlmi1 : (l : Int) + 1 < (m : Int) + 1 := by omega
  have hl0 : (0 : Int) ≤ (l : Int) := by omega
  have hl1 : (0 : Int) ≤ (l : Int) + 1 := by omega
  have hlmi2 : (l : Int) < (m : Int) := by omega
  generalize p[y]?.getD 0 = z at *
  have Hx := Lib.hid hx
  have Hy := Lib.hid hy
  clear hx hy
  go_enter Try.func39, Try.ntmps39
  go_wp2
  go_region_held3 (fun w' => w'.cell? ⟨w.heap.size, 0, none⟩ = some (.slice (some ⟨bs, os, none⟩) (m + 1) cS) ∧ w'.cell? ⟨w.heap.size, 1, none⟩ = some (.slice (some ⟨bp, op, none⟩) np c) ∧ w'.cell? ⟨bs, os + l, none⟩ = some (.int .i64 (q : Int)) ∧ w'.cell? ⟨bs, os + (l + 1), none⟩ = some (.int .i64 (r : Int)) ∧ w'.cell? ⟨bp, op + y, none⟩ = some (.int .i64 z))
    (first | assumption | go_keep)
    (first
      | (go_at_call 67; refine (HF.out _ (by (repeat first | assumption | exact Below.refl _ _ | refine Below.drew ?_ | refine Below.drewN ?_ _ | refine Below.alloc ?_ (by (first | omega | (simp; done) | (simp; omega))) _ | refine Below.setCell ?_ (by (first | omega | (simp; done) | (simp; omega))) _ | refine Below.trans ?_ (Below.mono (by assumption) (by (first | omega | (simp; done) | (simp; omega))))))).mono ?_; rintro e w5 ⟨rfl, hb5⟩; have hz5 := hb5.size; obtain ⟨hc5, hf5⟩ := bcell hb5; (try simp at hz5 hc5 hf5); have s5 : w5.cell? ⟨w.heap.size, 0, none⟩ = some (.slice (some ⟨bs, os, none⟩) (m + 1) cS) ∧ w5.cell? ⟨w.heap.size, 1, none⟩ = some (.slice (some ⟨bp, op, none⟩) np c) ∧ w5.cell? ⟨bs, os + l, none⟩ = some (.int .i64 (q : Int)) ∧ w5.cell? ⟨bs, os + (l + 1), none⟩ = some (.int .i64 (r : Int)) ∧ w5.cell? ⟨bp, op + y, none⟩ = some (.int .i64 z) := ⟨(hc5 _ _ (by omega)).trans (by go_simp), (hc5 _ _ (by omega)).trans (by go_simp), (hc5 _ _ (by omega)).trans (by go_simp), (hc5 _ _ (by omega)).trans (by go_simp), (hc5 _ _ (by omega)).trans (by go_simp)⟩; have Hb5 : Hid (Below w.heap.size w w5) := Lib.hid (by (repeat first | assumption | exact Below.refl _ _ | refine Below.drew ?_ | refine Below.drewN ?_ _ | refine Below.alloc ?_ (by (first | omega | (simp; done) | (simp; omega))) _ | refine Below.setCell ?_ (by (first | omega | (simp; done) | (simp; omega))) _ | refine Below.trans ?_ (Below.mono (by assumption) (by (first | omega | (simp; done) | (simp; omega))))))))
  all_goals go_wp2
  all_goals go_ret
  all_goals exact ⟨rfl, Hb5.out⟩
end Go.Proofs.Ytdamenbpgkhiiaa
